/-
  AskReads: for every text, question and count of bulk at most 1048576: the two readers agree, the two writers agree, the two numerals agree: the law returns true.
  CONDITIONS: the row's own ('laid': the library's variables hold what its text lays; tied by the card); the second form's bound on what is read.
-/
import Derived.Test.YtopccnoinngmbaaGreatDoorCards
import Derived.Test.YtopccnoinngmbaaGreatDoorTie
import Derived.Test.YtopccnoinngmbaaGreatDoorA26
import Derived.Test.YtopccnoinngmbaaGreatDoorA27
import Derived.Test.YtopccnoinngmbaaGreatDoorA28
import Derived.Test.YtopccnoinngmbaaGreatDoorA44
import Derived.WalkKit
import Derived.ProofKit
import Derived.OpenShut
namespace Go.Proofs.YtopccnoinngmbaaGreatDoor
open Go.ChangeShapes Go.WideShapes Go.RowKit
open Go.ChangeMaps (open_string shut_string)
set_option maxRecDepth 100000
set_option linter.unusedVariables false

theorem own : ownKnob Tryz.prog.godebug = none := by kernel_rfl
theorem contract (H : Type) (enc : TypeId × Value → H) (W : World) (base : Nat) (args : Array Value) (ds gs : List (DataW H)) (before : List MemPlace)
    (hval : ∀ (j : Nat) t v, Tryz.f3.params[j]? = some t → args[j]? = some v → Value.okWide Tryz.prog W .any base t v)
    (hW : DataW.Whole enc Tryz.prog Tryz.f3.params.toList Rows.askReadsSpec.vars false W args.toList ds gs before)
    (hk : Rows.uptoSmall H (ds ++ gs) = true) (hL : laidMetH Tryz.prog Rows.askReadsUptoRow.laid W) (hsh : W.ShapedOpen Tryz.prog) :
    Calls Tryz.prog 3 args W fun e W' => ∃ v, e = .returned v ∧ Rows.askReadsSpec.post enc Tryz.prog Tryz.f3 false true false false W args v W' := by
  have hW' := hW
  obtain ⟨p, q, hA0, hV, rfl, hfz, hnd⟩ := hW
  have hA : DataW.TrodAll enc Tryz.prog W 0 (fun _ => true) true Tryz.f3.params.toList args.toList ds p := hA0
  rw [Tryz.params3] at hA hval
  obtain ⟨v0, vs0, d0, ds0, p0, q0, hargs, rfl, rfl, h0, r0⟩ := trodAll_cons hA
  obtain ⟨v1, vs1, d1, ds1, p1, q1, rfl, rfl, rfl, h1, r1⟩ := trodAll_cons r0
  obtain ⟨v2, vs2, d2, ds2, p2, q2, rfl, rfl, rfl, h2, r2⟩ := trodAll_cons r1
  obtain ⟨rfl, rfl, rfl⟩ := trodAll_nil r2
  obtain rfl : args = #[v0, v1, v2] := by cases args; simp_all
  obtain ⟨rfl, rfl⟩ := trodVars_none hV
  obtain ⟨s, rfl, rfl, rfl, ws⟩ := open_string Tryz.underlying9 (hval 0 9 v0 rfl rfl) h0
  obtain ⟨c1, rfl, -⟩ := okWide_struct Tryz.underlying34 (hval 1 34 v1 rfl rfl)
  obtain ⟨c2, rfl, -⟩ := okWide_struct Tryz.underlying37 (hval 2 37 v2 rfl rfl)
  obtain ⟨f1, h1⟩ := h1
  obtain ⟨f2, h2⟩ := h2
  obtain ⟨x0, x1, x2, x3, x4, x5, x6, x7, x8, x9, x10, x11, x12, x13, x14, x15, x16, x17, x18, x19, x20, x21, e1, e1', w0, w1, w2, w3, w4, w6, w7, w8, w9, w10, w11, w12, w13, w14, w15, w16, w17, w18, w19, w20, w21⟩ := open34 h1
  obtain ⟨y0, y1, e2, e2', u0, u1⟩ := open37 h2
  have e1 : c1.toList = [.int .u8 x0, .string x1, .string x2, .string x3, .int .u8 x4, .bool x5, .int .i64 x6, .int .u32 x7, .int .i64 x8, .int .u32 x9, .int .i64 x10, .int .u32 x11, .int .u32 x12, .int .u32 x13, .int .u32 x14, .int .u32 x15, .int .u32 x16, .int .u8 x17, .int .u16 x18, .int .u16 x19, .int .i64 x20, .int .u32 x21] := e1
  have e2 : c2.toList = [.int .u64 y0, .int .u64 y1] := e2
  obtain ⟨q, hq⟩ : ∃ q : Q, q = ⟨x0, x1, x2, x3, x4, x5, x6, x7, x8, x9, x10, x11, x12, x13, x14, ⟨x15, x16, x17, x18, x19⟩, x20, x21⟩ := ⟨_, rfl⟩
  have ec1 : c1 = q.cells := by rw [hq]; exact Array.toList_inj.1 (by rw [e1]; rfl)
  have ec2 : c2 = #[.int .u64 y0, .int .u64 y1] := Array.toList_inj.1 (by rw [e2])
  subst ec2
  simp only [Prod.mk.injEq] at e1' e2'
  obtain ⟨rfl, rfl⟩ := e1'
  obtain ⟨rfl, rfl⟩ := e2'
  have ok : q.Ok := by
    rw [hq]
    have a0 := bounds_u8 w0
    have a4 := bounds_u8 w4
    have a6 := bounds_i64 w6
    have a7 := bounds_u32 w7
    have a8 := bounds_i64 w8
    have a9 := bounds_u32 w9
    have a10 := bounds_i64 w10
    have a11 := bounds_u32 w11
    have a12 := bounds_u32 w12
    have a13 := bounds_u32 w13
    have a14 := bounds_u32 w14
    have a15 := bounds_u32 w15
    have a16 := bounds_u32 w16
    have a17 := bounds_u8 w17
    have a18 := bounds_u16 w18
    have a19 := bounds_u16 w19
    have a20 := bounds_i64 w20
    have a21 := bounds_u32 w21
    constructor <;> first | (simp only; omega) | (constructor <;> (simp only; omega))
  have hbulk : s.size + x1.size + x2.size + x3.size ≤ 1048576 := by
    have h : Rows.uptoBulkAll _ ≤ 1048576 := of_decide_eq_true hk
    simp only [List.append_nil, Rows.uptoBulkAll, Rows.uptoBulk] at h
    have z0 : s.data.toList.length = s.size := Array.length_toList
    have z1 : x1.data.toList.length = x1.size := Array.length_toList
    have z2 : x2.data.toList.length = x2.size := Array.length_toList
    have z3 : x3.data.toList.length = x3.size := Array.length_toList
    omega
  have b0 := bounds_u64 u0
  have b1 := bounds_u64 u1
  have hz : q.dev.size + q.ifc.size + q.vrf.size ≤ 1048576 := by rw [hq]; simp only; omega
  have hwalk := reads_any s (by omega) q ok hz y0 y1 b0.1 (by omega) b1.1 (by omega) (env_of hL hsh)
  rw [← ec1] at hwalk
  refine hwalk.mono fun e W' ⟨he, hb⟩ => ?_
  subst he
  have back1 : ∀ (w : World) (base : Nat) (sp : Nat → Bool) (held : Bool), DataW.Trod enc Tryz.prog w base sp held 34 (.agg c1) (.agg [.lit (.int .u8 x0), .lit (.string x1.data.toList), .lit (.string x2.data.toList), .lit (.string x3.data.toList), .lit (.int .u8 x4), .agg [.lit (.bool x5), .lit (.int .i64 x6), .agg [.lit (.int .u32 x7), .lit (.int .i64 x8)], .agg [.lit (.int .u32 x9), .lit (.int .i64 x10)], .agg [.lit (.int .u32 x11), .lit (.int .u32 x12)], .agg [.lit (.int .u32 x13), .lit (.int .u32 x14)]], .agg [.lit (.int .u32 x15), .lit (.int .u32 x16), .lit (.int .u8 x17), .lit (.int .u16 x18), .lit (.int .u16 x19)], .lit (.int .i64 x20), .lit (.int .u32 x21)]) [] :=
    fun w base sp held => ⟨_, by show DataW.trod _ _ _ _ _ _ _ _ c1.toList = _; rw [e1]; exact shut34 0 w0 w1 w2 w3 w4 w6 w7 w8 w9 w10 w11 w12 w13 w14 w15 w16 w17 w18 w19 w20 w21⟩
  have back2 : ∀ (w : World) (base : Nat) (sp : Nat → Bool) (held : Bool), DataW.Trod enc Tryz.prog w base sp held 37 (.agg #[.int .u64 y0, .int .u64 y1]) (.agg [.lit (.int .u64 y0), .lit (.int .u64 y1)]) [] :=
    fun w base sp held => ⟨_, shut37 0 u0 u1⟩
  simp only [List.append_nil] at hW'
  refine ⟨_, rfl, _, _, _, [], [], [], hW', ?_, ?_, rfl, hb.frame _, fun h => by cases h⟩
  · exact trodAll_cons_mk (shut_bool Tryz.underlying4 _) trodAll_mk0
  · exact trodAll_cons_mk (shut_string Tryz.underlying9 ws) (trodAll_cons_mk (back1 _ _ _ _) (trodAll_cons_mk (back2 _ _ _ _) trodAll_mk0))

theorem lifted (os : Os) (started : os.Started) (H : Type) (enc : TypeId × Value → H) (F : Stop.Interp) :
    ReturnsInHanded {} Tryz.checked os 3 .any ((Rows.OpenSpec.upto Rows.askReadsSpec).preRow enc Tryz.prog Tryz.f3 Rows.askReadsUptoRow.domain false Rows.askReadsUptoRow.laid) (((Rows.OpenSpec.upto Rows.askReadsSpec).at F).post enc Tryz.prog Tryz.f3 false true false false) := by
  refine returnsInHanded_of_row (C := Tryz.checked) (s := Rows.OpenSpec.upto Rows.askReadsSpec) own started (by kernel_rfl) Tryz.func3
    (witness_row_atRef (enc := enc) (C := Tryz.checked) false (laidWorld os) wargs rfl (wit_ref os) (wit_rest os) (wit_ok os) (wit_row os enc)) ?_
  intro W base args ds gs before hval hW _ hcond _ hL hsh _
  exact contract H enc W base args ds gs before hval hW (hcond _ rfl) hL hsh
theorem saidUpto : Rows.AskReadsUptoSaid :=
  OpenClaim.holds_of_cond 3 Tryz.f3 rfl rfl rfl rfl rfl rfl rfl ⟨rfl, rfl, rfl, rfl, rfl⟩ rfl rfl rfl rfl rfl (by kernel_rfl) Tryz.func3 (by kernel_rfl)
    (of_decide_eq_true (by kernel_rfl)) (by unfold Func.isWrapper; first | (rw [if_pos (by decide +kernel)]; kernel_rfl) | (rw [if_neg (by decide +kernel)]; exact ⟨rfl, rfl⟩))
    (fun os started H enc _ F => by rw [OpenClaim.pre_eq_preRow]; exact lifted os started H enc F)
/-- No parameter wants a stand-in; the program's own looks are off: what the card asks. -/
theorem plain (f : FuncId) (fn : Func) (hf : Tryz.pinned.checked.prog.funcNamed "waymark/waymarklaw29.AskReads" = some f) (hfn : Tryz.pinned.checked.prog.funcs[f]? = some fn) :
    true = Tryz.pinned.checked.prog.looks [] ∧ ∀ (j : Nat) t, fn.params[j]? = some t → Tryz.pinned.checked.prog.wantsStandIn t = false := by
  obtain rfl : f = 3 := Option.some.inj ((show Tryz.prog.funcNamed "waymark/waymarklaw29.AskReads" = some 3 by kernel_rfl).symm.trans hf) |>.symm
  obtain rfl : fn = Tryz.f3 := (Option.some.inj (Tryz.func3.symm.trans hfn)).symm
  refine ⟨by kernel_rfl, fun j t ht => ?_⟩
  rw [Tryz.params3] at ht
  have : t = 9 ∨ t = 34 ∨ t = 37 := by simpa using Array.mem_of_getElem? ht
  rcases this with rfl | rfl | rfl
  · exact (show Tryz.prog.wantsStandIn 9 = false by kernel_rfl)
  · exact (show Tryz.prog.wantsStandIn 34 = false by kernel_rfl)
  · exact (show Tryz.prog.wantsStandIn 37 = false by kernel_rfl)
/-- The second form's card. -/
theorem askReads_card : Rows.AskReadsUptoCardSaid :=
  Claim7.holds_tied_plain_at .later [] _ _ _ _ saidUpto (fun _ h => by cases h) (by kernel_rfl) (fun _ h => by cases h) askReadsUpto_row_tie rfl ⟨rfl, rfl⟩ (by kernel_rfl) rfl plain (by kernel_rfl)
end Go.Proofs.YtopccnoinngmbaaGreatDoor
