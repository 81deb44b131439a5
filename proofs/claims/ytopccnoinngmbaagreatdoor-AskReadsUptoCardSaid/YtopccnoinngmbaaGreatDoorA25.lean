/-
  ask.Text walked: the rest.
-/
import Derived.Test.YtopccnoinngmbaaGreatDoorA20
import Derived.Test.YtopccnoinngmbaaGreatDoorA24
import Derived.Deep.DeepCutAuto
import Derived.Deep.RegionHeld3
import Derived.Outline
import Derived.Laws.EntriesVeiled
namespace Go.Proofs.YtopccnoinngmbaaGreatDoor
open Go.RowKit
set_option maxRecDepth 100000
set_option maxHeartbeats 16000000
set_option linter.unusedVariables false
set_option linter.unusedSimpArgs false

theorem TI.c17 {w W : World} {q : Q} {ws : List ByteArray} (H : TI w q ws W) : W.cell? ⟨w.heap.size, 0, none⟩ = some (.int .u8 q.kind) ∧ W.cell? ⟨w.heap.size, 20, none⟩ = some (.int .i64 q.hops) ∧ W.cell? ⟨w.heap.size, 15, none⟩ = some (.int .u32 q.hd.src) ∧
    W.cell? ⟨w.heap.size, 16, none⟩ = some (.int .u32 q.hd.dst) ∧ W.cell? ⟨w.heap.size, 17, none⟩ = some (.int .u8 q.hd.proto) ∧ W.cell? ⟨w.heap.size, 18, none⟩ = some (.int .u16 q.hd.sport) ∧ W.cell? ⟨w.heap.size, 19, none⟩ = some (.int .u16 q.hd.dport) :=
  ⟨H.cell 0, H.cell 20, H.cell 15, H.cell 16, H.cell 17, H.cell 18, H.cell 19⟩
theorem TI.c19 {w W : World} {q : Q} {ws : List ByteArray} (H : TI w q ws W) : W.cell? ⟨w.heap.size, 0, none⟩ = some (.int .u8 q.kind) ∧ W.cell? ⟨w.heap.size, 21, none⟩ = some (.int .u32 q.addr) := ⟨H.cell 0, H.cell 21⟩
theorem wpList_load_row_g {P : Program} {ops : Array Oper} {rest : List Oper} {o : Oper} {a : Act} {w : World} {Q : Exit → Act → World → Prop} (ty : TypeId) (x : Operand) (ho : o.op = .load ty x)
    (hw : Region.wanted o (yielded ops a.tmps) = true)
    (g : Nat) (hx : a.eval x = .pointer (some ⟨g, 0, none⟩)) (t : TypeId) (cs : Array Value) (fr : Nat × Nat) (d : TypeDesc) (hg : w.heap[g]? = some (.cells cs t fr))
    (hu : P.underlying ty = some d) (hd : (match d with | .struct _ | .array _ _ => true | _ => false) = true) (hi : (P.info? ty).map (·.size) = some cs.size)
    (h : wpList P ops Q rest (a.put o.dst (.agg cs)) w) : wpList P ops Q (o :: rest) a w :=
  wpList_step fun K' hK => by
    rw [if_pos hw]
    exact wp_load_row ty x ho g hx t cs fr d hg hu hd hi (hK _ _ h)
theorem empty_iff {s : ByteArray} : s.toList.isEmpty = true ↔ s = ⟨#[]⟩ := by
  rw [ByteArray.toList_eq]
  obtain ⟨⟨l⟩⟩ := s
  cases l <;> simp
theorem joinL_count (l : List (List UInt8)) : l.length ≤ (joinL 32 l).length + 1 := by
  match l with
  | [] => simp
  | [x] => simp
  | x :: y :: t =>
    have := joinL_count (y :: t)
    rw [joinL_cons 32 x (by simp)]
    simp at this ⊢
    omega
theorem join_any2 {A : Option Addr} {c : Nat} {ws : List ByteArray} {n : Nat} {W : World} (hn : ws.length = n) (h : SS W A ws) (hc : n ≤ c) (hj : (joinB ws).size ≤ 16777216) :
    Calls Tryz.prog 24 #[.slice A n c, .string ⟨#[32]⟩] W fun e w' => e = .returned (.string (joinB ws)) ∧ Below W.heap.size W w' := by
  subst hn
  rcases h with rfl | ⟨b, o, cs, fr, rfl, hb, hcs⟩
  · exact (Tryz.strings_Join_none A c ⟨#[32]⟩ W).mono fun e w' ⟨he, hw⟩ => ⟨he, hw ▸ Below.refl _ _⟩
  · have hj2 : (joinL 32 (ws.map (·.data.toList))).length ≤ 16777216 := by rw [← joinB_size]; exact hj
    have hws : ws.length ≤ 140737488355328 ∨ True := .inr trivial
    have he : Lib.join (ws.map (·.data.toList)) (⟨#[32]⟩ : ByteArray).data.toList = joinL 32 (ws.map (·.data.toList)) := join_eq 32 _
    have hlen : ws.length ≤ 140737488355328 := by have := joinL_count (ws.map (·.data.toList)); rw [List.length_map] at this; omega
    have := Tryz.strings_Join b o c ws ⟨#[32]⟩ W (fun j x hx => by simp [World.cell?, hb, hcs j x hx]) (lt_of_block hb) hlen hc (by rw [he]; omega)
    rw [he] at this
    exact this
theorem TI.slice {w W : World} {q : Q} {ws : List ByteArray} (H : TI w q ws W) : ∃ ao c, W.cell? ⟨w.heap.size + 1, 0, none⟩ = some (.slice ao ws.length c) ∧ ws.length ≤ c ∧ SS W ao ws := by
  obtain ⟨v, hv, ho⟩ := H.var
  rcases ho.2 with ⟨rfl, hn⟩ | ⟨g, cap, cur, rfl, hb, hg, hnc, hcm, hcs, ht⟩
  · have hw : ws = [] := List.length_eq_zero_iff.1 hn
    subst hw
    exact ⟨none, 0, cell_of_one hv, Nat.le_refl _, .inl rfl⟩
  · refine ⟨_, cap, cell_of_one hv, hnc, .inr ⟨g, 0, cur, (0, 0), rfl, hg, fun j x hj => ?_⟩⟩
    have h1 : (ws.map Value.string)[j]? = some (.string x) := by simp [hj]
    rw [← ht, List.getElem?_take] at h1
    split at h1
    · simpa using h1
    · cases h1
/-- The question of a text. -/
def pAsk (s : ByteArray) : Option Q := if (fin (spl 32 s)).1.2 || !(fin (spl 32 s)).1.1.isEmpty then none else some (fin (spl 32 s)).2
theorem pAsk_out (s : ByteArray) : outQ (fin (spl 32 s)).1 (fin (spl 32 s)).2 = match pAsk s with
    | some x => .tuple #[.agg x.cells, .int .i64 0]
    | none => .tuple #[.agg Q.zero.cells, .int .i64 4] := by
  unfold outQ pAsk
  split <;> rfl
theorem parse_none {s : ByteArray} (h : pAsk s = none) (hs : s.size ≤ 4194304) {w : World} (E : Env w) : Calls Tryz.prog 4 #[.string s] w fun e w' => e = .returned (.tuple #[.agg Q.zero.cells, .int .i64 4]) ∧ Below w.heap.size w w' := by
  have := parse_any s hs E
  rw [pAsk_out, h] at this
  exact this
theorem parse_some {s : ByteArray} {x : Q} (h : pAsk s = some x) (hs : s.size ≤ 4194304) {w : World} (E : Env w) : Calls Tryz.prog 4 #[.string s] w fun e w' => e = .returned (.tuple #[.agg x.cells, .int .i64 0]) ∧ Below w.heap.size w w' := by
  have := parse_any s hs E
  rw [pAsk_out, h] at this
  exact this
def tR (q : Q) : List ByteArray := if q.kind < 4 then tE q else tw4 q
def tF (q : Q) : List ByteArray := onto (q.kind == 4) (tR q) [wd (Lib.itoa q.hops), wd (textH q.hd)]
def tG (q : Q) : List ByteArray := onto ((q.kind == 5 || q.kind == 6) && decide (q.vrf ≠ ⟨#[]⟩)) (tF q) [wVrf, q.vrf]
def tH (q : Q) : List ByteArray := onto (q.kind == 7) (tG q) [wd (textA q.addr)]
theorem tH_len (q : Q) : (tR q).length ≤ 14 ∧ (tF q).length ≤ 16 ∧ (tG q).length ≤ 18 ∧ (tH q).length ≤ 19 := by
  obtain ⟨-, -, -, h4⟩ := tw4_len q
  obtain ⟨-, -, -, -, hE⟩ := tE_len q
  have hR : (tR q).length ≤ 14 := by unfold tR; split <;> omega
  have hF := onto_len (q.kind == 4) (tR q) [wd (Lib.itoa q.hops), wd (textH q.hd)]
  have hG := onto_len ((q.kind == 5 || q.kind == 6) && decide (q.vrf ≠ ⟨#[]⟩)) (tF q) [wVrf, q.vrf]
  have hH := onto_len (q.kind == 7) (tG q) [wd (textA q.addr)]
  have eF : tF q = onto (q.kind == 4) (tR q) [wd (Lib.itoa q.hops), wd (textH q.hd)] := rfl
  have eG : tG q = onto ((q.kind == 5 || q.kind == 6) && decide (q.vrf ≠ ⟨#[]⟩)) (tF q) [wVrf, q.vrf] := rfl
  have eH : tH q = onto (q.kind == 7) (tG q) [wd (textA q.addr)] := rfl
  rw [← eF] at hF; rw [← eG] at hG; rw [← eH] at hH
  simp only [List.length_cons, List.length_nil] at hF hG hH
  omega
/-- What ask.Text answers. -/
def outT (q : Q) : Value := if (match pAsk (joinB (tH q)) with | some x => x.beq q | none => false) then .tuple #[.string (joinB (tH q)), .int .i64 0] else .tuple #[.string ⟨#[]⟩, .int .i64 1]
theorem text_rest {u9 u10 u11 u12 u13 u14 u15 u16 u17 u18 u19 u20 u21 u22 u23 u24 u25 u26 u27 u28 u29 u30 u31 u32 u33 u34 u35 u36 u37 u38 u39 u40 u41 u42 u43 u44 u45 u46 u47 u48 u49 u50 u51 u52 u53 u54 u55 u56 u57 u58 u59 u60 u61 u62 u63 u64 u65 u66 u67 u68 u69 u70 u71 u72 u73 u74 u75 u76 u77 u78 u79 u80 u81 u82 u83 u84 u85 u86 u87 u88 u89 u90 u91 u92 u93 u94 u95 u96 u97 u98 u99 u100 u101 u102 u103 u104 u105 u106 u107 u108 u109 u110 u111 u112 u113 u114 u115 u116 u117 u118 u119 u120 u121 u122 u123 u124 u125 u126 u127 u128 u129 u130 u131 u132 u133 u134 u135 u136 u137 u138 u139 u140 u141 u142 u143 u144 u145 u146 u147 u148 u149 u150 u151 u152 u153 u154 u155 u156 u157 : Value} {w wx : World} {q : Q} {out : Value} (E : Env w) (ok : q.Ok) (H : TI w q (tR q) wx) (hj : (joinB (tH q)).size ≤ 4194304) (HO : Hid (outT q = out)) :
    Code.wp Tryz.prog cTrest (bodyPost Tryz.prog Tryz.f6 (Rq w out)) ⟨#[.agg q.cells, .pointer (some ⟨w.heap.size, 0, none⟩), .string ⟨#[]⟩, .int .i64 0, .pointer (some ⟨w.heap.size + 1, 0, none⟩), .func (.func 35) #[] #[.pointer (some ⟨w.heap.size + 1, 0, none⟩)], .func (.func 36) #[] #[], .func (.func 38) #[] #[], .pointer (some ⟨w.heap.size + 1 + 1, 0, none⟩), u9, u10, u11, u12, u13, u14, u15, u16, u17, u18, u19, u20, u21, u22, u23, u24, u25, u26, u27, u28, u29, u30, u31, u32, u33, u34, u35, u36, u37, u38, u39, u40, u41, u42, u43, u44, u45, u46, u47, u48, u49, u50, u51, u52, u53, u54, u55, u56, u57, u58, u59, u60, u61, u62, u63, u64, u65, u66, u67, u68, u69, u70, u71, u72, u73, u74, u75, u76, u77, u78, u79, u80, u81, u82, u83, u84, u85, u86, u87, u88, u89, u90, u91, u92, u93, u94, u95, u96, u97, u98, u99, u100, u101, u102, u103, u104, u105, u106, u107, u108, u109, u110, u111, u112, u113, u114, u115, u116, u117, u118, u119, u120, u121, u122, u123, u124, u125, u126, u127, u128, u129, u130, u131, u132, u133, u134, u135, u136, u137, u138, u139, u140, u141, u142, u143, u144, u145, u146, u147, u148, u149, u150, u151, u152, u153, u154, u155, u156, u157], []⟩ wx := by
  unfold cTrest
  conv => arg 2; whnf
  obtain ⟨l1, l2, l3, l4⟩ := tH_len q
  have HJ := Lib.hid hj
  clear hj
  generalize hA : q.cells = A
  go_upto_region 17 with (fail)
  have T0 := H.drew
  clear H
  go_region_held3 (fun w' => w'.cell? ⟨w.heap.size, 0, none⟩ = some (.int .u8 q.kind) ∧ w'.cell? ⟨w.heap.size, 20, none⟩ = some (.int .i64 q.hops) ∧ w'.cell? ⟨w.heap.size, 15, none⟩ = some (.int .u32 q.hd.src) ∧ w'.cell? ⟨w.heap.size, 16, none⟩ = some (.int .u32 q.hd.dst) ∧ w'.cell? ⟨w.heap.size, 17, none⟩ = some (.int .u8 q.hd.proto) ∧ w'.cell? ⟨w.heap.size, 18, none⟩ = some (.int .u16 q.hd.sport) ∧ w'.cell? ⟨w.heap.size, 19, none⟩ = some (.int .u16 q.hd.dport))
    (first | exact TI.c17 (by assumption) | exact TI.c17 (TI.new (by assumption) _))
    (first | (go_at_call 39; refine (itoa_any q.hops ok.h0 ok.h1 (E.next (TI.bel (q := q) (ws := tR q) (by assumption)))).mono ?_; rintro e wy ⟨rfl, hby⟩; have Ty : TI w q (tR q) wy := TI.below (by assumption) hby) | (go_at_call 41; refine (headText_any q.hd ok.hd (E.next (TI.bel (q := q) (ws := tR q) (by assumption)))).mono ?_; rintro e wz ⟨rfl, hbz⟩; have Tz : TI w q (tR q) wz := TI.below (by assumption) hbz) | (go_at_call 35; refine (put_as (ws := tR q) (q := q) (by assumption) (q.kind == 4) [wd (Lib.itoa q.hops), wd (textH q.hd)] (ws' := tF q) rfl (m := 2) rfl (xa := #[.string ⟨(Lib.itoa q.hops).toArray⟩, .string ⟨(textH q.hd).toArray⟩]) rfl (by omega)).mono ?_; rintro e wp ⟨rfl, T1, -⟩))
  have c0 := T1.cKind
  have c3 := T1.cVrf
  go_upto_region 18 with (fail)
  go_cut [] (fun wx => TI w q (tG q) wx)
  case first =>
    have hG : ∀ {b : Bool}, ((q.kind == 5 || q.kind == 6) && decide (q.vrf ≠ ⟨#[]⟩)) = b → onto b (tF q) [wVrf, q.vrf] = tG q := fun h => by subst h; rfl
    by_cases hv : q.vrf = ⟨#[]⟩
    · have hv2 : q.vrf.toList.isEmpty = true := empty_iff.2 hv
      have hv3 : ((q.kind == 5 || q.kind == 6) && decide (q.vrf ≠ ⟨#[]⟩)) = false := by simp [hv]
      have HV3 := Lib.hid hv3
      clear hv hv3
      cases k5 : (q.kind == 5) with
      | true =>
        go_wp2_with (go_at_call 35; refine (put_as T1 false [wVrf, q.vrf] (ws' := tG q) (hG HV3.out) (m := 2) rfl (xa := #[.string ⟨#[118, 114, 102]⟩, .string q.vrf]) rfl (by omega)).mono ?_; rintro e w18 ⟨rfl, T2, -⟩); (go_meet; exact T2)
      | false =>
        cases k6 : (q.kind == 6) with
        | true =>
          go_wp2_with (go_at_call 35; refine (put_as T1 false [wVrf, q.vrf] (ws' := tG q) (hG HV3.out) (m := 2) rfl (xa := #[.string ⟨#[118, 114, 102]⟩, .string q.vrf]) rfl (by omega)).mono ?_; rintro e w18 ⟨rfl, T2, -⟩); (go_meet; exact T2)
        | false =>
          go_wp2_with (go_at_call 35; refine (put_as T1 false [wVrf, q.vrf] (ws' := tG q) (hG HV3.out) (m := 2) rfl (xa := #[.string ⟨#[118, 114, 102]⟩, .string q.vrf]) rfl (by omega)).mono ?_; rintro e w18 ⟨rfl, T2, -⟩); (go_meet; exact T2)
    · have hv2 : q.vrf.toList.isEmpty = false := by rw [Bool.eq_false_iff]; intro h; exact hv (empty_iff.1 h)
      cases k5 : (q.kind == 5) with
      | true =>
        have hv3 : ((q.kind == 5 || q.kind == 6) && decide (q.vrf ≠ ⟨#[]⟩)) = true := by rw [k5]; simp [hv]
        have HV3 := Lib.hid hv3
        clear hv hv3
        go_wp2_with (go_at_call 35; refine (put_as T1 true [wVrf, q.vrf] (ws' := tG q) (hG HV3.out) (m := 2) rfl (xa := #[.string ⟨#[118, 114, 102]⟩, .string q.vrf]) rfl (by omega)).mono ?_; rintro e w18 ⟨rfl, T2, -⟩); (go_meet; exact T2)
      | false =>
        cases k6 : (q.kind == 6) with
        | true =>
          have hv3 : ((q.kind == 5 || q.kind == 6) && decide (q.vrf ≠ ⟨#[]⟩)) = true := by rw [k6]; simp [hv]
          have HV3 := Lib.hid hv3
          clear hv hv3
          go_wp2_with (go_at_call 35; refine (put_as T1 true [wVrf, q.vrf] (ws' := tG q) (hG HV3.out) (m := 2) rfl (xa := #[.string ⟨#[118, 114, 102]⟩, .string q.vrf]) rfl (by omega)).mono ?_; rintro e w18 ⟨rfl, T2, -⟩); (go_meet; exact T2)
        | false =>
          have hv3 : ((q.kind == 5 || q.kind == 6) && decide (q.vrf ≠ ⟨#[]⟩)) = false := by rw [k5, k6]; simp
          have HV3 := Lib.hid hv3
          clear hv hv3
          go_wp2_with (go_at_call 35; refine (put_as T1 false [wVrf, q.vrf] (ws' := tG q) (hG HV3.out) (m := 2) rfl (xa := #[.string ⟨#[118, 114, 102]⟩, .string q.vrf]) rfl (by omega)).mono ?_; rintro e w18 ⟨rfl, T2, -⟩); (go_meet; exact T2)
  case rest =>
  have T2 := hcut
  clear hcut T1 c0 c3 T0
  have T3 := T2.drew
  go_upto_region 19 with (fail)
  go_region_held3 (fun w' => w'.cell? ⟨w.heap.size, 0, none⟩ = some (.int .u8 q.kind) ∧ w'.cell? ⟨w.heap.size, 21, none⟩ = some (.int .u32 q.addr))
    (first | exact TI.c19 (by assumption) | exact TI.c19 (TI.new (by assumption) _))
    (first | (go_at_call 42; refine (addrText_any q.addr ok.a0 ok.a1 (E.next T3.bel)).mono ?_; rintro e wy ⟨rfl, hby⟩; have Ty : TI w q (tG q) wy := TI.below (by assumption) hby) | (go_at_call 35; refine (put_as (ws := tG q) (q := q) (by assumption) (q.kind == 7) [wd (textA q.addr)] (ws' := tH q) rfl (m := 1) rfl (xa := #[.string ⟨(textA q.addr).toArray⟩]) rfl (by omega)).mono ?_; rintro e w19 ⟨rfl, T4, -⟩))
  clear T3 T2 Ty hby
  obtain ⟨ao, cp, cv, hcp, hss⟩ := T4.slice
  generalize hn : (tH q).length = n at cv hcp
  have HN := Lib.hid hn
  have HS := Lib.hid hss
  clear hn hss l1 l2 l3 l4
  go_upto_region 21 with (go_at_call 24; refine (join_any2 HN.out HS.out hcp (by have := HJ.out; omega)).mono ?_; rintro e w20 ⟨rfl, hb20⟩; have T5 := T4.below hb20)
  have q5 := T5.q
  have E5 := E.next T5.bel
  have hA2 : A.size = 22 := by rw [← hA]; rfl
  cases hp : pAsk (joinB (tH q)) with
  | none =>
    have ho := HO.out
    unfold outT at ho
    rw [hp] at ho
    have hpa := parse_none hp HJ.out E5
    clear hp
    replace ho : Value.tuple #[.string ⟨#[]⟩, .int .i64 1] = out := ho
    generalize joinB (tH q) = t at hpa ⊢
    generalize hX : Q.zero.cells = X at hpa
    have hx1 : X.all (·.oneCell') = true := by rw [← hX]; exact Q.one _
    have hXs0 : X.size = 22 := by rw [← hX]; rfl
    have hXs := Lib.hid hXs0
    clear hXs0
    go_wp2_with (first | (go_at_call 4; refine hpa.mono ?_; rintro e w21 ⟨rfl, hb21⟩; have T6 := T5.below hb21) | (refine wpList_store_row (P := Tryz.prog) rfl 34 (.tmp 11) (.tmp 148) rfl w21.heap.size X rfl rfl 34 Q.zero.cells (heap_alloc_new _ _) (by rw [hXs.out]; kernel_rfl) (by rw [hXs.out]; rfl) hx1 ?_; dsimp only [Act.put]))
    go_ret2
    exact ⟨congrArg _ ho, below_setRow (T6.new _).bel T6.bel.size _⟩
  | some x =>
    have ho := HO.out
    unfold outT at ho
    rw [hp] at ho
    have hpa := parse_some hp HJ.out E5
    clear hp
    replace ho : (if x.beq q = true then Value.tuple #[.string (joinB (tH q)), .int .i64 0] else Value.tuple #[.string ⟨#[]⟩, .int .i64 1]) = out := ho
    have he : ∀ w, (Op.equalIn 10000 34 (.agg x.cells) (.agg A)).run Tryz.prog w = .ok (x.beq q) w := fun w => by rw [← hA]; exact eqQ34 x q w
    generalize joinB (tH q) = t at hpa ho ⊢
    have hX : Hid (x.cells.size = 22 ∧ x.cells.all (·.oneCell') = true) := Lib.hid ⟨rfl, Q.one _⟩
    have hA3 : Hid (A.size = 22) := Lib.hid hA2
    clear hA2
    generalize x.cells = X at hpa he hX
    cases hb : x.beq q with
    | true =>
      rw [hb, if_pos rfl] at ho
      rw [hb] at he
      go_wp2_with (first | (go_at_call 4; refine hpa.mono ?_; rintro e w21 ⟨rfl, hb21⟩; have T6 := T5.below hb21; have q6 := T6.q; rw [hA] at q6; have hq6 := Lib.hid q6; clear q6) | (refine wpList_store_row (P := Tryz.prog) rfl 34 (.tmp 11) (.tmp 148) rfl w21.heap.size X rfl rfl 34 Q.zero.cells (heap_alloc_new _ _) (by rw [hX.out.1]; kernel_rfl) (by rw [hX.out.1]; rfl) hX.out.2 ?_; dsimp only [Act.put]) | (refine wpList_load_row_g (P := Tryz.prog) 34 (.tmp 11) rfl rfl w21.heap.size rfl 34 X (0, 0) _ (setRow_heap _ _ _ _ _ _ (heap_alloc_new _ _)) rfl rfl (by rw [hX.out.1]; kernel_rfl) ?_; dsimp only [Act.put]) | (refine wpList_load_row_g (P := Tryz.prog) 34 (.tmp 1) rfl rfl w.heap.size rfl 34 A (0, 0) _ (kept_old (below_setRow (below_new w21 _) (Nat.le_refl _) X) hq6.out) rfl rfl (by rw [hA3.out]; kernel_rfl) ?_; dsimp only [Act.put]))
      go_ret2
      exact ⟨congrArg _ ho, below_setRow (T6.new _).bel T6.bel.size _⟩
    | false =>
      rw [hb, if_neg (by decide)] at ho
      rw [hb] at he
      go_wp2_with (first | (go_at_call 4; refine hpa.mono ?_; rintro e w21 ⟨rfl, hb21⟩; have T6 := T5.below hb21; have q6 := T6.q; rw [hA] at q6; have hq6 := Lib.hid q6; clear q6) | (refine wpList_store_row (P := Tryz.prog) rfl 34 (.tmp 11) (.tmp 148) rfl w21.heap.size X rfl rfl 34 Q.zero.cells (heap_alloc_new _ _) (by rw [hX.out.1]; kernel_rfl) (by rw [hX.out.1]; rfl) hX.out.2 ?_; dsimp only [Act.put]) | (refine wpList_load_row_g (P := Tryz.prog) 34 (.tmp 11) rfl rfl w21.heap.size rfl 34 X (0, 0) _ (setRow_heap _ _ _ _ _ _ (heap_alloc_new _ _)) rfl rfl (by rw [hX.out.1]; kernel_rfl) ?_; dsimp only [Act.put]) | (refine wpList_load_row_g (P := Tryz.prog) 34 (.tmp 1) rfl rfl w.heap.size rfl 34 A (0, 0) _ (kept_old (below_setRow (below_new w21 _) (Nat.le_refl _) X) hq6.out) rfl rfl (by rw [hA3.out]; kernel_rfl) ?_; dsimp only [Act.put]))
      go_ret2
      exact ⟨congrArg _ ho, below_setRow (T6.new _).bel T6.bel.size _⟩
end Go.Proofs.YtopccnoinngmbaaGreatDoor
