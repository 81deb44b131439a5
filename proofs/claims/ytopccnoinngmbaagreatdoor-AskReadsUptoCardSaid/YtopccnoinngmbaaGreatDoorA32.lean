/-
  The reference's Parse walked: the heads' parts
  Plain law: what is read is the text that is written.
  Plain law: the heads' parts, read in both ways.
  Plain law: the heads' parts, stage by stage from the last.
-/
import Derived.Test.YtopccnoinngmbaaGreatDoorA31
import Derived.Deep.RegionHeld3
import Derived.Deep.LoopGhost
import Derived.Test.YtopccnoinngmbaaGreatDoorA25

/- The reference's Parse walked: the heads' parts -/
namespace Go.Proofs.YtopccnoinngmbaaGreatDoor
open Go.RowKit
set_option maxRecDepth 100000
set_option maxHeartbeats 16000000
set_option linter.unusedVariables false
set_option linter.unusedSimpArgs false

/-- The parts of the heads, pair by pair. -/
def rParts : List ByteArray → Q → Q × Bool
  | t :: v :: r, q => if (rPart q t v).2 then rParts r (rPart q t v).1 else ((rPart q t v).1, false)
  | _, q => (q, true)
/-- .. if it's right so far, from the word m on. -/
def rTail (ok : Bool) (ws : List ByteArray) (m : Nat) (q : Q) : Q × Bool := if ok && decide ((ws.length - m) % 2 = 0) then rParts (ws.drop m) q else (q, false)
theorem pre_bounds (v : ByteArray) : 0 ≤ (preV v).1 ∧ (preV v).1 < 4294967296 ∧ 0 ≤ (preV v).2 ∧ (preV v).2 ≤ 32 := by
  unfold preV
  cases h : pPrefix v with
  | none => exact ⟨by decide, by decide, by decide, by decide⟩
  | some p =>
    obtain ⟨a, b⟩ := p
    unfold pPrefix at h
    split at h
    · split at h
      · rename_i x y hx hy
        split at h
        · cases h
          obtain ⟨h0, h1⟩ := pAddr_bounds hx
          obtain ⟨h2, h3⟩ := num_bounds hy
          exact ⟨h0, h1, h2, h3⟩
        · cases h
      · cases h
    · cases h
theorem rPv_bounds (v : ByteArray) : 0 ≤ (rPv v).1 ∧ (rPv v).1 < 4294967296 ∧ 0 ≤ (rPv v).2 ∧ (rPv v).2 < 4294967296 := by
  unfold rPv
  split
  · obtain ⟨h0, h1, h2, h3⟩ := portV_bounds v
    exact ⟨h0, by omega, h2, by omega⟩
  · exact ⟨by decide, by decide, by decide, by decide⟩
theorem rPart_ok {q : Q} (ok : q.Ok) (t v : ByteArray) : (rPart q t v).1.Ok := by
  obtain ⟨a0, a1, a2, a3⟩ := pre_bounds v
  obtain ⟨b0, b1, b2, b3⟩ := rPv_bounds v
  obtain ⟨c0, c1⟩ := getV_b v 255 (by decide)
  unfold rPart
  split
  · exact { ok with s0 := a0, s1 := a1, sb0 := by dsimp only; omega, sb1 := by dsimp only; omega }
  split
  · exact { ok with d0 := a0, d1 := a1, db0 := by dsimp only; omega, db1 := by dsimp only; omega }
  split
  · exact { ok with p0 := by dsimp only; omega, p1 := by dsimp only; omega }
  split
  · exact { ok with sl0 := b0, sl1 := b1, sh0 := b2, sh1 := b3 }
  split
  · exact { ok with dl0 := b0, dl1 := b1, dh0 := b2, dh1 := b3 }
  exact ok
theorem rPart_sm {q : Q} (sm : q.Sm) (t v : ByteArray) : (rPart q t v).1.Sm := by
  unfold rPart
  repeat' split
  all_goals exact ⟨sm.d, sm.i, sm.v⟩
theorem rParts_step {ws : List ByteArray} {k : Nat} {t v : ByteArray} (ht : ws[k]? = some t) (hv : ws[k + 1]? = some v) (q : Q) : rParts (ws.drop k) q = if (rPart q t v).2 then rParts (ws.drop (k + 2)) (rPart q t v).1 else ((rPart q t v).1, false) := by
  have hk : k + 1 < ws.length := by
    rcases Nat.lt_or_ge (k + 1) ws.length with h | h
    · exact h
    · rw [List.getElem?_eq_none h] at hv; cases hv
  have h1 : ws.drop k = t :: v :: ws.drop (k + 2) := by
    rw [List.drop_eq_getElem_cons (by omega), List.drop_eq_getElem_cons hk]
    rw [List.getElem?_eq_getElem (by omega)] at ht
    rw [List.getElem?_eq_getElem hk] at hv
    cases ht; cases hv; rfl
  rw [h1, rParts]
theorem rParts_end {ws : List ByteArray} {k : Nat} (h : ws.length ≤ k) (q : Q) : rParts (ws.drop k) q = (q, true) := by
  rw [List.drop_eq_nil_of_le h, rParts]
  intro t v r hh; cases hh
/-- The loop over the parts. -/
structure LP (w : World) (b o : Nat) (ws : List ByteArray) (qa n : Nat) (T : Q × Bool) (k : Nat) (ok : Bool) (q : Q) (W : World) : Prop where
  r : RI w b o ws qa q W
  qok : q.Ok
  qsm : q.Sm
  t : (if ok then rParts (ws.drop k) q else (q, false)) = T
  e : ok = true → (n - k) % 2 = 0
noncomputable def cRTail : Code := ((Tryz.f5.body.bind (piece 16)).getD .skip)
theorem rparse_tail {u1 u8 u9 u10 u11 u12 u13 u14 u15 u16 u17 u18 u19 u20 u21 u22 u23 u24 u25 u26 u27 u28 u29 u30 u31 u32 u33 u34 u35 u36 u37 u38 u39 u40 u41 u42 u43 u44 u45 u46 u47 u48 u49 u50 u51 u52 u53 u54 u55 u56 u57 u58 u59 u60 u61 u62 u63 u64 u65 u66 u67 u68 u69 u70 u71 u72 u73 u74 u75 u76 u77 u78 u79 u80 u81 u82 u83 u84 u85 u86 u87 u88 u89 u90 u91 u92 u93 u94 u95 u96 u97 u98 u99 u100 u101 u102 u103 u104 u105 u106 u107 u108 u109 u110 u111 u112 u113 u114 u115 u116 u117 u118 u119 u120 u121 u122 u123 u124 u125 u126 u127 u128 u129 u130 u131 u132 u133 u134 u135 u136 u137 u138 u139 u140 u141 u142 u143 u144 u145 u146 u147 u148 u149 u150 u151 u152 u153 u154 u155 u156 u157 u158 u159 u160 u161 u162 u163 u164 u165 u166 u167 u168 u169 u170 u171 u172 u173 u174 u175 u176 u177 u178 u179 u180 u181 u182 u183 u184 u185 u186 u187 u188 u189 u190 u191 u192 u193 u194 u195 u196 u197 u198 u199 u200 u201 u202 u203 u204 u205 u206 u207 u208 u209 u210 u211 u212 u213 u214 u215 u216 u217 u218 u219 u220 u221 u222 u223 u224 u225 u226 u227 u228 u229 u230 u231 u232 u233 u234 : Value} {s : ByteArray} {w wx : World} {b o qa n c m : Nat} {ws : List ByteArray} {q : Q} {ok : Bool} {out : Value} {K1 : Act → World → Prop} (HK : Hid (∀ a w', Code.wp Tryz.prog cREnd (bodyPost Tryz.prog Tryz.f5 (Rq w out)) a w' → K1 a w')) (H : RI w b o ws qa q wx)
    (hok : q.Ok) (sm : q.Sm) (HN : Hid (ws.length = n)) (hm : n ≤ 4194305) (hmn : m ≤ n) (hsm : Hid (∀ x ∈ ws, x.size ≤ 4194304)) (HO : Hid (outR (rTail ok ws m q).2 (rTail ok ws m q).1 s = out)) :
    Code.wp Tryz.prog cRTail (Exit.inBlock 0 (Exit.then K1 (bodyPost Tryz.prog Tryz.f5 (Rq w out)))) ⟨#[.string s, u1, .pointer (some ⟨w.heap.size, 0, none⟩), .int .i64 0, .slice (some ⟨b, o, none⟩) n c, .pointer (some ⟨qa, 0, none⟩), .bool ok, .int .i64 m, u8, u9, u10, u11, u12, u13, u14, u15, u16, u17, u18, u19, u20, u21, u22, u23, u24, u25, u26, u27, u28, u29, u30, u31, u32, u33, u34, u35, u36, u37, u38, u39, u40, u41, u42, u43, u44, u45, u46, u47, u48, u49, u50, u51, u52, u53, u54, u55, u56, u57, u58, u59, u60, u61, u62, u63, u64, u65, u66, u67, u68, u69, u70, u71, u72, u73, u74, u75, u76, u77, u78, u79, u80, u81, u82, u83, u84, u85, u86, u87, u88, u89, u90, u91, u92, u93, u94, u95, u96, u97, u98, u99, u100, u101, u102, u103, u104, u105, u106, u107, u108, u109, u110, u111, u112, u113, u114, u115, u116, u117, u118, u119, u120, u121, u122, u123, u124, u125, u126, u127, u128, u129, u130, u131, u132, u133, u134, u135, u136, u137, u138, u139, u140, u141, u142, u143, u144, u145, u146, u147, u148, u149, u150, u151, u152, u153, u154, u155, u156, u157, u158, u159, u160, u161, u162, u163, u164, u165, u166, u167, u168, u169, u170, u171, u172, u173, u174, u175, u176, u177, u178, u179, u180, u181, u182, u183, u184, u185, u186, u187, u188, u189, u190, u191, u192, u193, u194, u195, u196, u197, u198, u199, u200, u201, u202, u203, u204, u205, u206, u207, u208, u209, u210, u211, u212, u213, u214, u215, u216, u217, u218, u219, u220, u221, u222, u223, u224, u225, u226, u227, u228, u229, u230, u231, u232, u233, u234], []⟩ wx := by
  unfold cRTail
  conv => arg 2; whnf
  obtain ⟨T, hT⟩ : ∃ T, rTail ok ws m q = T := ⟨_, rfl⟩
  rw [hT] at HO
  obtain ⟨okp, hokp⟩ : ∃ okp, (ok && decide ((n - m) % 2 = 0)) = okp := ⟨_, rfl⟩
  have L : LP w b o ws qa n T m okp q wx := by
    refine ⟨H, hok, sm, ?_, ?_⟩
    · rw [← hT, rTail, HN.out, hokp]
    · intro h
      rw [h] at hokp
      have := (Bool.and_eq_true _ _ ▸ hokp).2
      exact of_decide_eq_true this
  have HT := Lib.hid hT
  have HP := Lib.hid hokp
  have LL := Lib.hid L
  clear hT H hok sm L hokp
  go_upto_region 16 with (fail)
  dsimp only
  go_cut [6] (fun v wc => v = .bool okp ∧ wc = wx)
  case first =>
    cases ok with
    | false =>
      have HF : Hid (false = okp) := Lib.hid (by rw [← HP.out]; rfl)
      go_wp2
      go_meet
      exact ⟨congrArg _ HF.out, rfl⟩
    | true =>
      have HF : Hid ((((n : Int) - m) % 2 == 0) = okp) := Lib.hid (by
        rw [← HP.out, Bool.true_and, Bool.eq_iff_iff, beq_iff_eq, decide_eq_true_iff]; omega)
      go_wp2
      go_meet
      exact ⟨congrArg _ HF.out, rfl⟩
  case rest =>
  obtain ⟨rfl, rfl⟩ := hcut
  go_wp2_with (fail)
  go_loopw [6, 8] (fun v i wr => ∃ (k : Nat) (r : Bool) (p : Q), v = .bool r ∧ i = .int .i64 k ∧ k ≤ n ∧ LP w b o ws qa n T k r p wr) (fun _ i _ => n - (intOf i).toNat)
  case atStart => exact ⟨m, okp, q, rfl, rfl, hmn, LL.out⟩
  case round =>
    clear LL
    obtain ⟨k, r, p, rfl, rfl, hk, L⟩ := hrel
    have LL := Lib.hid L
    have H := L.r
    clear L
    cases r with
    | false =>
      have hf : (p, false) = T := LL.out.t
      subst hf
      go_wp2
      all_goals exact HK.out _ _ (rparse_end H (fun h => by cases h) LL.out.qsm HO)
    | true =>
      by_cases hlt : k + 1 < n
      · obtain ⟨t, ht⟩ : ∃ x, ws[k]? = some x := ⟨ws[k]'(by have := HN.out; omega), by simp⟩
        obtain ⟨v, hv⟩ : ∃ x, ws[k + 1]? = some x := ⟨ws[k + 1]'(by have := HN.out; omega), by simp⟩
        have zv := hsm.out v (List.mem_of_getElem? hv)
        have HT' := Lib.hid ht
        have HV := Lib.hid hv
        have hstep := rParts_step ht hv p
        have h1 := LL.out.t
        rw [if_pos rfl, hstep] at h1
        have h2 := LL.out.e rfl
        have hpa := fun W (H : RQ qa p W) => part_any qa p t v (by omega) H
        have hpok := rPart_ok LL.out.qok t v
        have hpsm := rPart_sm LL.out.qsm t v
        generalize rPart p t v = R at h1 hpa hpok hpsm
        obtain ⟨p', r'⟩ := R
        have H1 := Lib.hid h1
        have H2 := Lib.hid h2
        clear ht hv hstep h1 h2
        have k0 : (0 : Int) ≤ k := by omega
        have k1 : (0 : Int) ≤ (k : Int) + 1 := by omega
        have k2 : IntKind.i64.wrap ((k : Int) + 1) = (k : Int) + 1 := IntWalk.i64_in _ (by omega)
        have k3 : ((k : Int) + 1).toNat = k + 1 := by omega
        have k4 : (k : Int) < n := by omega
        have k5 : (k : Int) + 1 < n := by omega
        go_upto_region 20 with (fail)
        have HD := H.drew
        have WD : wr.drew.cell? ⟨b, o + k, none⟩ = some (.string t) ∧ wr.drew.cell? ⟨b, o + (k + 1), none⟩ = some (.string v) := ⟨HD.word HT'.out, HD.word HV.out⟩
        go_region_held3 (fun w' => w'.cell? ⟨b, o + k, none⟩ = some (.string t) ∧ w'.cell? ⟨b, o + (k + 1), none⟩ = some (.string v))
          (first | with_reducible exact WD | with_reducible exact WE)
          (first | (go_at_call 30; refine (hpa _ HD.rq).mono ?_; rintro e w3 ⟨rfl, hq3, hf3⟩; have HE := HD.fr hf3 hq3; have WE : w3.cell? ⟨b, o + k, none⟩ = some (.string t) ∧ w3.cell? ⟨b, o + (k + 1), none⟩ = some (.string v) := ⟨HE.word HT'.out, HE.word HV.out⟩))
        go_wp2
        have hh2 := H2.out
        exact ⟨⟨k + 2, r', p', rfl, by go_num, by omega, ⟨HE, hpok, hpsm, H1.out, fun _ => by omega⟩⟩, by simp [intOf]; omega⟩
      · have hf : (p, true) = T := by
          have h1 := LL.out.t
          have h2 := LL.out.e rfl
          rw [if_pos rfl, rParts_end (by have := HN.out; omega)] at h1
          exact h1
        subst hf
        have hge : ¬ ((k : Int) + 1 < n) := by omega
        go_wp2
        exact HK.out _ _ (rparse_end H (fun h => LL.out.qok) LL.out.qsm HO)
end Go.Proofs.YtopccnoinngmbaaGreatDoor

/- Plain law: what is read is the text that is written. -/
namespace Go.Proofs.YtopccnoinngmbaaGreatDoor
open Go.RowKit
set_option maxRecDepth 100000
set_option linter.unusedVariables false
set_option linter.unusedSimpArgs false

theorem ba_ext {a b : ByteArray} (h : a.data.toList = b.data.toList) : a = b := by
  apply ByteArray.ext
  exact Array.toList_inj.1 h
/-- What strings.Cut finds. -/
theorem cutA_true {c : UInt8} {s : ByteArray} (h : (cutA c s).2.2 = true) : s.data.toList = (cutA c s).1.data.toList ++ c :: (cutA c s).2.1.data.toList ∧ c ∉ (cutA c s).1.data.toList := by
  unfold cutA at h ⊢
  rcases cut_cases c s.data.toList with ⟨_, h'⟩ | ⟨x, y, hl, hn, h'⟩
  · rw [h'] at h; cases h
  · rw [h']; exact ⟨by simpa using hl, by simpa using hn⟩
theorem cutA_false {c : UInt8} {s : ByteArray} (h : (cutA c s).2.2 = false) : (cutA c s).2.1 = ⟨#[]⟩ := by
  unfold cutA at h ⊢
  rcases cut_cases c s.data.toList with ⟨_, h'⟩ | ⟨x, y, hl, hn, h'⟩
  · rw [h']
  · rw [h'] at h; cases h
theorem cutA_app {c : UInt8} {s : ByteArray} {x y : List UInt8} (h : s.data.toList = x ++ c :: y) (hn : c ∉ x) : cutA c s = (⟨x.toArray⟩, ⟨y.toArray⟩, true) := by
  unfold cutA
  rw [h, cut_app y hn]
theorem num_text {s : ByteArray} {most v : Int} (hm : most < 9223372036854775808) (h : num s most = some v) : Lib.itoa v = s.data.toList := ((num_iff hm).1 h).2.2

/-- The digits of a number. -/
theorem itoa_free {v : Int} (h : 0 ≤ v) {c : UInt8} (hc : isD c = false) : c ∉ Lib.itoa v := by
  obtain ⟨n, rfl⟩ := Int.eq_ofNat_of_zero_le h
  intro hm
  have h1 := List.all_eq_true.1 (dec_all n).1 c (by rwa [itoa_nat] at hm)
  rw [hc] at h1; cases h1
/-- An address's text. -/
theorem acc4 {x y z u : ByteArray} {a : Int} (h : accOf [x, y, z, u] 4 = some a) : ∃ p q r t : Int, num x 255 = some p ∧ num y 255 = some q ∧ num z 255 = some r ∧ num u 255 = some t ∧ a = ((p * 256 + q) * 256 + r) * 256 + t := by
  simp only [accOf, List.getD_cons_zero, List.getD_cons_succ] at h
  cases h1 : num x 255 <;> cases h2 : num y 255 <;> cases h3 : num z 255 <;> cases h4 : num u 255 <;> rw [h1, h2, h3, h4] at h <;> try cases h
  exact ⟨_, _, _, _, rfl, rfl, rfl, rfl, by omega⟩
theorem pAddr_text {s : ByteArray} {a : Int} (h : pAddr s = some a) : textA a = s.data.toList := by
  unfold pAddr at h
  split at h
  case isFalse => cases h
  case isTrue hl =>
    obtain ⟨x, y, z, u, hs⟩ : ∃ x y z u, spl 46 s = [x, y, z, u] := by
      match h0 : spl 46 s, hl with
      | [x, y, z, u], _ => exact ⟨x, y, z, u, rfl⟩
    rw [hs] at h
    obtain ⟨p, q, r, t, h1, h2, h3, h4, rfl⟩ := acc4 h
    obtain ⟨p0, p1, pt⟩ := (num_iff (by decide)).1 h1
    obtain ⟨q0, q1, qt⟩ := (num_iff (by decide)).1 h2
    obtain ⟨r0, r1, rt⟩ := (num_iff (by decide)).1 h3
    obtain ⟨t0, t1, tt⟩ := (num_iff (by decide)).1 h4
    have hd := spl_data 46 s
    rw [hs] at hd
    simp only [List.map_cons, List.map_nil] at hd
    rw [← joinL_splitL 46 s.data.toList, ← hd]
    unfold textA
    have e0 : part (((p * 256 + q) * 256 + r) * 256 + t) 0 = p := by simp only [part]; omega
    have e1 : part (((p * 256 + q) * 256 + r) * 256 + t) 1 = q := by simp only [part]; omega
    have e2 : part (((p * 256 + q) * 256 + r) * 256 + t) 2 = r := by simp only [part]; omega
    have e3 : part (((p * 256 + q) * 256 + r) * 256 + t) 3 = t := by simp only [part]; omega
    rw [e0, e1, e2, e3, pt, qt, rt, tt]
theorem pPrefix_text {s : ByteArray} {a b : Int} (h : pPrefix s = some (a, b)) : textP a b = s.data.toList ∧ 0 ≤ a ∧ 0 ≤ b := by
  unfold pPrefix at h
  split at h
  case isFalse => cases h
  case isTrue hc =>
    cases h1 : pAddr (cutA 47 s).1 <;> cases h2 : num (cutA 47 s).2.1 32 <;> rw [h1, h2] at h <;> try cases h
    rename_i a' b'
    dsimp only at h
    split at h
    case isFalse => cases h
    case isTrue hk =>
      cases h
      exact ⟨by rw [textP, pAddr_text h1, num_text (by decide) h2, (cutA_true hc).1], (pAddr_bounds h1).1, (num_bounds h2).1⟩
end Go.Proofs.YtopccnoinngmbaaGreatDoor

/- Plain law: the heads' parts, read in both ways. -/
namespace Go.Proofs.YtopccnoinngmbaaGreatDoor
open Go.RowKit
set_option maxRecDepth 100000
set_option linter.unusedVariables false
set_option linter.unusedSimpArgs false

/-- The words of the parts. -/
def sE (q : Q) : List ByteArray := if q.dlo != 0 || q.dhi != 65535 then [wDports, wd (textS q.dlo q.dhi)] else []
def sD (q : Q) : List ByteArray := if q.slo != 0 || q.shi != 65535 then [wSports, wd (textS q.slo q.shi)] else []
def sC (q : Q) : List ByteArray := if q.proto != -1 then [wProto, wd (Lib.itoa q.proto)] else []
def sB (q : Q) : List ByteArray := if q.dbits != 0 then [wTo, wd (textP q.dst q.dbits)] else []
def sA (q : Q) : List ByteArray := if q.sbits != 0 then [wFrom, wd (textP q.src q.sbits)] else []

theorem wd_eq {l : List UInt8} {v : ByteArray} (h : l = v.data.toList) : wd l = v := by subst h; exact ofList_of v
theorem rParts_cons (t v : ByteArray) (r : List ByteArray) (q : Q) : rParts (t :: v :: r) q = if (rPart q t v).2 then rParts r (rPart q t v).1 else ((rPart q t v).1, false) := rfl
theorem rpt_from (q : Q) (v : ByteArray) : rPart q wFrom v = ({ q with src := (preV v).1, sbits := (preV v).2 }, (pPrefix v).isSome) := rfl
theorem rpt_to (q : Q) (v : ByteArray) : rPart q wTo v = ({ q with dst := (preV v).1, dbits := (preV v).2 }, (pPrefix v).isSome) := by
  unfold rPart; rw [if_neg (by decide), if_pos rfl]
theorem rpt_proto (q : Q) (v : ByteArray) : rPart q wProto v = ({ q with proto := (num v 255).getD (-1) }, decide (0 ≤ (num v 255).getD (-1))) := by
  unfold rPart; rw [if_neg (by decide), if_neg (by decide), if_pos rfl]
theorem rpt_sports (q : Q) (v : ByteArray) : rPart q wSports v = ({ q with slo := (rPv v).1, shi := (rPv v).2 }, rPo v) := by
  unfold rPart; rw [if_neg (by decide), if_neg (by decide), if_neg (by decide), if_pos rfl]
theorem rpt_dports (q : Q) (v : ByteArray) : rPart q wDports v = ({ q with dlo := (rPv v).1, dhi := (rPv v).2 }, rPo v) := by
  unfold rPart; rw [if_neg (by decide), if_neg (by decide), if_neg (by decide), if_neg (by decide), if_pos rfl]

/-- A span read by both. -/
theorem ports_both (v : ByteArray) :
    ((pPorts v).isSome = true ∧ rPo v = true ∧ portV v = rPv v ∧ textS (rPv v).1 (rPv v).2 = v.data.toList ∧ ((rPv v).1 ≠ 0 ∨ (rPv v).2 ≠ 65535)) ∨
    ((pPorts v).isSome = false ∧ (rPo v = false ∨ rPo v = true ∧ rPv v = (0, 65535))) := by
  unfold pPorts rPo rPv portV
  by_cases hc : (cutA 45 v).2.2 = true
  · rw [if_pos hc, if_pos hc, hc, Bool.true_and]
    cases h1 : num (cutA 45 v).1 65535 with
    | none => right; simp
    | some lo =>
      cases h2 : num (cutA 45 v).2.1 65535 with
      | none =>
        obtain ⟨l0, l1⟩ := num_bounds h1
        right; simp; omega
      | some hi =>
        obtain ⟨l0, l1⟩ := num_bounds h1
        obtain ⟨m0, m1⟩ := num_bounds h2
        simp only [Option.getD_some]
        by_cases hle : lo ≤ hi ∧ hi - lo < 65535
        · left
          rw [if_pos hle]
          refine ⟨by first | rfl | trivial, by simp; omega, by first | rfl | trivial, ?_, by omega⟩
          rw [textS, num_text (by decide) h1, num_text (by decide) h2, (cutA_true hc).1]
        · right
          rw [if_neg hle]
          refine ⟨by first | rfl | trivial, ?_⟩
          by_cases hlh : lo ≤ hi
          · right; refine ⟨by simp; omega, ?_⟩
            rw [show lo = 0 by omega, show hi = 65535 by omega]
          · left; simp; omega
  · rw [if_neg hc]; right
    rw [Bool.eq_false_iff.2 hc]
    exact ⟨rfl, .inl rfl⟩
end Go.Proofs.YtopccnoinngmbaaGreatDoor

/- Plain law: the heads' parts, stage by stage from the last. -/
namespace Go.Proofs.YtopccnoinngmbaaGreatDoor
open Go.RowKit
set_option maxRecDepth 100000
set_option linter.unusedVariables false
set_option linter.unusedSimpArgs false

theorem hE (q : Q) : ∀ t, (sE q).head? = some t → t = wDports := by
  intro t h; unfold sE at h; split at h <;> simp at h; exact h.symm
theorem hD (q : Q) : ∀ t, (sD q ++ sE q).head? = some t → t = wSports ∨ t = wDports := by
  intro t h
  unfold sD at h; split at h
  · simp at h; exact .inl h.symm
  · exact .inr (hE q t (by simpa using h))
theorem hC (q : Q) : ∀ t, (sC q ++ (sD q ++ sE q)).head? = some t → t = wProto ∨ t = wSports ∨ t = wDports := by
  intro t h
  unfold sC at h; split at h
  · simp at h; exact .inl h.symm
  · exact .inr (hD q t (by simpa using h))
theorem hB (q : Q) : ∀ t, (sB q ++ (sC q ++ (sD q ++ sE q))).head? = some t → t = wTo ∨ t = wProto ∨ t = wSports ∨ t = wDports := by
  intro t h
  unfold sB at h; split at h
  · simp at h; exact .inl h.symm
  · exact .inr (hC q t (by simpa using h))

theorem rParts_true {t v : ByteArray} {r : List ByteArray} {q0 q1 q : Q} {b : Bool} (hp : rPart q0 t v = (q1, b)) : rParts (t :: v :: r) q0 = (q, true) ↔ b = true ∧ rParts r q1 = (q, true) := by
  rw [rParts_cons, hp]
  cases b <;> simp

theorem keepE {q1 q : Q} (h : rParts (sE q) q1 = (q, true)) : { q1 with dlo := q.dlo, dhi := q.dhi } = q := by
  unfold sE at h; split at h
  · rw [rParts_true (rpt_dports _ _)] at h
    have h2 := h.2
    simp only [rParts, Prod.mk.injEq, and_true] at h2
    rw [← h2]
  · simp only [rParts, Prod.mk.injEq, and_true] at h
    rw [← h]
theorem keepD {q1 q : Q} (h : rParts (sD q ++ sE q) q1 = (q, true)) : { q1 with slo := q.slo, shi := q.shi, dlo := q.dlo, dhi := q.dhi } = q := by
  unfold sD at h; split at h
  · rw [List.cons_append, List.cons_append, List.nil_append, rParts_true (rpt_sports _ _)] at h
    have h2 := keepE h.2
    rw [← h2]
  · have h2 := keepE h
    rw [← h2]
theorem keepC {q1 q : Q} (h : rParts (sC q ++ (sD q ++ sE q)) q1 = (q, true)) : { q1 with proto := q.proto, slo := q.slo, shi := q.shi, dlo := q.dlo, dhi := q.dhi } = q := by
  unfold sC at h; split at h
  · rw [List.cons_append, List.cons_append, List.nil_append, rParts_true (rpt_proto _ _)] at h
    have h2 := keepD h.2
    rw [← h2]
  · have h2 := keepD h
    rw [← h2]
theorem keepB {q1 q : Q} (h : rParts (sB q ++ (sC q ++ (sD q ++ sE q))) q1 = (q, true)) : { q1 with dst := q.dst, dbits := q.dbits, proto := q.proto, slo := q.slo, shi := q.shi, dlo := q.dlo, dhi := q.dhi } = q := by
  unfold sB at h; split at h
  · rw [List.cons_append, List.cons_append, List.nil_append, rParts_true (rpt_to _ _)] at h
    have h2 := keepC h.2
    rw [← h2]
  · have h2 := keepC h
    rw [← h2]

theorem isW_eq {r : List ByteArray} {b : Bool} {t : ByteArray} : St.isW (r, b) t = true ↔ ∃ r', r = t :: r' := by
  unfold St.isW
  rw [decide_eq_true_iff]
  cases r <;> simp
theorem isW_ne {r : List ByteArray} {b : Bool} {t : ByteArray} (h : r.head? ≠ some t) : St.isW (r, b) t = false := by
  unfold St.isW; exact decide_eq_false h

/-- dports. -/
def F6 (r : List ByteArray) (b : Bool) (q0 q : Q) : Prop := stA6 (r, b) = ([], false) ∧ qA6 (r, b) q0 = q
theorem lawE {r : List ByteArray} {b : Bool} {q0 q : Q} (h0 : q0.dlo = 0) (h1 : q0.dhi = 65535) : F6 r b q0 q ↔ b = false ∧ rParts r q0 = (q, true) ∧ r = sE q := by
  unfold F6
  by_cases hw : ∃ r', r = wDports :: r'
  · obtain ⟨r', rfl⟩ := hw
    have hi : St.isW (wDports :: r', b) wDports = true := isW_eq.2 ⟨_, rfl⟩
    unfold stA6 qA6 St.after
    rw [if_pos hi, if_pos hi, if_pos hi]
    match r' with
    | [] =>
      constructor
      · rintro ⟨h, -⟩
        simp [St.skip, St.word, St.bad] at h
      · rintro ⟨-, -, h⟩
        unfold sE at h; split at h <;> simp at h
    | v :: r'' =>
      rw [rParts_true (rpt_dports _ _)]
      simp only [St.skip, St.word, St.bad, St.head, List.tail_cons, List.headD_cons, List.isEmpty_cons, Bool.or_false, Prod.mk.injEq, Bool.or_eq_false_iff, Bool.not_eq_false']
      rcases ports_both v with ⟨p1, p2, p3, p4, p5⟩ | ⟨p1, p2⟩
      · rw [p1, p2, p3]
        constructor
        · rintro ⟨⟨rfl, rfl, -⟩, rfl⟩
          refine ⟨rfl, ⟨rfl, rfl⟩, ?_⟩
          unfold sE
          rw [if_pos (by simpa using p5)]
          rw [wd_eq p4]
        · rintro ⟨rfl, ⟨-, h2⟩, h3⟩
          unfold sE at h3
          split at h3
          · simp only [List.cons.injEq, true_and] at h3
            obtain ⟨-, rfl⟩ := h3
            simp only [rParts, Prod.mk.injEq, and_true] at h2
            exact ⟨⟨rfl, rfl, by first | trivial | rfl⟩, h2⟩
          · cases h3
      · rw [p1]
        constructor
        · rintro ⟨⟨-, -, h⟩, -⟩; cases h
        · rintro ⟨-, ⟨h2, h3⟩, h4⟩
          exfalso
          rcases p2 with p2 | ⟨-, p2⟩
          · rw [p2] at h2; cases h2
          · unfold sE at h4
            split at h4
            · rename_i hc
              simp only [List.cons.injEq, true_and] at h4
              obtain ⟨-, rfl⟩ := h4
              simp only [rParts, Prod.mk.injEq, and_true] at h3
              rw [← h3, p2] at hc
              simp at hc
            · cases h4
  · have hh : r.head? ≠ some wDports := by
      intro h; cases r with
      | nil => cases h
      | cons x t => simp at h; exact hw ⟨t, by rw [h]⟩
    have hi := isW_ne (b := b) hh
    unfold stA6 qA6
    rw [if_neg (by rw [hi]; decide), if_neg (by rw [hi]; decide)]
    simp only [Prod.mk.injEq]
    constructor
    · rintro ⟨⟨rfl, rfl⟩, rfl⟩
      refine ⟨rfl, rfl, ?_⟩
      unfold sE; rw [if_neg (by rw [h0, h1]; decide)]
    · rintro ⟨rfl, h2, h3⟩
      unfold sE at h3; split at h3
      · subst h3; exact absurd rfl hh
      · subst h3
        simp only [rParts, Prod.mk.injEq, and_true] at h2
        exact ⟨⟨rfl, rfl⟩, h2⟩
end Go.Proofs.YtopccnoinngmbaaGreatDoor
