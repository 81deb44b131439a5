/-
  Plain law: both readers say the same of every text.
-/
import Derived.Test.YtopccnoinngmbaaGreatDoorA36
import Derived.Test.YtopccnoinngmbaaGreatDoorA39
namespace Go.Proofs.YtopccnoinngmbaaGreatDoor
open Go.RowKit
set_option maxRecDepth 100000
set_option linter.unusedVariables false
set_option linter.unusedSimpArgs false

theorem pAsk_iff {s : ByteArray} {q : Q} : pAsk s = some q ↔ fin (spl 32 s) = (([], false), q) := by
  unfold pAsk
  obtain ⟨⟨r, b⟩, x⟩ := fin (spl 32 s)
  cases b <;> cases r <;> simp
theorem optR_iff {ok : Bool} {x q : Q} {s : ByteArray} : optR ok x s = some q ↔ x = q ∧ ok = true ∧ (x.kind < 7 → isName x.dev.data.toList = true) ∧ (x.kind < 5 → isName x.ifc.data.toList = true) ∧ wrT x = s.data.toList := by
  unfold optR rBad
  by_cases h7 : x.kind < 7 <;> by_cases h5 : x.kind < 5 <;> by_cases hw : wrT x = s.data.toList <;> cases ok <;> cases isName x.dev.data.toList <;> cases isName x.ifc.data.toList <;> simp [h7, h5, hw]
/-- A question's fields, ahead of its heads. -/
def baseQ (k e : Int) (a b : ByteArray) : Q := { Q.zero with kind := k, dev := a, ifc := b, en := e, permit := true, proto := -1, src := 0, sbits := 0, dst := 0, dbits := 0, slo := 0, shi := 65535, dlo := 0, dhi := 65535 }
/-- The heads. -/
theorem law_heads {k e : Int} {a b : ByteArray} {r : List ByteArray} {s : ByteArray} {q : Q} {pre : List UInt8} {ok : Bool} (hk : k < 4)
    (hs : s.data.toList = pre ++ joinT r) (hr : Bare r)
    (hwr : ∀ q : Q, q.kind = k → q.dev = a → q.ifc = b → q.en = e → ok = true → wrT q = pre ++ pt5 q) {T : Q × Bool}
    (hT : T = if ok && decide (r.length % 2 = 0) then rParts r (baseQ k e a b) else (baseQ k e a b, false)) {f : Bool} (hf : f = !(isName a.data.toList && (isName b.data.toList && ok))) :
    fin3 (r, f) (baseQ k e a b) = (([], false), q) ↔ optR T.2 T.1 s = some q := by
  subst hf
  rw [law_fin3 ⟨rfl, rfl⟩ ⟨rfl, rfl⟩ rfl ⟨rfl, rfl, rfl, rfl⟩, optR_iff]
  obtain ⟨k1, k2, k3, k4⟩ := rParts_keep r (baseQ k e a b)
  have b1 : (baseQ k e a b).kind = k := rfl
  have b2 : (baseQ k e a b).dev = a := rfl
  have b3 : (baseQ k e a b).ifc = b := rfl
  have b4 : (baseQ k e a b).en = e := rfl
  constructor
  · rintro ⟨h1, h2, h3⟩
    simp only at h1 h2 h3
    simp only [Bool.not_eq_false', Bool.and_eq_true] at h1
    obtain ⟨n1, n2, n3⟩ := h1
    have he : r.length % 2 = 0 := by rw [h3]; exact segs_even q
    rw [if_pos (by rw [n3]; simpa using he), h2] at hT
    subst hT
    rw [h2] at k1 k2 k3 k4
    simp only at k1 k2 k3 k4 ⊢
    refine ⟨trivial, trivial, fun _ => by rw [k2, b2]; exact n1, fun _ => by rw [k3, b3]; exact n2, ?_⟩
    rw [hwr q (k1.trans b1) (k2.trans b2) (k3.trans b3) (k4.trans b4) n3, hs, pt5_segs, ← h3]
  · rintro ⟨h1, h2, h3, h4, h5⟩
    split at hT
    · rename_i hc
      simp only [Bool.and_eq_true, decide_eq_true_eq] at hc
      obtain ⟨n3, he⟩ := hc
      rw [hT] at h1 h2 h3 h4 h5
      rw [k1, b1, k2, b2] at h3
      rw [k1, b1, k3, b3] at h4
      rw [h1] at h5 k1 k2 k3 k4
      have h7 := hwr q (k1.trans b1) (k2.trans b2) (k3.trans b3) (k4.trans b4) n3
      rw [h7, hs, pt5_segs] at h5
      refine ⟨?_, ?_, ?_⟩
      · simp [h3 (by omega), h4 (by omega), n3]
      · show rParts r (baseQ k e a b) = _
        rw [← h1, ← h2]
      · exact (joinT_inj (segs_bare q) hr (List.append_cancel_left h5)).symm
    · rw [hT] at h2
      cases h2
theorem kindsW {w0 : ByteArray} {k : Int} (h : pl kindsL w0 = k) (h1 : 1 ≤ k) : (wordL kindsL k).data.toList = w0.data.toList := by
  subst h; rw [wordL_pl h1]
/-- The kinds 1 and 2. -/
theorem law_k12 {k : Int} (hk : k = 1 ∨ k = 2) {w0 : ByteArray} {t : List ByteArray} {s : ByteArray} (hW : spl 32 s = w0 :: t) (hpl : pl kindsL w0 = k) (q : Q) :
    fin3 (stA2 (stA1 (St.word (w0 :: t, false)))) (qA2 (stA1 (St.word (w0 :: t, false))) (qA1 (St.word (w0 :: t, false)) { Q.zero with kind := k })) = (([], false), q) ↔
    (if (w0 :: t).length < 4 then none else optR (rTail (decide (0 < pl endsL ((w0 :: t).getD 3 ⟨#[]⟩))) (w0 :: t) 4 (baseQ k (pl endsL ((w0 :: t).getD 3 ⟨#[]⟩)) ((w0 :: t).getD 1 ⟨#[]⟩) ((w0 :: t).getD 2 ⟨#[]⟩))).2
      (rTail (decide (0 < pl endsL ((w0 :: t).getD 3 ⟨#[]⟩))) (w0 :: t) 4 (baseQ k (pl endsL ((w0 :: t).getD 3 ⟨#[]⟩)) ((w0 :: t).getD 1 ⟨#[]⟩) ((w0 :: t).getD 2 ⟨#[]⟩))).1 s) = some q := by
  have hb := spl_bare s
  rw [hW] at hb
  have hs := spl_T hW
  have short : ∀ (x : List ByteArray) (q1 : Q), (q1.src = 0 ∧ q1.sbits = 0) → (q1.dst = 0 ∧ q1.dbits = 0) → q1.proto = -1 → (q1.slo = 0 ∧ q1.shi = 65535 ∧ q1.dlo = 0 ∧ q1.dhi = 65535) → ¬ fin3 (x, true) q1 = (([], false), q) := by
    intro x q1 h7 h6 h5 h0 h
    have := (law_fin3 h7 h6 h5 h0 (x, true)).1 h
    cases this.1
  match t, hW, hb, hs with
  | [], _, _, _ =>
    rw [if_pos (by simp)]
    refine ⟨fun h => absurd h ?_, fun h => by cases h⟩
    refine short [] _ ⟨rfl, rfl⟩ ⟨rfl, rfl⟩ rfl ⟨rfl, rfl, rfl, rfl⟩
  | [a], _, _, _ =>
    rw [if_pos (by show 2 < 4; omega)]
    refine ⟨fun h => absurd h ?_, fun h => by cases h⟩
    have e : stA2 (stA1 (St.word ([w0, a], false))) = ([], true) := by simp [stA2, stA1, St.word, St.name, St.bad, St.head, isName_ba, isName_nil]
    rw [e]
    refine short [] _ ⟨rfl, rfl⟩ ⟨rfl, rfl⟩ rfl ⟨rfl, rfl, rfl, rfl⟩
  | [a, b], _, _, _ =>
    rw [if_pos (by show 3 < 4; omega)]
    refine ⟨fun h => absurd h ?_, fun h => by cases h⟩
    have e : stA2 (stA1 (St.word ([w0, a, b], false))) = ([], true) := by simp [stA2, stA1, St.word, St.name, St.bad, St.head, isName_ba, isName_nil]
    rw [e]
    refine short [] _ ⟨rfl, rfl⟩ ⟨rfl, rfl⟩ rfl ⟨rfl, rfl, rfl, rfl⟩
  | a :: b :: e :: r, hW, hb, hs =>
    rw [if_neg (by simp)]
    simp only [List.getD_cons_zero, List.getD_cons_succ]
    have e1 : stA2 (stA1 (St.word (w0 :: a :: b :: e :: r, false))) = (r, !(isName a.data.toList && (isName b.data.toList && decide (0 < pl endsL e)))) := by
      have hn := (pl_bounds endsL e).1
      have : (pl endsL e == 0) = !decide (0 < pl endsL e) := by
        by_cases h : 0 < pl endsL e
        · rw [decide_eq_true h]; simp; omega
        · rw [decide_eq_false h]; simp; omega
      simp only [stA2, stA1, St.word, St.name, St.bad, St.head, List.tail_cons, List.headD_cons, List.isEmpty_cons, Bool.or_false, Bool.false_or, this]
      cases isName a.data.toList <;> cases isName b.data.toList <;> rfl
    have e2 : qA2 (stA1 (St.word (w0 :: a :: b :: e :: r, false))) (qA1 (St.word (w0 :: a :: b :: e :: r, false)) { Q.zero with kind := k }) = baseQ k (pl endsL e) a b := rfl
    rw [e1, e2]
    refine law_heads (k := k) (e := pl endsL e) (a := a) (b := b) (pre := w0.data.toList ++ 32 :: (a.data.toList ++ 32 :: (b.data.toList ++ 32 :: e.data.toList))) (by omega) ?_ hb.tail.tail.tail.tail ?_ (ok := decide (0 < pl endsL e)) ?_ rfl
    · rw [hs, joinT_cons, joinT_cons, joinT_cons]
      simp only [List.append_assoc, List.cons_append]
    · intro q c1 c2 c3 c4 c5
      simp only [decide_eq_true_eq] at c5
      have hle := pl_le7 endsL e
      have h7 : (endsL.length : Int) = 7 := rfl
      have hw := wordL_pl (l := endsL) (x := e) (by omega)
      have hkw := kindsW hpl (by omega)
      unfold wrT
      rw [c1, c2, c3, c4, if_neg (by omega), if_pos (by omega), if_neg (by omega), hw, hkw]
      simp only [List.append_assoc, List.cons_append]
    · unfold rTail
      rw [show (w0 :: a :: b :: e :: r).length - 4 = r.length by simp]
      rfl
/-- The kind 3. -/
theorem law_k3 {w0 : ByteArray} {t : List ByteArray} {s : ByteArray} (hW : spl 32 s = w0 :: t) (hpl : pl kindsL w0 = 3) (q : Q) :
    fin3 (stA1 (St.word (w0 :: t, false))) (qA1 (St.word (w0 :: t, false)) { Q.zero with kind := 3 }) = (([], false), q) ↔
    (if (w0 :: t).length < 3 then none else optR (rTail true (w0 :: t) 3 (baseQ 3 0 ((w0 :: t).getD 1 ⟨#[]⟩) ((w0 :: t).getD 2 ⟨#[]⟩))).2
      (rTail true (w0 :: t) 3 (baseQ 3 0 ((w0 :: t).getD 1 ⟨#[]⟩) ((w0 :: t).getD 2 ⟨#[]⟩))).1 s) = some q := by
  have hb := spl_bare s
  rw [hW] at hb
  have hs := spl_T hW
  have short : ∀ (x : List ByteArray) (q1 : Q), (q1.src = 0 ∧ q1.sbits = 0) → (q1.dst = 0 ∧ q1.dbits = 0) → q1.proto = -1 → (q1.slo = 0 ∧ q1.shi = 65535 ∧ q1.dlo = 0 ∧ q1.dhi = 65535) → ¬ fin3 (x, true) q1 = (([], false), q) := by
    intro x q1 h7 h6 h5 h0 h
    have := (law_fin3 h7 h6 h5 h0 (x, true)).1 h
    cases this.1
  match t, hW, hb, hs with
  | [], _, _, _ =>
    rw [if_pos (by simp)]
    refine ⟨fun h => absurd h ?_, fun h => by cases h⟩
    refine short [] _ ⟨rfl, rfl⟩ ⟨rfl, rfl⟩ rfl ⟨rfl, rfl, rfl, rfl⟩
  | [a], _, _, _ =>
    rw [if_pos (by show 2 < 3; omega)]
    refine ⟨fun h => absurd h ?_, fun h => by cases h⟩
    have e : stA1 (St.word ([w0, a], false)) = ([], true) := by simp [stA1, St.word, St.name, St.bad, St.head, isName_ba, isName_nil]
    rw [e]
    refine short [] _ ⟨rfl, rfl⟩ ⟨rfl, rfl⟩ rfl ⟨rfl, rfl, rfl, rfl⟩
  | a :: b :: r, hW, hb, hs =>
    rw [if_neg (by simp)]
    simp only [List.getD_cons_zero, List.getD_cons_succ]
    have e1 : stA1 (St.word (w0 :: a :: b :: r, false)) = (r, !(isName a.data.toList && (isName b.data.toList && true))) := by
      simp only [stA2, stA1, St.word, St.name, St.bad, St.head, List.tail_cons, List.headD_cons, List.isEmpty_cons, Bool.or_false, Bool.false_or]
      cases isName a.data.toList <;> cases isName b.data.toList <;> rfl
    have e2 : qA1 (St.word (w0 :: a :: b :: r, false)) { Q.zero with kind := 3 } = baseQ 3 0 a b := rfl
    rw [e1, e2]
    refine law_heads (k := 3) (e := 0) (a := a) (b := b) (pre := w0.data.toList ++ 32 :: (a.data.toList ++ 32 :: b.data.toList)) (by omega) ?_ hb.tail.tail.tail ?_ (ok := true) ?_ rfl
    · rw [hs, joinT_cons, joinT_cons]
      simp only [List.append_assoc, List.cons_append]
    · intro q c1 c2 c3 c4 c5
      have hkw := kindsW hpl (by omega)
      unfold wrT
      rw [c1, c2, c3, if_neg (by omega), if_neg (by omega), if_pos rfl, hkw]
      simp only [List.append_assoc, List.cons_append]
    · unfold rTail
      rw [show (w0 :: a :: b :: r).length - 3 = r.length by simp]
      rfl
end Go.Proofs.YtopccnoinngmbaaGreatDoor
