/-
  Plain law: headers, and the kinds 4 to 7.
  Plain law: both writers write the same.
-/
import Derived.Test.YtopccnoinngmbaaGreatDoorA40

/- Plain law: headers, and the kinds 4 to 7. -/
namespace Go.Proofs.YtopccnoinngmbaaGreatDoor
open Go.RowKit
set_option maxRecDepth 100000
set_option linter.unusedVariables false
set_option linter.unusedSimpArgs false

theorem textH_join (h : Hd) : (joinB [wd (textE h.src h.sport), wd (textE h.dst h.dport), wd (Lib.itoa h.proto)]).data.toList = textH h := by
  rw [joinB_T, joinT_cons, joinT_cons, joinT_nil, wd_data, wd_data, wd_data]
  simp [textH]
theorem headW_bare (h : Hd) : Bare [wd (textE h.src h.sport), wd (textE h.dst h.dport), wd (Lib.itoa h.proto)] := by
  intro x hx
  simp only [List.mem_cons, List.not_mem_nil, or_false] at hx
  rcases hx with rfl | rfl | rfl
  · rw [wd_data]; exact textE_32 _ _
  · rw [wd_data]; exact textE_32 _ _
  · rw [wd_data]; exact itoa_32 _
theorem textH_words {x y z : ByteArray} (hb : Bare [x, y, z]) {h : Hd} (ht : textH h = (joinB [x, y, z]).data.toList) :
    x = wd (textE h.src h.sport) ∧ y = wd (textE h.dst h.dport) ∧ z = wd (Lib.itoa h.proto) := by
  rw [← textH_join] at ht
  have h1 := ba_ext ht
  have h2 := spl_joinB (by simp) hb
  rw [← h1, spl_joinB (by simp) (headW_bare h)] at h2
  simp only [List.cons.injEq, and_true] at h2
  exact ⟨h2.1.symm, h2.2.1.symm, h2.2.2.symm⟩
theorem cut_end (a p : Int) : cutA 58 (wd (textE a p)) = (wd (textA a), wd (Lib.itoa p), true) :=
  cutA_app (by rw [wd_data, textE]) (textA_no (by decide) (by decide) (by decide) a)
theorem num_itoa {p most : Int} (hm : most < 9223372036854775808) (h0 : 0 ≤ p) (h1 : p ≤ most) : num (wd (Lib.itoa p)) most = some p :=
  (num_iff hm).2 ⟨h0, h1, (wd_data _).symm⟩
theorem num_pU {k : Nat} {x : ByteArray} {v most : Int} (hk : k ≤ 64) (hm : most < 9223372036854775808) (hb : most < 2 ^ k) (h : num x most = some v) : pU k x = some v.toNat := by
  obtain ⟨h0, h1, h2⟩ := (num_iff hm).1 h
  obtain ⟨n, rfl⟩ := Int.eq_ofNat_of_zero_le h0
  rw [itoa_nat] at h2
  unfold pU
  rw [← h2, uint_dec hk (by exact_mod_cast Int.lt_of_le_of_lt h1 hb)]
  rfl
theorem pEnd_rEnd {a : Int} {p : Nat} (h : pEnd (wd (textE a p)) = some (a, p)) : rEnd (wd (textE a p)) = (a, (p : Int)) := by
  unfold pEnd at h
  unfold rEnd cut03
  rw [cut_end] at h ⊢
  simp only [if_true] at h ⊢
  cases h1 : pAddr (wd (textA a)) with
  | none => rw [h1] at h; cases h
  | some a' =>
    cases h2 : pU 16 (wd (Lib.itoa p)) with
    | none => rw [h1, h2] at h; cases h
    | some p' =>
      rw [h1, h2] at h
      simp only [Option.some.injEq, Prod.mk.injEq] at h
      obtain ⟨rfl, rfl⟩ := h
      have := pU_lt h2
      simp only
      rw [num_itoa (by decide) (by omega) (by omega)]
      rfl
theorem rEnd_pEnd {x : ByteArray} (h : 0 ≤ (rEnd x).2) : pEnd x = some ((rEnd x).1, (rEnd x).2.toNat) := by
  unfold rEnd cut03 at h ⊢
  unfold pEnd
  obtain ⟨u, v, ok, hc⟩ : ∃ u v ok, cutA 58 x = (u, v, ok) := ⟨_, _, _, rfl⟩
  rw [hc] at h ⊢
  cases ok with
  | false => simp at h
  | true =>
    simp only [if_true] at h ⊢
    cases h1 : pAddr u with
    | none => rw [h1] at h; simp at h
    | some a =>
      rw [h1] at h
      simp only at h ⊢
      cases h2 : num v 65535 with
      | none => rw [h2] at h; simp [getV] at h
      | some n =>
        rw [num_pU (k := 16) (by decide) (by decide) (by decide) h2]
        rfl
theorem law_head {x y z : ByteArray} (hb : Bare [x, y, z]) (h : Hd) : pHead (joinB [x, y, z]) = some h ↔ rHead (joinB [x, y, z]) = some h ∧ textH h = (joinB [x, y, z]).data.toList := by
  have hspl := spl_joinB (by simp) hb
  have hx : (32 : UInt8) ∉ x.data.toList := hb x (by simp)
  have hy : (32 : UInt8) ∉ y.data.toList := hb y (by simp)
  have c1 : cutA 32 (joinB [x, y, z]) = (x, joinB [y, z], true) := by
    rw [cutA_app (x := x.data.toList) (y := (joinB [y, z]).data.toList) (by rw [joinB_T, joinB_T, joinT_cons]) hx, ofList_of, ofList_of]
  have c2 : cutA 32 (joinB [y, z]) = (y, z, true) := by
    rw [cutA_app (x := y.data.toList) (y := z.data.toList) (by rw [joinB_T, joinT_cons, joinT_nil, List.append_nil]) hy, ofList_of, ofList_of]
  unfold rHead cut03
  rw [c1]
  simp only [if_true]
  rw [c2]
  simp only [if_true]
  unfold pHead
  rw [hspl]
  simp only
  constructor
  · intro hp
    cases h1 : pEnd x with
    | none => rw [h1] at hp; cases hp
    | some u =>
      obtain ⟨a, p⟩ := u
      cases h2 : pEnd y with
      | none => rw [h1, h2] at hp; cases hp
      | some u =>
        obtain ⟨b, q⟩ := u
        cases h3 : pU 8 z with
        | none => rw [h1, h2, h3] at hp; cases hp
        | some r =>
          rw [h1, h2, h3] at hp
          simp only at hp
          split at hp
          case isFalse => cases hp
          case isTrue ht =>
            cases hp
            obtain ⟨e1, e2, e3⟩ := textH_words hb ht
            simp only at e1 e2 e3
            have hr := pU_lt h3
            rw [e1] at h1
            rw [e2] at h2
            have r1 := pEnd_rEnd h1
            have r2 := pEnd_rEnd h2
            have hz : num z 255 = some (r : Int) := by rw [e3]; exact num_itoa (by decide) (by omega) (by omega)
            refine ⟨?_, ht⟩
            rw [e1, e2, r1, r2, hz]
            show (if (p : Int) < 0 ∨ (q : Int) < 0 ∨ (r : Int) < 0 then none else _) = _
            rw [if_neg (by omega)]
            rfl
  · rintro ⟨hp, ht⟩
    split at hp
    case isTrue => cases hp
    case isFalse hn =>
      have hh := Option.some.inj hp
      rw [rEnd_pEnd (x := x) (by omega), rEnd_pEnd (x := y) (by omega)]
      cases h3 : num z 255 with
      | none => rw [h3] at hn; simp [getV] at hn
      | some r =>
        obtain ⟨r0, r1⟩ := num_bounds h3
        rw [num_pU (k := 8) (by decide) (by decide) (by decide) h3]
        simp only
        have e : (⟨(rEnd x).1, (rEnd y).1, ((r.toNat : Nat) : Int), (((rEnd x).2.toNat : Nat) : Int), (((rEnd y).2.toNat : Nat) : Int)⟩ : Hd) = h := by
          rw [← hh, h3]
          have q1 : (((rEnd x).2.toNat : Nat) : Int) = (rEnd x).2 := by omega
          have q2 : (((rEnd y).2.toNat : Nat) : Int) = (rEnd y).2 := by omega
          have q3 : ((r.toNat : Nat) : Int) = getV (some r) := by show _ = r; omega
          rw [q1, q2, q3]
        rw [e, if_pos ht]
theorem pHead_other {r : List ByteArray} (hb : Bare r) (h : r.length ≠ 3) : pHead (joinB r) = none := by
  match r, hb, h with
  | [], _, _ => decide +kernel
  | [x], hb, _ => unfold pHead; rw [spl_joinB (by simp) hb]
  | [x, y], hb, _ => unfold pHead; rw [spl_joinB (by simp) hb]
  | [x, y, z], _, h => exact absurd rfl h
  | x :: y :: z :: u :: v, hb, _ => unfold pHead; rw [spl_joinB (by simp) hb]
theorem join3 (x y z : ByteArray) : x ++ ⟨#[32]⟩ ++ y ++ ⟨#[32]⟩ ++ z = joinB [x, y, z] := by
  apply ba_ext
  rw [joinB_T, joinT_cons, joinT_cons, joinT_nil]
  simp
/-- The kind 4. -/
theorem law_k4 {w0 : ByteArray} {t : List ByteArray} {s : ByteArray} (hW : spl 32 s = w0 :: t) (hpl : pl kindsL w0 = 4) (q : Q) :
    ((stH (stA1 (St.word (w0 :: t, false))), qH (stA1 (St.word (w0 :: t, false))) { Q.zero with kind := 4, dev := (St.word (w0 :: t, false)).head, ifc := (St.word (w0 :: t, false)).name.head }) : St × Q) = (([], false), q) ↔
    (if (w0 :: t).length = 7 then optR (decide (0 ≤ getV (num ((w0 :: t).getD 3 ⟨#[]⟩) 255)) && (rHead ((w0 :: t).getD 4 ⟨#[]⟩ ++ ⟨#[32]⟩ ++ (w0 :: t).getD 5 ⟨#[]⟩ ++ ⟨#[32]⟩ ++ (w0 :: t).getD 6 ⟨#[]⟩)).isSome)
      { Q.zero with kind := 4, dev := (w0 :: t).getD 1 ⟨#[]⟩, ifc := (w0 :: t).getD 2 ⟨#[]⟩, hops := getV (num ((w0 :: t).getD 3 ⟨#[]⟩) 255), hd := headV (rHead ((w0 :: t).getD 4 ⟨#[]⟩ ++ ⟨#[32]⟩ ++ (w0 :: t).getD 5 ⟨#[]⟩ ++ ⟨#[32]⟩ ++ (w0 :: t).getD 6 ⟨#[]⟩)) } s else none) = some q := by
  have hb := spl_bare s
  rw [hW] at hb
  have hs := spl_T hW
  match t, hW, hb, hs with
  | [], _, _, _ => simp [stH, stA1, St.word, St.name, St.head, isName_ba, isName_nil]
  | [a], _, _, _ => simp [stH, stA1, St.word, St.name, St.head, isName_ba, isName_nil]
  | [a, b], _, _, _ => simp [stH, stA1, St.word, St.name, St.head, isName_ba, isName_nil]
  | a :: b :: n :: r, hW, hb, hs =>
    have e1 : stH (stA1 (St.word (w0 :: a :: b :: n :: r, false))) = ([], !(isName a.data.toList && (isName b.data.toList && ((num n 255).isSome && (pHead (joinB r)).isSome)))) := by
      simp only [stH, stA1, St.word, St.name, St.head, List.tail_cons, List.headD_cons, List.isEmpty_cons, Bool.or_false, Bool.false_or]
      cases isName a.data.toList <;> cases isName b.data.toList <;> cases num n 255 <;> cases pHead (joinB r) <;> rfl
    have e2 : qH (stA1 (St.word (w0 :: a :: b :: n :: r, false))) { Q.zero with kind := 4, dev := (St.word (w0 :: a :: b :: n :: r, false)).head, ifc := (St.word (w0 :: a :: b :: n :: r, false)).name.head } =
      { Q.zero with kind := 4, dev := a, ifc := b, hops := (num n 255).getD 0, hd := headV (pHead (joinB r)) } := rfl
    rw [e1, e2]
    by_cases h3 : r.length = 3
    · match r, h3, hb, hs with
      | [x, y, z], _, hb, hs =>
        rw [if_pos (by rfl), optR_iff]
        simp only [List.getD_cons_zero, List.getD_cons_succ, join3]
        have hb3 : Bare [x, y, z] := hb.tail.tail.tail.tail
        have hh := law_head hb3
        have hsj : s.data.toList = w0.data.toList ++ 32 :: (a.data.toList ++ 32 :: (b.data.toList ++ 32 :: (n.data.toList ++ 32 :: (joinB [x, y, z]).data.toList))) := by
          rw [hs, joinB_T]
          simp only [joinT_cons, joinT_nil, List.append_assoc, List.cons_append, List.append_nil]
        have hkw := kindsW hpl (by omega)
        generalize joinB [x, y, z] = J at hh hsj
        have hwr : ∀ (m : Int) (h : Hd), wrT { Q.zero with kind := 4, dev := a, ifc := b, hops := m, hd := h } = w0.data.toList ++ 32 :: (a.data.toList ++ 32 :: (b.data.toList ++ 32 :: (Lib.itoa m ++ 32 :: textH h))) := by
          intro m h
          unfold wrT
          simp only
          rw [if_neg (by omega), if_neg (by omega), if_neg (by omega), if_pos trivial, hkw]
          simp only [List.append_assoc, List.cons_append]
        rw [hwr, hsj]
        have kz : (4 : Int) < 7 := by omega
        have kz2 : (4 : Int) < 5 := by omega
        simp only [kz, kz2, true_implies]
        constructor
        · intro h
          simp only [Prod.mk.injEq, true_and, Bool.not_eq_false', Bool.and_eq_true] at h
          obtain ⟨⟨n1, n2, n3, n4⟩, rfl⟩ := h
          obtain ⟨m, hm⟩ := Option.isSome_iff_exists.1 n3
          obtain ⟨g, hg⟩ := Option.isSome_iff_exists.1 n4
          obtain ⟨g1, g2⟩ := (hh g).1 hg
          obtain ⟨m0, m1⟩ := num_bounds hm
          rw [hm, hg, g1]
          refine ⟨rfl, by simp [getV, m0], n1, n2, ?_⟩
          show w0.data.toList ++ 32 :: (a.data.toList ++ 32 :: (b.data.toList ++ 32 :: (Lib.itoa m ++ 32 :: textH g))) = _
          rw [num_text (by decide) hm, g2]
        · rintro ⟨h1, h2, h3, h4, h5⟩
          simp only [Bool.and_eq_true, decide_eq_true_eq] at h2
          obtain ⟨h2, h6⟩ := h2
          obtain ⟨g, hg⟩ := Option.isSome_iff_exists.1 h6
          cases hm : num n 255 with
          | none => rw [hm] at h2; simp [getV] at h2
          | some m =>
            rw [hm, hg] at h1 h5
            replace h5 : w0.data.toList ++ 32 :: (a.data.toList ++ 32 :: (b.data.toList ++ 32 :: (Lib.itoa m ++ 32 :: textH g))) = _ := h5
            rw [num_text (by decide) hm] at h5
            have h7 := List.append_cancel_left h5
            simp only [List.cons.injEq, true_and] at h7
            have h8 := List.append_cancel_left h7
            simp only [List.cons.injEq, true_and] at h8
            have h9 := List.append_cancel_left h8
            simp only [List.cons.injEq, true_and] at h9
            have h10 := List.append_cancel_left h9
            simp only [List.cons.injEq, true_and] at h10
            rw [(hh g).2 ⟨hg, h10⟩]
            simp only [h3, h4, Option.isSome_some, Bool.and_true, Bool.not_true]
            rw [← h1]; rfl
    · rw [pHead_other hb.tail.tail.tail.tail h3]
      rw [if_neg (by simp only [List.length_cons]; omega)]
      simp
/-- The kinds 5 and 6. -/
theorem law_k56 {k : Int} (hk : k = 5 ∨ k = 6) {w0 : ByteArray} {t : List ByteArray} {s : ByteArray} (hW : spl 32 s = w0 :: t) (hpl : pl kindsL w0 = k) (q : Q) :
    ((stV (St.word (w0 :: t, false)).name, qV (St.word (w0 :: t, false)).name { Q.zero with kind := k, dev := (St.word (w0 :: t, false)).head }) : St × Q) = (([], false), q) ↔
    (if (w0 :: t).length = 2 then optR true { Q.zero with kind := k, dev := (w0 :: t).getD 1 ⟨#[]⟩ } s else if (w0 :: t).length = 4 ∧ (w0 :: t).getD 2 ⟨#[]⟩ = wVrf then optR (isName ((w0 :: t).getD 3 ⟨#[]⟩).data.toList) { Q.zero with kind := k, dev := (w0 :: t).getD 1 ⟨#[]⟩, vrf := (w0 :: t).getD 3 ⟨#[]⟩ } s else none) = some q := by
  have hb := spl_bare s
  rw [hW] at hb
  have hs := spl_T hW
  have hkw := kindsW hpl (by omega)
  have k7 : k < 7 := by omega
  have k5 : ¬ k < 5 := by omega
  have hwr0 : ∀ a : ByteArray, wrT { Q.zero with kind := k, dev := a } = w0.data.toList ++ 32 :: a.data.toList := by
    intro a
    unfold wrT
    simp only
    rw [if_neg (by omega), if_neg (by omega), if_neg (by omega), if_neg (by omega), if_pos k7, if_neg (by simp [Q.zero]), hkw]
  have hwr1 : ∀ a c : ByteArray, isName c.data.toList = true → wrT { Q.zero with kind := k, dev := a, vrf := c } = w0.data.toList ++ 32 :: (a.data.toList ++ 32 :: (wVrf.data.toList ++ 32 :: c.data.toList)) := by
    intro a c hc
    unfold wrT
    simp only
    rw [if_neg (by omega), if_neg (by omega), if_neg (by omega), if_neg (by omega), if_pos k7, if_pos (by intro h; rw [h, isName_ba] at hc; cases hc), hkw]
    simp only [List.append_assoc, List.cons_append]
    rfl
  match t, hW, hb, hs with
  | [], _, _, _ => simp [stV, St.word, St.name, St.head, isName_ba, isName_nil, St.isW]
  | [a], _, _, hs =>
    rw [if_pos (by rfl), optR_iff]
    simp only [List.getD_cons_zero, List.getD_cons_succ]
    have e1 : stV (St.word ([w0, a], false)).name = ([], !isName a.data.toList) := by simp [stV, St.word, St.name, St.head, St.isW]
    have e2 : qV (St.word ([w0, a], false)).name { Q.zero with kind := k, dev := (St.word ([w0, a], false)).head } = { Q.zero with kind := k, dev := a } := by simp [qV, St.word, St.name, St.head, St.isW]
    rw [e1, e2, hwr0, hs, joinT_cons, joinT_nil, List.append_nil]
    simp only [Prod.mk.injEq, true_and, Bool.not_eq_false', k7, k5, true_implies, false_implies, and_true]
    exact And.comm
  | a :: v :: r, _, _, hs =>
    rw [if_neg (by simp)]
    simp only [List.getD_cons_zero, List.getD_cons_succ]
    have e0 : (St.word (w0 :: a :: v :: r, false)).name = (v :: r, !isName a.data.toList) := by simp [St.word, St.name, St.head]
    have e0' : (St.word (w0 :: a :: v :: r, false)).head = a := rfl
    rw [e0, e0']
    by_cases hv : v = wVrf
    · subst hv
      have hi : St.isW (wVrf :: r, !isName a.data.toList) wVrf = true := isW_eq.2 ⟨_, rfl⟩
      rw [stV_yes hi, qV_yes hi]
      unfold St.after
      rw [if_pos hi]
      match r, hs with
      | [], _ => simp [St.name, St.skip, St.head, isName_ba, isName_nil]
      | [c], hs =>
        rw [if_pos ⟨rfl, rfl⟩, optR_iff]
        have e1 : St.name (St.skip ([wVrf, c], !isName a.data.toList)) = ([], !isName a.data.toList || !isName c.data.toList) := rfl
        have e2 : St.head (St.skip ([wVrf, c], !isName a.data.toList)) = c := rfl
        rw [e1, e2]
        constructor
        · intro h
          simp only [Prod.mk.injEq, true_and, Bool.or_eq_false_iff, Bool.not_eq_false'] at h
          obtain ⟨⟨n1, n2⟩, h⟩ := h
          exact ⟨h, n2, fun _ => n1, fun hh => absurd hh k5, (hwr1 a c n2).trans (by rw [hs, joinT_cons, joinT_cons, joinT_cons, joinT_nil, List.append_nil])⟩
        · rintro ⟨h, n2, n1, -, -⟩
          have n1 : isName a.data.toList = true := n1 k7
          have n2 : isName c.data.toList = true := n2
          simp only [n1, n2, Bool.not_true, Bool.or_false, Prod.mk.injEq, true_and]
          exact h
      | c :: d :: r', _ =>
        rw [if_neg (by simp)]
        simp [St.name, St.skip, St.head]
    · have hi : St.isW (v :: r, !isName a.data.toList) wVrf = false := isW_ne (by simpa using hv)
      rw [stV_no hi, if_neg (fun h => hv h.2)]
      simp
/-- The kind 7. -/
theorem law_k7 {w0 : ByteArray} {t : List ByteArray} {s : ByteArray} (hW : spl 32 s = w0 :: t) (hpl : pl kindsL w0 = 7) (q : Q) :
    ((stO (St.word (w0 :: t, false)), qO (St.word (w0 :: t, false)) { Q.zero with kind := 7 }) : St × Q) = (([], false), q) ↔
    (if (w0 :: t).length = 2 then optR (pAddr ((w0 :: t).getD 1 ⟨#[]⟩)).isSome { Q.zero with kind := 7, addr := (pAddr ((w0 :: t).getD 1 ⟨#[]⟩)).getD 0 } s else none) = some q := by
  have hs := spl_T hW
  have hkw := kindsW hpl (by omega)
  match t, hs with
  | [], _ => simp [stO, St.word, St.bad, St.head]
  | [a], hs =>
    rw [if_pos (by rfl), optR_iff]
    simp only [List.getD_cons_zero, List.getD_cons_succ]
    have e1 : stO (St.word ([w0, a], false)) = ([], (pAddr a).isNone) := by simp [stO, St.word, St.bad, St.head]
    have e2 : qO (St.word ([w0, a], false)) { Q.zero with kind := 7 } = { Q.zero with kind := 7, addr := (pAddr a).getD 0 } := rfl
    rw [e1, e2]
    cases h : pAddr a with
    | none => simp
    | some n =>
      have hwr : wrT { Q.zero with kind := 7, addr := n } = w0.data.toList ++ 32 :: textA n := by
        unfold wrT
        simp only
        rw [if_neg (by omega), if_neg (by omega), if_neg (by omega), if_neg (by omega), if_neg (by omega), hkw]
      simp only [Option.isNone_some, Option.isSome_some, Option.getD_some, Prod.mk.injEq, true_and]
      rw [hwr, hs, joinT_cons, joinT_nil, List.append_nil, pAddr_text h]
      simp
  | a :: b :: r, _ =>
    rw [if_neg (by simp)]
    simp [stO, St.word, St.bad, St.head]
theorem law_k0 {s : ByteArray} (q x y : Q) {st : St} : ((St.bad st true, x) : St × Q) = (([], false), q) ↔ optR false y s = some q := by
  rw [optR_iff]
  simp [St.bad]
/-- Both read the same. -/
theorem law_read (s : ByteArray) : pAsk s = rAsk s := by
  apply Option.ext
  intro q
  rw [pAsk_iff]
  obtain ⟨w0, t, hW⟩ : ∃ w0 t, spl 32 s = w0 :: t := by
    cases h : spl 32 s with
    | nil => exact absurd h (spl_ne 32 s)
    | cons w0 t => exact ⟨w0, t, rfl⟩
  unfold fin rAsk
  rw [hW]
  simp only [List.headD_cons]
  have b0 := (pl_bounds kindsL w0).1
  have b1 : pl kindsL w0 ≤ 7 := pl_le7 kindsL w0
  obtain ⟨κ, hk⟩ : ∃ κ, pl kindsL w0 = κ := ⟨_, rfl⟩
  rw [hk] at b0 b1 ⊢
  have hc : κ = 0 ∨ κ = 1 ∨ κ = 2 ∨ κ = 3 ∨ κ = 4 ∨ κ = 5 ∨ κ = 6 ∨ κ = 7 := by omega
  rcases hc with rfl | rfl | rfl | rfl | rfl | rfl | rfl | rfl
  · exact law_k0 _ _ _
  · exact law_k12 (.inl rfl) hW hk q
  · exact law_k12 (.inr rfl) hW hk q
  · exact law_k3 hW hk q
  · exact law_k4 hW hk q
  · exact law_k56 (.inl rfl) hW hk q
  · exact law_k56 (.inr rfl) hW hk q
  · exact law_k7 hW hk q
end Go.Proofs.YtopccnoinngmbaaGreatDoor

/- Plain law: both writers write the same. -/
namespace Go.Proofs.YtopccnoinngmbaaGreatDoor
open Go.RowKit
set_option maxRecDepth 100000
set_option linter.unusedVariables false
set_option linter.unusedSimpArgs false

theorem spl_nil : spl 32 ⟨#[]⟩ = [⟨#[]⟩] := by
  apply map_data_inj
  rw [spl_data]
  rfl
theorem optR_wrT {ok : Bool} {x q : Q} {s : ByteArray} (h : optR ok x s = some q) : wrT q = s.data.toList := by
  have := optR_iff.1 h
  rw [← this.1]; exact this.2.2.2.2
theorem rAsk_wrT {s : ByteArray} {q : Q} (h : rAsk s = some q) : wrT q = s.data.toList := by
  unfold rAsk at h
  split at h
  · split at h
    · cases h
    · exact optR_wrT h
  · split at h
    · cases h
    · exact optR_wrT h
  · split at h
    · cases h
    · exact optR_wrT h
  · split at h
    · exact optR_wrT h
    · cases h
  · split at h
    · exact optR_wrT h
    · split at h
      · exact optR_wrT h
      · cases h
  · split at h
    · exact optR_wrT h
    · split at h
      · exact optR_wrT h
      · cases h
  · split at h
    · exact optR_wrT h
    · cases h
  · exact optR_wrT h
theorem pl_nil : pl kindsL ⟨#[]⟩ = 0 := by decide +kernel
theorem rAsk_nil : rAsk ⟨#[]⟩ = none := by
  unfold rAsk
  rw [spl_nil]
  simp only [List.headD_cons]
  rw [pl_nil]
  rfl
/-- Has it a text at all? -/
def texted (q : Q) : Prop := 1 ≤ q.kind ∧ q.kind ≤ 7 ∧ (q.kind < 3 → 1 ≤ q.en ∧ q.en ≤ 7)
theorem wrT_no {q : Q} (h : ¬ texted q) : wrT q = [] := by
  unfold wrT
  unfold texted at h
  by_cases h1 : q.kind < 1 ∨ 7 < q.kind
  · rw [if_pos h1]
  · rw [if_neg h1]
    have h3 : q.kind < 3 := by omega
    rw [if_pos h3, if_pos (by omega)]
theorem rAsk_texted {s : ByteArray} {q : Q} (h : rAsk s = some q) : texted q := by
  by_cases ht : texted q
  · exact ht
  · have h1 := rAsk_wrT h
    rw [wrT_no ht] at h1
    have : s = ⟨#[]⟩ := ba_ext (by rw [← h1])
    rw [this, rAsk_nil] at h
    cases h
theorem onto_if (b : Bool) (ws xs : List ByteArray) : onto b ws xs = ws ++ if b then xs else [] := by
  unfold onto; cases b <;> simp
theorem tE_segs (q : Q) : tE q = tw4 q ++ segs q := by
  have c1 : (!(q.slo == 0 && q.shi == 65535)) = (q.slo != 0 || q.shi != 65535) := by cases h1 : q.slo == 0 <;> cases h2 : q.shi == 65535 <;> simp [bne, h1, h2]
  have c2 : (!(q.dlo == 0 && q.dhi == 65535)) = (q.dlo != 0 || q.dhi != 65535) := by cases h1 : q.dlo == 0 <;> cases h2 : q.dhi == 65535 <;> simp [bne, h1, h2]
  unfold tE tD tC tB tA segs
  rw [c1, c2, onto_if, onto_if, onto_if, onto_if, onto_if]
  simp only [List.append_assoc]
  rfl
theorem text_same {q : Q} (h : texted q) : joinB (tH q) = ⟨(wrT q).toArray⟩ := by
  apply ba_ext
  rw [ofList_data]
  obtain ⟨h0, h1, h2⟩ := h
  by_cases k3 : q.kind < 3
  · obtain ⟨e0, e1⟩ := h2 k3
    have hH : tH q = wordL kindsL q.kind :: q.dev :: q.ifc :: wordL endsL q.en :: segs q := by
      unfold tH tG tF tR
      rw [if_pos (by omega), tE_segs]
      have b7 : (q.kind == 7) = false := by simp; omega
      have b4 : (q.kind == 4) = false := by simp; omega
      have b5 : (q.kind == 5) = false := by simp; omega
      have b6 : (q.kind == 6) = false := by simp; omega
      rw [b7, b4, b5, b6]
      unfold tw4 tw3 tw2 tw1 onto
      rw [decide_eq_true k3, decide_eq_true (show q.kind < 5 by omega), decide_eq_true (show q.kind < 7 by omega)]
      rfl
    rw [hH, joinB_T]
    simp only [joinT_cons]
    unfold wrT
    rw [if_neg (by omega), if_pos k3, if_neg (by omega), pt5_segs]
    simp only [List.append_assoc, List.cons_append]
  · have hc : q.kind = 3 ∨ q.kind = 4 ∨ q.kind = 5 ∨ q.kind = 6 ∨ q.kind = 7 := by omega
    unfold wrT
    rw [if_neg (by omega), if_neg k3]
    rcases hc with hk | hk | hk | hk | hk
    · have hH : tH q = wordL kindsL q.kind :: q.dev :: q.ifc :: segs q := by
        unfold tH tG tF tR
        rw [if_pos (by omega), tE_segs]
        unfold tw4 tw3 tw2 tw1 onto
        rw [hk]; rfl
      rw [if_pos hk, hH, joinB_T]
      simp only [joinT_cons]
      rw [pt5_segs]
      simp only [List.append_assoc, List.cons_append]
    · have hH : tH q = [wordL kindsL q.kind, q.dev, q.ifc, wd (Lib.itoa q.hops), wd (textH q.hd)] := by
        unfold tH tG tF tR
        rw [if_neg (by omega)]
        unfold tw4 tw3 tw2 tw1 onto
        rw [hk]; rfl
      rw [if_neg (by omega), if_pos hk, hH, joinB_T]
      simp only [joinT_cons, joinT_nil, wd_data]
      simp only [List.append_assoc, List.cons_append, List.append_nil]
    · have hH : tH q = wordL kindsL q.kind :: q.dev :: (if q.vrf ≠ ⟨#[]⟩ then [wVrf, q.vrf] else []) := by
        unfold tH tG tF tR
        rw [if_neg (by omega)]
        unfold tw4 tw3 tw2 tw1 onto
        rw [hk]
        by_cases hv : q.vrf = ⟨#[]⟩ <;> simp [hv]
      rw [if_neg (by omega), if_neg (by omega), if_pos (by omega), hH, joinB_T]
      by_cases hv : q.vrf = ⟨#[]⟩
      · simp only [hv, ne_eq, not_true_eq_false, if_false, joinT_cons, joinT_nil, List.append_nil]
      · simp only [hv, ne_eq, not_false_eq_true, if_true, joinT_cons, joinT_nil, List.append_nil, List.append_assoc, List.cons_append]
        rfl
    · have hH : tH q = wordL kindsL q.kind :: q.dev :: (if q.vrf ≠ ⟨#[]⟩ then [wVrf, q.vrf] else []) := by
        unfold tH tG tF tR
        rw [if_neg (by omega)]
        unfold tw4 tw3 tw2 tw1 onto
        rw [hk]
        by_cases hv : q.vrf = ⟨#[]⟩ <;> simp [hv]
      rw [if_neg (by omega), if_neg (by omega), if_pos (by omega), hH, joinB_T]
      by_cases hv : q.vrf = ⟨#[]⟩
      · simp only [hv, ne_eq, not_true_eq_false, if_false, joinT_cons, joinT_nil, List.append_nil]
      · simp only [hv, ne_eq, not_false_eq_true, if_true, joinT_cons, joinT_nil, List.append_nil, List.append_assoc, List.cons_append]
        rfl
    · have hH : tH q = [wordL kindsL q.kind, wd (textA q.addr)] := by
        unfold tH tG tF tR
        rw [if_neg (by omega)]
        unfold tw4 tw3 tw2 tw1 onto
        rw [hk]; rfl
      rw [if_neg (by omega), if_neg (by omega), if_neg (by omega), hH, joinB_T]
      simp only [joinT_cons, joinT_nil, wd_data, List.append_nil]
theorem beq_kind {x q : Q} (h : x.beq q = true) : x.kind = q.kind ∧ x.en = q.en := by
  unfold Q.beq at h
  simp only [Bool.and_eq_true, beq_iff_eq] at h
  exact ⟨h.1, h.2.2.2.2.1⟩
/-- What ask.Text answers is what the reference says. -/
theorem law_text (q : Q) : outT q = if isQ q then .tuple #[.string ⟨(wrT q).toArray⟩, .int .i64 0] else .tuple #[.string ⟨#[]⟩, .int .i64 1] := by
  unfold outT isQ
  by_cases ht : texted q
  · rw [text_same ht, law_read]
    cases rAsk ⟨(wrT q).toArray⟩ <;> rfl
  · rw [wrT_no ht]
    have h1 : rAsk (⟨([] : List UInt8).toArray⟩ : ByteArray) = none := rAsk_nil
    rw [h1]
    cases hp : pAsk (joinB (tH q)) with
    | none => rfl
    | some x =>
      have hb : x.beq q = false := by
        cases hb : x.beq q with
        | false => rfl
        | true =>
          exfalso
          obtain ⟨e1, e2⟩ := beq_kind hb
          rw [law_read] at hp
          have := rAsk_texted hp
          unfold texted at this ht
          rw [e1, e2] at this
          exact ht this
      simp only [hb]
      rfl
end Go.Proofs.YtopccnoinngmbaaGreatDoor
