/-
  A count's digits, as package ask writes them.
  Doubling a number's digits, the last ahead: plain law.
-/
import Derived.Test.YtopccnoinngmbaaGreatDoorA42
import Derived.Lib.OwnBridge
import Derived.Test.YtopccnoinngmbaaGreatDoorA06
import Derived.Test.YtopccnoinngmbaaGreatDoorA05
import Derived.Laws.Bits64b

/- A count's digits, as package ask writes them. -/
namespace Go.Proofs.YtopccnoinngmbaaGreatDoor
open Go.RowKit Go.Sort
set_option maxRecDepth 1000000
set_option maxHeartbeats 16000000
set_option linter.unusedVariables false
set_option linter.unusedSimpArgs false

/-- Digits written down, the last ahead. -/
def dbs (t : List Int) : List UInt8 := t.reverse.map fun d => UInt8.ofNat (48 + d).toNat
/-- N: the count; m: what is left; t: the digits, the last ahead. -/
def DI (N m : Nat) (t : List Int) : Prop := (t = [] → m = N) ∧ (t ≠ [] → m = 0 → Lib.decDigits N = dbs t) ∧ (t ≠ [] → m ≠ 0 → Lib.decDigits N = Lib.decDigits m ++ dbs t) ∧ (t ≠ [] → m ≤ N)
theorem DI.step {N m : Nat} {t : List Int} (h : DI N m t) (hm : m ≠ 0 ∨ t = []) : DI N (m / 10) (t ++ [((m % 10 : Nat) : Int)]) := by
  obtain ⟨h1, h2, h3, h4⟩ := h
  have hd : dbs (t ++ [((m % 10 : Nat) : Int)]) = UInt8.ofNat (48 + m % 10) :: dbs t := by
    unfold dbs
    rw [List.reverse_append, List.map_append]
    simp
    rw [show (48 + (m : Int) % 10).toNat = 48 + m % 10 by omega, UInt8.ofNat_add]; rfl
  have key : Lib.decDigits N = Lib.decDigits m ++ dbs t := by
    by_cases ht : t = []
    · rw [h1 ht, ht]; simp [dbs]
    · rcases hm with hm | hm
      · exact h3 ht hm
      · exact absurd hm ht
  refine ⟨fun e => by simp at e, fun _ e => ?_, fun _ e => ?_, fun _ => ?_⟩
  · rw [hd, key, Lib.decDigits_one (by omega)]
    have : m % 10 = m := by omega
    rw [this]; rfl
  · rw [hd, key, dec_big (by omega)]
    simp
  · by_cases ht : t = []
    · rw [h1 ht]; omega
    · have := h4 ht; omega
/-- The memory of ask.Decimal. -/
structure DM (w : World) (hi lo : Int) (t : List Int) (v : Value) (W : World) : Prop where
  bel : Below w.heap.size w W
  box : W.heap[w.heap.size]? = some (.cells #[.int .u64 hi, .int .u64 lo] 37 (0, 0))
  own : W.ownsRow (w.heap.size + 1) 5 1 v t.length (t.map fun d => Value.int .u8 (48 + d))
theorem own_slice5 {W : World} {base : Nat} {v : Value} {n : Nat} {xs : List Value} (ho : W.ownsRow base 5 1 v n xs) : ∃ ao cv, v = .slice ao n cv := by
  rcases ho.2 with ⟨rfl, rfl⟩ | ⟨g, cap, cur, rfl, _⟩
  · exact ⟨_, _, rfl⟩
  · exact ⟨_, _, rfl⟩
theorem own_keep5 {W W1 : World} {base : Nat} {v : Value} {n : Nat} {xs : List Value} (ho : W.ownsRow base 5 1 v n xs) (hk : ∀ (g : Nat) cs, base ≤ g → W.heap[g]? = some (.cells cs 5 (0, 0)) → W1.heap[g]? = some (.cells cs 5 (0, 0))) : W1.ownsRow base 5 1 v n xs := by
  refine ⟨ho.1, ?_⟩
  rcases ho.2 with h | ⟨g, cap, cur, hv, hb, hg, rest⟩
  · exact .inl h
  · exact .inr ⟨g, cap, cur, hv, hb, hk g cur hb hg, rest⟩
theorem DM.below {w W W1 : World} {a b : Int} {t : List Int} {v : Value} (H : DM w a b t v W) (h : Below W.heap.size W W1) : DM w a b t v W1 :=
  ⟨below_seq H.bel h, kept_old h H.box, own_keep5 H.own fun g cs _ hg => kept_old h hg⟩
theorem DM.set {w W : World} {a b : Int} {t : List Int} {v : Value} (H : DM w a b t v W) (a' b' : Int) : DM w a' b' t v ((W.setCell ⟨w.heap.size, 0, none⟩ (.int .u64 a')).setCell ⟨w.heap.size, 1, none⟩ (.int .u64 b')) := by
  refine ⟨(H.bel.setCell (Nat.le_refl _) _).setCell (Nat.le_refl _) _, ?_, own_keep5 H.own fun g cs hb hg => ?_⟩
  · have h1 := block_setCell H.box 0 (.int .u64 a')
    have h2 := block_setCell h1 1 (.int .u64 b')
    exact h2
  · rw [Below.heap_setCell _ _ _ _ (by show g ≠ w.heap.size; omega), Below.heap_setCell _ _ _ _ (by show g ≠ w.heap.size; omega)]
    exact hg
theorem DM.put {w W W1 : World} {a b d : Int} {t : List Int} {n : Nat} {v v' : Value} {o : Obj} (H : DM w a b t v W) (hn : t.length = n) (ho : W1.ownsRow (w.heap.size + 1) 5 1 v' (n + 1) (t.map (fun d => Value.int .u8 (48 + d)) ++ [Value.int .u8 (48 + d)])) (hg : (W.alloc o).grownBy W1 v.ownBlock) : DM w a b (t ++ [d]) v' W1 := by
  subst hn
  have hb1 : Below w.heap.size w (W.alloc o) := H.bel.alloc H.bel.size _
  have hz := H.bel.size
  have hlt := lt_of_block H.box
  refine ⟨hb1.grown hg (by rw [sz_alloc]; omega) (fun j hj => by have := (H.own.lt j hj).1; omega), ?_, by simpa using ho⟩
  have hbox : (W.alloc o).heap[w.heap.size]? = some (.cells #[.int .u64 a, .int .u64 b] 37 (0, 0)) := kept_old (below_new W o) H.box
  rw [hg.block w.heap.size (by rw [sz_alloc]; omega) (fun e => by have := (H.own.lt _ e.symm).1; omega)]
  exact hbox
theorem one_oneI (x : Int) : ∀ u ∈ [Value.int .u8 x], u.oneCell' = true := by
  intro u hu
  rw [List.mem_singleton] at hu
  subst hu; rfl
theorem dm_bounds {hi lo : Int} {N : Nat} (h : hi * 18446744073709551616 + lo = N) (h0 : 0 ≤ lo) (h1 : lo < 18446744073709551616) (g0 : 0 ≤ hi) :
    hi / 10 * 18446744073709551616 + (hi % 10 * 18446744073709551616 + lo) / 10 = ((N / 10 : Nat) : Int) ∧ (hi % 10 * 18446744073709551616 + lo) % 10 = ((N % 10 : Nat) : Int) ∧ 0 ≤ (hi % 10 * 18446744073709551616 + lo) / 10 ∧ (hi % 10 * 18446744073709551616 + lo) / 10 < 18446744073709551616 := by
  omega
theorem holds_rev {W : World} {g : Nat} {cur : Array Value} {t : List Int} (hg : W.heap[g]? = some (.cells cur 5 (0, 0))) (htk : cur.toList.take (t.length * 1) = t.map fun d => Value.int .u8 (48 + d)) :
    Holds encB W g 0 (t.map fun d => 48 + d).toArray := by
  intro j hj
  have hj' : j < t.length := by simpa using hj
  refine ⟨?_, free_at hg _⟩
  rw [cell_at hg, Nat.zero_add]
  have h1 : (cur.toList.take (t.length * 1))[j]? = cur[j]? := by
    rw [List.getElem?_take, if_pos (by omega)]; simp
  rw [← h1, htk]
  simp [hj', encB]
def rvd (t : List Int) : Array Int := (t.map fun d => 48 + d).toArray.reverse
theorem rev_at {W : World} {g cap : Nat} {cur : Array Value} {t : List Int} (hg : W.heap[g]? = some (.cells cur 5 (0, 0))) (htk : cur.toList.take (t.length * 1) = t.map fun d => Value.int .u8 (48 + d)) (tl : t.length ≤ 39) :
    Calls Tryz.prog 44 #[.slice (some ⟨g, 0, none⟩) t.length cap] W fun e w' => e = .returned (.tuple #[]) ∧ ∃ n, w' = putRow encB (Sort.ahead W n) g 0 (rvd t) := by
  have h := reverse_any g 0 cap _ W (holds_rev hg htk) (by simp; omega)
  rw [show (t.map fun d => 48 + d).toArray.size = t.length by simp] at h
  exact h
theorem conv_rev {W : World} {g cap n : Nat} {cur : Array Value} {t : List Int} (hg : W.heap[g]? = some (.cells cur 5 (0, 0))) (htk : cur.toList.take (t.length * 1) = t.map fun d => Value.int .u8 (48 + d)) :
    (convert 82 9 (.slice (some ⟨g, 0, none⟩) t.length cap)).run Tryz.prog (putRow encB (Sort.ahead W n) g 0 (rvd t)) = .ok (.string ⟨(dbs t).toArray⟩) (putRow encB (Sort.ahead W n) g 0 (rvd t)) := by
  have hH := holds_putRow encB (Sort.ahead W n) g 0 _ (rvd t) (holds_ahead encB W n g 0 _ (holds_rev hg htk)) (by simp [rvd])
  have h := run_convert_bytes_arg (P := Tryz.prog) (w := putRow encB (Sort.ahead W n) g 0 (rvd t)) 82 5 u82 uu5 g 0 t.length cap (t.map fun d => 48 + d).reverse (by simp) (fun i hi => by
    rw [(hH i (by simpa [rvd] using hi)).1]
    simp [encB, hi, rvd]) 9 uu9
  rw [h]
  congr 2
  unfold strOfNums dbs
  congr 2
  rw [← List.map_reverse, List.map_map]
  apply List.map_congr_left
  intro d hd
  rfl
theorem decimal8_any (hi lo : Int) (g0 : 0 ≤ hi) (g1 : hi < 18446744073709551616) (h0 : 0 ≤ lo) (h1 : lo < 18446744073709551616) (N : Nat) (hN : hi * 18446744073709551616 + lo = N) (w : World) :
    Calls Tryz.prog 8 #[.agg #[.int .u64 hi, .int .u64 lo]] w fun e w' => e = .returned (.string ⟨(Lib.decDigits N).toArray⟩) ∧ Below w.heap.size w w' := by
  obtain ⟨i0, hi0, hz0, hz1, hz2⟩ := info_parts (P := Tryz.prog) (e := 5) (z := .int .u8 0) (size := 1) (bytes := 1) (by kernel_rfl)
  have M0 : DM w hi lo [] (.slice none 0 0) (w.alloc (.cells #[.int .u64 hi, .int .u64 lo] 37)) := ⟨below_new w _, heap_alloc_new _ _, World.ownsRow_nil _ _ _ _⟩
  have HN := Lib.hid hN
  have HM := Lib.hid M0
  clear hN M0
  go_enter Tryz.func8, Tryz.ntmps8
  go_wp2
  go_loopg [3] (N + 1) (fun k v wr => ∃ (a b : Int) (m : Nat) (t : List Int), DM w a b t v wr ∧ DI N m t ∧ a * 18446744073709551616 + b = m ∧ 0 ≤ a ∧ a < 18446744073709551616 ∧ 0 ≤ b ∧ b < 18446744073709551616 ∧ t.length ≤ 50 ∧ (t.length = 0 → k = m + 1) ∧ (t.length ≠ 0 → k = m) ∧ m < 10 ^ (39 - t.length) ∧ t.length ≤ 39)
  case atStart => exact ⟨hi, lo, N, [], HM.out, ⟨fun _ => rfl, fun h => absurd rfl h, fun h => absurd rfl h, fun h => absurd rfl h⟩, HN.out, g0, g1, h0, h1, by simp, fun _ => rfl, fun h => absurd rfl h, by have := HN.out; show N < 10 ^ 39; omega, by simp⟩
  case round =>
    obtain ⟨a, b, m, t, H, D, hab, a0, a1, b0, b1, -, kz, kn, mb, tl⟩ := hrel
    obtain ⟨c0, c1, f0, f1⟩ := two_of H.box
    obtain ⟨ao, cv, rfl⟩ := own_slice5 H.own
    obtain ⟨q1, q2, q3, q4⟩ := dm_bounds hab b0 b1 a0
    have hz := H.bel.size
    have hlt := lt_of_block H.box
    by_cases hgo : m ≠ 0 ∨ t = []
    · have D2 := D.step hgo
      have tl2 : t.length ≤ 38 := by
        rcases hgo with h | h
        · rcases Nat.lt_or_ge t.length 39 with h' | h'
          · omega
          · rw [show 39 - t.length = 0 by omega] at mb; omega
        · subst h; simp
      have mb2 : m / 10 < 10 ^ (39 - (t.length + 1)) := by
        rw [show 39 - t.length = (39 - (t.length + 1)) + 1 by omega, Nat.pow_succ] at mb
        omega
      have HO := Lib.hid H.own
      have HD2 := Lib.hid D2
      have H1 := Lib.hid H
      have Q1 := Lib.hid q1
      have hdv := fun W => div_any (a % 10) b (by omega) (by omega) b0 b1 W
      rw [q2] at hdv
      generalize (a % 10 * 18446744073709551616 + b) / 10 = lo' at hdv q3 q4 Q1
      have hdd : (0 : Int) ≤ ((m % 10 : Nat) : Int) ∧ ((m % 10 : Nat) : Int) ≤ 9 := by omega
      generalize hdg : ((m % 10 : Nat) : Int) = dg at hdv hdd HD2
      obtain ⟨d0, d1⟩ := hdd
      clear D D2 q1 q2 H hdg
      have hcase : a > 0 ∨ (a = 0 ∧ b > 0) ∨ (a = 0 ∧ b = 0 ∧ t.length = 0) := by
        rcases hgo with h | h
        · omega
        · subst h; simp; omega
      generalize hn : t.length = n at *
      rcases hcase with hc | ⟨rfl, hc⟩ | ⟨rfl, rfl, rfl⟩
      · go_upto_region 3 with (fail)
        go_quiet (fail)
        go_upto_region 6 with (go_at_call 43; refine (hdv _).mono ?_; rintro e w1 ⟨rfl, n1, rfl⟩)
        have H5 := (H1.out.below (W1 := wr.drewN (nq + n1)) ⟨rfl, rfl, rfl, Nat.le_refl _, fun _ _ => rfl⟩).set (a / 10) lo'
        generalize World.setCell _ ⟨w.heap.size, 1, none⟩ _ = W5 at H5 ⊢
        have HO5 := Lib.hid H5.own
        rw [hn] at HO5
        have hz5 := H5.bel.size
        clear H1 HO c0 c1 f0 f1
        go_wp2_with (at_builtin; refine wpList_append_own _ rfl _ _ 82 rfl (w.heap.size + 1) 5 i0 (.int .u8 0) 1 1 u82 hi0 hz0 hz1 hz2 rfl (by decide) _ _ _ rfl (HO5.out.alloc _) ⟨W5.heap.size, 0, none⟩ 1 1 [Value.int .u8 (48 + dg)] rfl rfl (news_one W5 _ 5) (one_oneI _) (by simp only [maxLen]; omega) (by omega) (by have := lt_of_block H5.box; simp [sz_alloc]; omega) ?_; intro v' w' ho' hg' _)
        go_roundg (m / 10)
        case measure => omega
        case rel => exact ⟨a / 10, lo', m / 10, t ++ [dg], H5.put hn ho' hg', HD2.out, Q1.out, by omega, by omega, q3, q4, by rw [List.length_append, hn]; simp <;> omega, fun e => by simp at e, fun _ => rfl, by rw [List.length_append, hn]; exact mb2, by rw [List.length_append, hn]; simp <;> omega⟩
      · go_upto_region 3 with (fail)
        go_quiet (fail)
        go_upto_region 6 with (go_at_call 43; refine (hdv _).mono ?_; rintro e w1 ⟨rfl, n1, rfl⟩)
        have H5 := (H1.out.below (W1 := wr.drewN (nq + n1)) ⟨rfl, rfl, rfl, Nat.le_refl _, fun _ _ => rfl⟩).set (0) lo'
        generalize World.setCell _ ⟨w.heap.size, 1, none⟩ _ = W5 at H5 ⊢
        have HO5 := Lib.hid H5.own
        rw [hn] at HO5
        have hz5 := H5.bel.size
        clear H1 HO c0 c1 f0 f1
        go_wp2_with (at_builtin; refine wpList_append_own _ rfl _ _ 82 rfl (w.heap.size + 1) 5 i0 (.int .u8 0) 1 1 u82 hi0 hz0 hz1 hz2 rfl (by decide) _ _ _ rfl (HO5.out.alloc _) ⟨W5.heap.size, 0, none⟩ 1 1 [Value.int .u8 (48 + dg)] rfl rfl (news_one W5 _ 5) (one_oneI _) (by simp only [maxLen]; omega) (by omega) (by have := lt_of_block H5.box; simp [sz_alloc]; omega) ?_; intro v' w' ho' hg' _)
        go_roundg (m / 10)
        case measure => omega
        case rel => exact ⟨0, lo', m / 10, t ++ [dg], H5.put hn ho' hg', HD2.out, Q1.out, by omega, by omega, q3, q4, by rw [List.length_append, hn]; simp <;> omega, fun e => by simp at e, fun _ => rfl, by rw [List.length_append, hn]; exact mb2, by rw [List.length_append, hn]; simp <;> omega⟩
      · have hkz := kz rfl
        go_upto_region 3 with (fail)
        go_quiet (fail)
        go_upto_region 6 with (go_at_call 43; refine (hdv _).mono ?_; rintro e w1 ⟨rfl, n1, rfl⟩)
        have H5 := (H1.out.below (W1 := wr.drewN (nq + n1)) ⟨rfl, rfl, rfl, Nat.le_refl _, fun _ _ => rfl⟩).set (0) lo'
        generalize World.setCell _ ⟨w.heap.size, 1, none⟩ _ = W5 at H5 ⊢
        have HO5 := Lib.hid H5.own
        rw [hn] at HO5
        have hz5 := H5.bel.size
        clear H1 HO c0 c1 f0 f1
        go_wp2_with (at_builtin; refine wpList_append_own _ rfl _ _ 82 rfl (w.heap.size + 1) 5 i0 (.int .u8 0) 1 1 u82 hi0 hz0 hz1 hz2 rfl (by decide) _ _ _ rfl (HO5.out.alloc _) ⟨W5.heap.size, 0, none⟩ 1 1 [Value.int .u8 (48 + dg)] rfl rfl (news_one W5 _ 5) (one_oneI _) (by simp only [maxLen]; omega) (by omega) (by have := lt_of_block H5.box; simp [sz_alloc]; omega) ?_; intro v' w' ho' hg' _)
        go_roundg (m / 10)
        case measure => omega
        case rel => exact ⟨0, lo', m / 10, t ++ [dg], H5.put hn ho' hg', HD2.out, Q1.out, by omega, by omega, q3, q4, by rw [List.length_append, hn]; simp <;> omega, fun e => by simp at e, fun _ => rfl, by rw [List.length_append, hn]; exact mb2, by rw [List.length_append, hn]; simp <;> omega⟩
    · have hm0 : m = 0 := by omega
      have ht0 : t ≠ [] := fun e => hgo (.inr e)
      have hd := D.2.1 ht0 hm0
      subst hm0
      have ha0 : a = 0 := by omega
      have hb0 : b = 0 := by omega
      subst ha0 hb0
      rcases H.own.2 with ⟨hv, h0⟩ | ⟨g, cap, cur, hv, hgb, hg, hn, hcm, hcs, htk⟩
      · exact absurd (List.eq_nil_of_length_eq_zero h0) ht0
      · obtain ⟨rfl, rfl⟩ : ao = some ⟨g, 0, none⟩ ∧ cap = cv := by
          injection hv with e1 e2 e3
          exact ⟨e1, e3.symm⟩
        have hrev := fun W (hb : Below wr.heap.size wr W) => rev_at (W := W) (t := t) (cap := cap) (kept_old hb hg) htk tl
        have hcv := fun W (hb : Below wr.heap.size wr W) n => conv_rev (W := W) (t := t) (cap := cap) (n := n) (kept_old hb hg) htk
        have HD2 := Lib.hid hd
        have H1 := Lib.hid H
        have HR := Lib.hid hrev
        have HC := Lib.hid hcv
        have hne : ((t.length : Int) == 0) = false := by simpa using ht0
        clear D hd hgo q1 q2 q3 q4 hrev hcv
        go_upto_region 8 with (go_at_call 44; refine (HR.out _ (Below.refl _ _)).mono ?_; rintro e w1 ⟨rfl, n1, rfl⟩)
        have hcv := HC.out wr (Below.refl _ _) n1
        have hbl : RowKit.Below w.heap.size w (putRow encB (Sort.ahead wr n1) g 0 (rvd t)) :=
          Lib.below_putRow H1.out.bel (by omega)
        generalize putRow encB (Sort.ahead wr n1) g 0 (rvd t) = W1 at hcv hbl ⊢
        go_wp2
        go_ret
        rw [HD2.out]
        exact ⟨rfl, hbl⟩
end Go.Proofs.YtopccnoinngmbaaGreatDoor

/- Doubling a number's digits, the last ahead: plain law. -/
namespace Go.Proofs.YtopccnoinngmbaaGreatDoor

/-- The number of digits, the last ahead. -/
def numL : List Nat → Nat
  | [] => 0
  | d :: r => d + 10 * numL r
theorem numL_append (a b : List Nat) : numL (a ++ b) = numL a + 10 ^ a.length * numL b := by
  induction a with
  | nil => simp [numL]
  | cons d r ih =>
    simp only [List.cons_append, numL, ih, List.length_cons, Nat.pow_succ]
    rw [Nat.mul_add, ← Nat.add_assoc]
    congr 1
    rw [Nat.mul_comm (10 ^ r.length) 10, Nat.mul_assoc]
theorem numL_lt (t : List Nat) (h : ∀ d ∈ t, d < 10) : numL t < 10 ^ t.length := by
  induction t with
  | nil => simp [numL]
  | cons d r ih =>
    have h1 := h d (by simp)
    have h2 := ih fun x hx => h x (by simp [hx])
    simp only [numL, List.length_cons, Nat.pow_succ]
    omega
/-- The digits of m, the last ahead. -/
structure DL (t : List Nat) (m : Nat) : Prop where
  dig : ∀ d ∈ t, d < 10
  num : numL t = m
  pos : t ≠ []
  top : t.length = 1 ∨ 10 ^ (t.length - 1) ≤ m
theorem DL.dec : ∀ {t : List Nat} {m : Nat}, DL t m → Lib.decDigits m = t.reverse.map fun d => UInt8.ofNat (48 + d)
  | [], m, h => absurd rfl h.pos
  | [d], m, h => by
    have h1 := h.dig d (by simp)
    have h2 := h.num
    simp only [numL] at h2
    rw [← h2, Lib.decDigits_one (by omega)]
    simp
  | d :: e :: r, m, h => by
    have h1 := h.dig d (by simp)
    have h2 := h.num
    have h3 : 10 ^ (r.length + 1) ≤ m := by
      rcases h.top with h | h
      · simp at h
      · simpa using h
    rw [numL] at h2
    rw [Nat.pow_succ] at h3
    have hp : 1 ≤ 10 ^ r.length := Nat.one_le_pow _ _ (by omega)
    have hm : m / 10 = numL (e :: r) := by omega
    have hd : m % 10 = d := by omega
    have ih : DL (e :: r) (m / 10) := ⟨fun x hx => h.dig x (by simp only [List.mem_cons] at hx ⊢; exact .inr hx), hm.symm, by simp, .inr (by
      simp only [List.length_cons, Nat.add_sub_cancel]; omega)⟩
    rw [Lib.decDigits, dif_neg (by omega), ih.dec, hd]
    simp
/-- Inside the doubling of t: u is done, b is carried. -/
structure DU (t : List Nat) (b0 : Nat) (u : List Nat) (b : Nat) : Prop where
  dig : ∀ d ∈ u, d < 10
  le : b ≤ 1
  len : u.length ≤ t.length
  num : numL u + 10 ^ u.length * b = 2 * numL (t.take u.length) + b0
theorem DU.start (t : List Nat) {b0 : Nat} (h : b0 ≤ 1) : DU t b0 [] b0 := ⟨by simp, h, by simp, by simp [numL]⟩
theorem DU.step {t : List Nat} {b0 b d : Nat} {u : List Nat} (h : DU t b0 u b) (hd : t[u.length]? = some d) (h10 : d < 10) : DU t b0 (u ++ [(2 * d + b) % 10]) ((2 * d + b) / 10) := by
  obtain ⟨h1, h2, h3, h4⟩ := h
  have hlt : u.length < t.length := (List.getElem?_eq_some_iff.1 hd).1
  refine ⟨fun x hx => ?_, by omega, by simp; omega, ?_⟩
  · rcases List.mem_append.1 hx with h | h
    · exact h1 x h
    · simp at h; omega
  · rw [List.length_append, List.length_singleton, List.take_add_one, hd, numL_append, numL_append]
    have hl : (t.take u.length).length = u.length := by rw [List.length_take]; omega
    rw [hl]
    simp only [numL, Option.toList, Nat.mul_zero, Nat.add_zero]
    have e1 : 10 ^ (u.length + 1) * ((2 * d + b) / 10) = 10 ^ u.length * (10 * ((2 * d + b) / 10)) := by rw [Nat.pow_succ, Nat.mul_assoc]
    rw [e1, Nat.add_assoc, ← Nat.mul_add, show (2 * d + b) % 10 + 10 * ((2 * d + b) / 10) = b + 2 * d by omega, Nat.mul_add, ← Nat.add_assoc, h4, Nat.mul_add, show 10 ^ u.length * (2 * d) = 2 * (10 ^ u.length * d) by rw [Nat.mul_left_comm]]
    omega
theorem DU.last {t u : List Nat} {b0 b m : Nat} (h : DU t b0 u b) (hl : u.length = t.length) (ht : DL t m) : (b = 0 → DL u (2 * m + b0)) ∧ (b ≠ 0 → DL (u ++ [b]) (2 * m + b0)) := by
  obtain ⟨h1, h2, h3, h4⟩ := h
  rw [hl, List.take_length, ht.num] at h4
  have hpos : 0 < t.length := List.length_pos_iff.2 ht.pos
  refine ⟨fun hb => ?_, fun hb => ?_⟩
  · subst hb
    refine ⟨h1, by omega, fun e => by subst e; simp at hl; omega, ?_⟩
    rw [hl]
    rcases ht.top with h | h
    · exact .inl h
    · exact .inr (by omega)
  · obtain rfl : b = 1 := by omega
    refine ⟨fun x hx => ?_, ?_, by simp, .inr ?_⟩
    · rcases List.mem_append.1 hx with h | h
      · exact h1 x h
      · simp at h; omega
    · rw [numL_append, hl]; simp only [numL]; omega
    · simp only [List.length_append, List.length_singleton, Nat.add_sub_cancel, hl]; omega
theorem bit_and (x : Int) (h0 : 0 ≤ x) (h1 : x < 18446744073709551616) : bits .and .u64 x 1 = x % 2 := by
  obtain ⟨a, rfl⟩ := Int.eq_ofNat_of_zero_le h0
  have h := bits_and_u64_nat a 1 (by omega) (by omega)
  rw [Nat.and_one_is_mod] at h
  exact_mod_cast h
theorem half_bit (N j : Nat) : N / 2 ^ j = 2 * (N / 2 ^ (j + 1)) + N / 2 ^ j % 2 := by
  rw [Nat.pow_succ, ← Nat.div_div_eq_div_mul]; omega
theorem bit_hi {hi lo : Int} {N j : Nat} (g0 : 0 ≤ hi) (g1 : hi < 18446744073709551616) (h0 : 0 ≤ lo) (h1 : lo < 18446744073709551616) (hN : hi * 18446744073709551616 + lo = N) (hj : 64 ≤ j) :
    bits .and .u64 (hi / 2 ^ (j - 64)) 1 = ((N / 2 ^ j % 2 : Nat) : Int) := by
  obtain ⟨a, rfl⟩ := Int.eq_ofNat_of_zero_le g0
  have ha : a = N / 2 ^ 64 := by omega
  have h2 : (a : Int) / 2 ^ (j - 64) = ((a / 2 ^ (j - 64) : Nat) : Int) := by push_cast; rfl
  have h3 : a / 2 ^ (j - 64) ≤ a := Nat.div_le_self _ _
  rw [h2, bit_and _ (Int.natCast_nonneg _) (by generalize a / 2 ^ (j - 64) = x at h3 ⊢; omega)]
  have h4 : N / 2 ^ j = a / 2 ^ (j - 64) := by
    rw [ha, Nat.div_div_eq_div_mul, ← Nat.pow_add]
    congr 2; omega
  rw [h4]; omega
theorem bit_lo {hi lo : Int} {N j : Nat} (g0 : 0 ≤ hi) (g1 : hi < 18446744073709551616) (h0 : 0 ≤ lo) (h1 : lo < 18446744073709551616) (hN : hi * 18446744073709551616 + lo = N) (hj : j < 64) :
    bits .and .u64 (lo / 2 ^ j) 1 = ((N / 2 ^ j % 2 : Nat) : Int) := by
  obtain ⟨a, rfl⟩ := Int.eq_ofNat_of_zero_le g0
  obtain ⟨b, rfl⟩ := Int.eq_ofNat_of_zero_le h0
  have h2 : (b : Int) / 2 ^ j = ((b / 2 ^ j : Nat) : Int) := by push_cast; rfl
  have h3 : b / 2 ^ j ≤ b := Nat.div_le_self _ _
  rw [h2, bit_and _ (Int.natCast_nonneg _) (by generalize b / 2 ^ j = x at h3 ⊢; omega)]
  have h4 : N / 2 ^ j = a * (2 * 2 ^ (63 - j)) + b / 2 ^ j := by
    have h5 : 18446744073709551616 = 2 * 2 ^ (63 - j) * 2 ^ j := by
      rw [Nat.mul_assoc, ← Nat.pow_add, show 63 - j + j = 63 by omega]
    have h6 : N = a * (2 * 2 ^ (63 - j)) * 2 ^ j + b := by
      rw [Nat.mul_assoc, ← h5]; omega
    rw [h6, Nat.add_comm, Nat.add_mul_div_right _ _ (Nat.two_pow_pos j), Nat.add_comm]
  have h7 : a * (2 * 2 ^ (63 - j)) = 2 * (a * 2 ^ (63 - j)) := by rw [Nat.mul_left_comm]
  omega
end Go.Proofs.YtopccnoinngmbaaGreatDoor
