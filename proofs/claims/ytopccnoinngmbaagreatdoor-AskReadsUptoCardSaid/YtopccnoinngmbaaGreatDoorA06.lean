/-
  Numbers read, as the reference does it.
  Words between bytes, and addresses, as the reference reads them.
  Addresses and prefixes, as the reference reads and writes them.
-/
import Derived.Test.YtopccnoinngmbaaGreatDoorA05
import Derived.Laws.AppendOwn

/- Numbers read, as the reference does it. -/
namespace Go.Proofs.YtopccnoinngmbaaGreatDoor
open Go.RowKit
set_option maxRecDepth 100000
set_option maxHeartbeats 16000000
set_option linter.unusedVariables false
set_option linter.unusedSimpArgs false

theorem num_iff {s : ByteArray} {most v : Int} (hm : most < 9223372036854775808) : num s most = some v ↔ 0 ≤ v ∧ v ≤ most ∧ Lib.itoa v = s.data.toList := by
  constructor
  · intro h
    rcases num_cases s most with ⟨x, _, h0, h1, h2, h3⟩ | ⟨h3, _⟩
    · rw [h3] at h; cases h; exact ⟨h0, h1, h2⟩
    · rw [h3] at h; cases h
  · rintro ⟨h0, h1, h2⟩
    obtain ⟨u, rfl⟩ : ∃ u : Nat, v = u := ⟨v.toNat, by omega⟩
    have ha : Lib.atoiAll s.data.toList = .ok (u : Int) := by rw [← h2, itoa_nat]; exact atoi_dec (by omega)
    unfold num
    rw [ha]
    exact if_pos ⟨h0, h1, h2⟩
theorem num_none {s : ByteArray} {most : Int} (hm : most < 9223372036854775808) (h : ∀ v : Nat, (v : Int) ≤ most → Lib.decDigits v ≠ s.data.toList) : num s most = none := by
  cases hn : num s most with
  | none => rfl
  | some v =>
    obtain ⟨h0, h1, h2⟩ := (num_iff hm).1 hn
    obtain ⟨u, rfl⟩ : ∃ u : Nat, v = u := ⟨v.toNat, by omega⟩
    rw [itoa_nat] at h2
    exact absurd h2 (h u h1)
theorem take_next (s : ByteArray) (k : Nat) (h : k < s.size) : s.data.toList.take (k + 1) = s.data.toList.take k ++ [s[k]] := by
  rw [List.take_succ_eq_append_getElem (by simpa using h)]; rfl
/-- Read's loop. -/
def RdI (s : ByteArray) (k n : Nat) : Prop := (s.data.toList.take k).all isD = true ∧ n = val (s.data.toList.take k)
theorem RdI.step {s : ByteArray} {k n : Nat} (h : RdI s k n) (hk : k < s.size) (h1 : 48 ≤ s[k].toNat) (h2 : s[k].toNat ≤ 57) : RdI s (k + 1) (10 * n + (s[k].toNat - 48)) := by
  obtain ⟨ha, hn⟩ := h
  refine ⟨?_, ?_⟩
  · rw [take_next s k hk, List.all_append, ha, List.all_cons, show isD s[k] = true by unfold isD; simp; omega]; rfl
  · rw [take_next s k hk, val_snoc, ← hn]
theorem RdI.lt {s : ByteArray} {k n : Nat} (h : RdI s k n) (hk : k ≤ 12) : n < 1000000000000 := by
  obtain ⟨ha, hn⟩ := h
  have h1 := val_lt _ ha
  have h2 : (s.data.toList.take k).length ≤ 12 := by rw [List.length_take]; omega
  have h3 : 10 ^ (s.data.toList.take k).length ≤ 10 ^ 12 := Nat.pow_le_pow_right (by decide) h2
  rw [hn]; omega
theorem size_list (s : ByteArray) : s.data.toList.length = s.size := Array.length_toList
/-- Read's end. -/
theorem RdI.fin {s : ByteArray} {n : Nat} (h : RdI s s.size n) (h0 : s.size ≠ 0) (hz : s.size ≤ 1 ∨ s.data.toList.head? ≠ some 48) : Lib.decDigits n = s.data.toList ∧ ∀ v, Lib.decDigits v = s.data.toList → v = n := by
  obtain ⟨ha, hn⟩ := h
  rw [List.take_of_length_le (by rw [size_list]; exact Nat.le_refl _)] at ha hn
  have hc : canon s.data.toList := ⟨fun e => h0 (by rw [← size_list, e]; rfl), ha, by rw [size_list]; exact hz⟩
  refine ⟨by rw [hn]; exact dec_val hc, fun v hv => ?_⟩
  have := (dec_all v).2.1
  rw [hv] at this
  rw [hn]; exact this.symm
theorem num_byte {s : ByteArray} {most : Int} (hm : most < 9223372036854775808) {k : Nat} (hk : k < s.size) (h : s[k].toNat < 48 ∨ 57 < s[k].toNat) : num s most = none := by
  refine num_none hm fun v _ hv => ?_
  have h1 := (dec_all v).1
  rw [hv, List.all_eq_true] at h1
  have h2 := isD_nat (h1 s[k] (by
    have : s[k] = s.data.toList[k]'(by rw [size_list]; exact hk) := rfl
    rw [this]; exact List.getElem_mem _))
  omega
theorem num_over {s : ByteArray} {most : Int} (hm : most < 9223372036854775808) {n : Nat} (hu : ∀ v, Lib.decDigits v = s.data.toList → v = n) (h : most < n) : num s most = none :=
  num_none hm fun v hv he => by have := hu v he; omega
theorem num_is {s : ByteArray} {most : Int} (hm : most < 9223372036854775808) {n : Nat} (hd : Lib.decDigits n = s.data.toList) (h : (n : Int) ≤ most) : num s most = some (n : Int) :=
  (num_iff hm).2 ⟨by omega, h, by rw [itoa_nat]; exact hd⟩
theorem num_len {s : ByteArray} {most : Int} (hm : most < 100000) (h : s.size = 0 ∨ 12 < s.size) : num s most = none := by
  refine num_none (by omega) fun v hv he => ?_
  have h1 := dec_short (u := v) (by omega)
  have h2 := dec_ne v
  have h3 : (Lib.decDigits v).length = s.size := by rw [he, size_list]
  rcases h with h | h
  · rw [h] at h3; exact h2 (List.length_eq_zero_iff.1 h3)
  · omega
theorem num_nought {s : ByteArray} {most : Int} (hm : most < 9223372036854775808) (h : 1 < s.size) (h0 : s.data.toList.head? = some 48) : num s most = none := by
  refine num_none hm fun v _ he => ?_
  have h1 := (dec_all v).2.2 (by rw [he]; exact h0)
  subst h1
  rw [Lib.decDigits_one (by decide)] at he
  have := congrArg List.length he
  rw [size_list] at this
  simp at this; omega
theorem head_byte {s : ByteArray} (h : 0 < s.size) : s.data.toList.head? = some s[0] := by
  rw [List.head?_eq_getElem?, List.getElem?_eq_getElem (by rw [size_list]; exact h)]; rfl

theorem read_empty (most : Int) (hm : most < 100000) (w : World) : Calls Tryz.prog 31 #[.string ⟨#[]⟩, .int .i64 most] w fun e w' => e = .returned (.int .i64 ((num ⟨#[]⟩ most).getD (-1))) ∧ w' = w := by
  rw [num_len hm (.inl rfl)]
  go_enter Tryz.func31, Tryz.ntmps31
  go_wp2
  go_ret
  exact ⟨rfl, rfl⟩
theorem nonempty_of {s : ByteArray} (h : 0 < s.size) : s.toList.isEmpty = false := by
  rw [ByteArray.toList_eq]
  cases hl : s.data.toList with
  | nil => have := size_list s; rw [hl] at this; simp at this; omega
  | cons a t => rfl
theorem read_long (s : ByteArray) (most : Int) (hm : most < 100000) (h : 12 < s.size) (hs : s.size ≤ 16777216) (w : World) : Calls Tryz.prog 31 #[.string s, .int .i64 most] w fun e w' => e = .returned (.int .i64 ((num s most).getD (-1))) ∧ w' = w := by
  rw [num_len hm (.inr h)]
  have h0 := nonempty_of (s := s) (by omega)
  have h12 : (s.size : Int) > 12 := by omega
  go_enter Tryz.func31, Tryz.ntmps31
  go_wp2
  go_ret
  exact ⟨rfl, rfl⟩
theorem read_nought (s : ByteArray) (most : Int) (hm : most < 100000) (h1 : 1 < s.size) (h2 : s.size ≤ 12) (hb : s[0]'(by omega) = 48) (w : World) : Calls Tryz.prog 31 #[.string s, .int .i64 most] w fun e w' => e = .returned (.int .i64 ((num s most).getD (-1))) ∧ w' = w := by
  rw [num_nought (by omega) h1 (by rw [head_byte (by omega), hb])]
  have h0 := nonempty_of (s := s) (by omega)
  have hb2 : (s[0].toNat : Int) = 48 := by rw [hb]; rfl
  clear hb
  go_enter Tryz.func31, Tryz.ntmps31
  go_wp2
  go_ret
  exact ⟨rfl, rfl⟩
theorem ret_int {k : IntKind} {a b : Int} (h : a = b) : Ending.returned (Value.int k a) = .returned (.int k b) := by rw [h]
theorem read_loop (s : ByteArray) (most : Int) (hm : most < 100000) (h1 : 0 < s.size) (h2 : s.size ≤ 12) (hb : s.size ≤ 1 ∨ s[0]'(by omega) ≠ 48) (w : World) : Calls Tryz.prog 31 #[.string s, .int .i64 most] w fun e w' => e = .returned (.int .i64 ((num s most).getD (-1))) ∧ w' = w := by
  obtain ⟨r, hR⟩ : ∃ r, (num s most).getD (-1) = r := ⟨_, rfl⟩
  rw [hR]
  have HR := Lib.hid hR
  clear hR
  have h0 := nonempty_of (s := s) (by omega)
  have hz : Hid (s.size ≤ 1 ∨ s.data.toList.head? ≠ some 48) := Lib.hid (hb.imp id fun h => by rw [head_byte h1]; simpa using h)
  have hcase : (¬ 1 < s.size) ∨ (1 < s.size ∧ ((s[0].toNat : Int) == 48) = false) := by
    by_cases h : 1 < s.size
    · refine .inr ⟨h, ?_⟩
      rcases hb with hb | hb
      · omega
      · rw [Bool.eq_false_iff]; intro e
        apply hb
        have e1 : (s[0].toNat : Int) = 48 := by simpa using e
        exact UInt8.toNat_inj.1 (by show s[0].toNat = 48; omega)
    · exact .inl h
  clear hb
  rcases hcase with hc | ⟨hc, hc2⟩
  all_goals
    go_enter Tryz.func31, Tryz.ntmps31
    go_wp2
    go_loop [5, 6] (fun v i => ∃ k n : Nat, k ≤ s.size ∧ i = .int .i64 k ∧ v = .int .i64 n ∧ RdI s k n) (fun _ i => s.size - (intOf i).toNat)
    case atStart => exact ⟨0, 0, Nat.zero_le _, rfl, rfl, rfl, rfl⟩
    case round =>
      obtain ⟨k, n, hk, rfl, rfl, hr⟩ := hrel
      have hn := hr.lt (by omega)
      by_cases hlt : k < s.size
      · by_cases hd : 48 ≤ s[k].toNat ∧ s[k].toNat ≤ 57
        · obtain ⟨d1, d2⟩ := hd
          have d3 : ¬ ((s[k].toNat : Int) < 48) := by omega
          have d4 : ¬ ((s[k].toNat : Int) > 57) := by omega
          go_wp2
          go_round
          case rel => exact ⟨k + 1, 10 * n + (s[k].toNat - 48), by omega, by go_num, by go_num, hr.step hlt d1 d2⟩
          case measure => simp [intOf]; omega
        · have hnone := num_byte (s := s) (most := most) (by omega) hlt (by omega)
          have HN : Hid (-1 = r) := Lib.hid (by rw [← HR.out, hnone]; rfl)
          clear hnone
          by_cases d3 : s[k].toNat < 48
          · have d4 : ((s[k].toNat : Int) < 48) := by omega
            clear hd
            go_wp2
            go_ret
            exact ⟨ret_int HN.out, rfl⟩
          · have d4 : ¬ ((s[k].toNat : Int) < 48) := by omega
            have d5 : ((s[k].toNat : Int) > 57) := by omega
            clear hd
            go_wp2
            go_ret
            exact ⟨ret_int HN.out, rfl⟩
      · obtain rfl : k = s.size := by omega
        obtain ⟨f1, f2⟩ := hr.fin (by omega) hz.out
        by_cases hmost : most < n
        · have HN : Hid (-1 = r) := Lib.hid (by rw [← HR.out, num_over (by omega) f2 hmost]; rfl)
          clear f1 f2
          have g1 : (n : Int) > most := hmost
          go_wp2
          go_ret
          exact ⟨ret_int HN.out, rfl⟩
        · have HN : Hid ((n : Int) = r) := Lib.hid (by rw [← HR.out, num_is (by omega) f1 (by omega)]; rfl)
          clear f1 f2
          go_wp2
          go_ret
          exact ⟨ret_int HN.out, rfl⟩
theorem read_any (s : ByteArray) (most : Int) (hm : most < 100000) (hs : s.size ≤ 16777216) (w : World) : Calls Tryz.prog 31 #[.string s, .int .i64 most] w fun e w' => e = .returned (.int .i64 ((num s most).getD (-1))) ∧ w' = w := by
  by_cases h0 : s.size = 0
  · have : s = ⟨#[]⟩ := ByteArray.ext (Array.eq_empty_of_size_eq_zero h0)
    subst this
    exact read_empty most hm w
  by_cases h12 : 12 < s.size
  · exact read_long s most hm h12 hs w
  by_cases h1 : 1 < s.size
  · by_cases hb : s[0]'(by omega) = 48
    · exact read_nought s most hm h1 (by omega) hb w
    · exact read_loop s most hm (by omega) (by omega) (.inr hb) w
  · exact read_loop s most hm (by omega) (by omega) (.inl (by omega)) w
end Go.Proofs.YtopccnoinngmbaaGreatDoor

/- Words between bytes, and addresses, as the reference reads them. -/
namespace Go.Proofs.YtopccnoinngmbaaGreatDoor
open Go.RowKit
set_option maxRecDepth 100000
set_option maxHeartbeats 16000000
set_option linter.unusedVariables false
set_option linter.unusedSimpArgs false

theorem sz_alloc (w : World) (o : Obj) : (w.alloc o).heap.size = w.heap.size + 1 := by show (w.heap.push o).size = _; simp
def mkB (l : List UInt8) : ByteArray := ⟨l.toArray⟩
/-- The loop that cuts at a byte: k: where it is, f: where the piece began. -/
structure WI (c : UInt8) (s : ByteArray) (k f : Nat) (done : List ByteArray) : Prop where
  on : k ≤ s.size → f ≤ k ∧ done ++ (splitL c (s.data.toList.drop f)).map mkB = spl c s ∧ c ∉ (s.data.toList.drop f).take (k - f)
  off : k = s.size + 1 → done = spl c s
  len : done.length ≤ k
theorem WI.start (c : UInt8) (s : ByteArray) : WI c s 0 0 [] :=
  ⟨fun _ => ⟨Nat.le_refl _, by rw [spl_eq]; rfl, by simp⟩, fun h => by omega, Nat.le_refl _⟩
theorem ext_mk (s : ByteArray) (f k : Nat) : s.extract f k = mkB ((s.data.toList.drop f).take (k - f)) := by
  apply str_ext; rw [Lib.extract_data]; simp [mkB]
theorem drop_hit {s : ByteArray} {f k : Nat} (hf : f ≤ k) (hk : k < s.size) : s.data.toList.drop f = (s.data.toList.drop f).take (k - f) ++ s[k] :: s.data.toList.drop (k + 1) := by
  conv => lhs; rw [← List.take_append_drop (k - f) (s.data.toList.drop f)]
  congr 1
  rw [List.drop_drop, show f + (k - f) = k by omega, List.drop_eq_getElem_cons (by rw [size_list]; exact hk)]
  rfl
theorem WI.hit {c : UInt8} {s : ByteArray} {k f : Nat} {done : List ByteArray} (h : WI c s k f done) (hk : k < s.size) (hb : s[k] = c) : WI c s (k + 1) (k + 1) (done ++ [s.extract f k]) := by
  obtain ⟨h1, h2, h3⟩ := h.on (by omega)
  refine ⟨fun _ => ⟨Nat.le_refl _, ?_, by simp⟩, fun e => by omega, by have := h.len; simp; omega⟩
  rw [← h2, drop_hit h1 hk, hb, splitL_app _ h3, ext_mk]
  simp
theorem WI.miss {c : UInt8} {s : ByteArray} {k f : Nat} {done : List ByteArray} (h : WI c s k f done) (hk : k < s.size) (hb : s[k] ≠ c) : WI c s (k + 1) f done := by
  obtain ⟨h1, h2, h3⟩ := h.on (by omega)
  refine ⟨fun _ => ⟨by omega, h2, ?_⟩, fun e => by omega, by have := h.len; omega⟩
  have hx : (s.data.toList.drop f).take (k + 1 - f) = (s.data.toList.drop f).take (k - f) ++ [s[k]] := by
    rw [show k + 1 - f = (k - f) + 1 by omega, List.take_succ_eq_append_getElem (by rw [List.length_drop, size_list]; omega), List.getElem_drop]
    have : f + (k - f) = k := by omega
    congr 2
    simp only [this]
    rfl
  rw [hx, List.mem_append]
  rintro (e | e)
  · exact h3 e
  · exact hb (List.mem_singleton.1 e).symm
theorem WI.last {c : UInt8} {s : ByteArray} {f : Nat} {done : List ByteArray} (h : WI c s s.size f done) : WI c s (s.size + 1) (s.size + 1) (done ++ [s.extract f s.size]) := by
  obtain ⟨h1, h2, h3⟩ := h.on (Nat.le_refl _)
  refine ⟨fun e => by omega, fun _ => ?_, by have := h.len; simp; omega⟩
  have hl : (s.data.toList.drop f).take (s.size - f) = s.data.toList.drop f := List.take_of_length_le (by rw [List.length_drop, size_list]; exact Nat.le_refl _)
  rw [hl] at h3
  rw [← h2, splitL_none h3, ext_mk, hl]; rfl
/-- .. with the pieces in memory. -/
structure WR (w : World) (c : UInt8) (s : ByteArray) (v : Value) (k f : Nat) (done : List ByteArray) (wr : World) : Prop where
  wi : WI c s k f done
  own : wr.ownsRow w.heap.size 9 1 v done.length (done.map Value.string)
  bel : Below w.heap.size w wr
theorem own_ss {W : World} {base : Nat} {v : Value} {ws : List ByteArray} (ho : W.ownsRow base 9 1 v ws.length (ws.map Value.string)) :
    ∃ ao c, v = .slice ao ws.length c ∧ ws.length ≤ c ∧ SS W ao ws := by
  rcases ho.2 with ⟨rfl, hn⟩ | ⟨g, cap, cur, rfl, hb, hg, hnc, hcm, hcs, ht⟩
  · have hw : ws = [] := List.length_eq_zero_iff.1 hn
    subst hw
    exact ⟨none, 0, rfl, Nat.le_refl _, .inl rfl⟩
  · refine ⟨_, cap, rfl, hnc, .inr ⟨g, 0, cur, (0, 0), rfl, hg, fun j x hj => ?_⟩⟩
    have h1 : (ws.map Value.string)[j]? = some (.string x) := by simp [hj]
    rw [← ht, List.getElem?_take] at h1
    split at h1
    · simpa using h1
    · cases h1
/-- A row that is owned, one piece more. -/
theorem WR.put {w : World} {c : UInt8} {s : ByteArray} {v v' : Value} {k f k' f' : Nat} {done : List ByteArray} {x : ByteArray} {wr w' : World} {o : Obj} (h : WR w c s v k f done wr) (hw : WI c s k' f' (done ++ [x]))
    (ho : w'.ownsRow w.heap.size 9 1 v' (done.length + 1) (done.map Value.string ++ [Value.string x])) (hg : (wr.alloc o).grownBy w' v.ownBlock) : WR w c s v' k' f' (done ++ [x]) w' := by
  have ho2 : w'.ownsRow w.heap.size 9 1 v' (done ++ [x]).length ((done ++ [x]).map Value.string) := by simpa using ho
  refine ⟨hw, ho2, ?_⟩
  have h1 : Below w.heap.size w (wr.alloc o) := h.bel.alloc h.bel.size _
  exact h1.grown hg (by simp [sz_alloc]; have := h.bel.size; omega) (fun j hj => (h.own.lt j hj).1)
theorem news_one (wr : World) (x : Value) (t : TypeId) : ∀ (j : Nat) (u : Value), [x][j]? = some u → (wr.alloc (.cells #[x] t)).cell? ((⟨wr.heap.size, 0, none⟩ : Addr).add j) = some u := by
  intro j u hu
  match j, hu with
  | 0, hu =>
    have : (⟨wr.heap.size, 0, none⟩ : Addr).add 0 = ⟨wr.heap.size, 0, none⟩ := by unfold Addr.add; split <;> simp_all
    rw [this, cell_at (heap_alloc_new wr _)]
    simpa using hu
  | j + 1, hu => simp at hu
theorem one_one (x : ByteArray) : ∀ u ∈ [Value.string x], u.oneCell' = true := by
  intro u hu
  rw [List.mem_singleton] at hu
  subst hu; rfl
/-- The slice of the words. -/
def RWords (w : World) (ws : List ByteArray) (e : Ending) (w' : World) : Prop := ∃ ao c, e = .returned (.slice ao ws.length c) ∧ ws.length ≤ c ∧ SS w' ao ws ∧ Below w.heap.size w w'
theorem words_any (s : ByteArray) (hs : s.size ≤ 16777216) (w : World) :
    Calls Tryz.prog 26 #[.string s] w (RWords w (spl 32 s)) := by
  obtain ⟨i0, hi, hz0, hz1, hz2⟩ := info_parts (P := Tryz.prog) (e := 9) (z := .string ByteArray.empty) (size := 1) (bytes := 16) (by kernel_rfl)
  go_enter Tryz.func26, Tryz.ntmps26
  go_wp2
  go_loopw [3, 4, 5] (fun v f i wr => ∃ (k g : Nat) (done : List ByteArray), i = .int .i64 k ∧ f = .int .i64 g ∧ k ≤ s.size + 1 ∧ WR w 32 s v k g done wr) (fun _ _ i _ => s.size + 1 - (intOf i).toNat)
  case atStart => exact ⟨0, 0, [], rfl, rfl, by omega, WI.start _ _, World.ownsRow_nil _ _ _ _, Below.refl _ _⟩
  case round =>
    obtain ⟨k, g, done, rfl, rfl, hk, H⟩ := hrel
    have HO := Lib.hid H.own
    have hsz := H.bel.size
    have hdl := H.wi.len
    by_cases h1 : k < s.size
    · obtain ⟨hg, -, -⟩ := H.wi.on (by omega)
      have hne : ((k : Int) == s.size) = false := by rw [beq_eq_false_iff_ne]; omega
      by_cases hb : s[k] = 32
      · have hb1 : ((s[k].toNat : Int) == 32) = true := by rw [hb]; rfl
        have HW := H.wi.hit h1 hb
        clear hb
        go_wp2_with (at_builtin; refine wpList_append_own _ rfl _ _ 51 rfl w.heap.size 9 i0 (.string ByteArray.empty) 1 16 Tryz.underlying51 hi hz0 hz1 hz2 rfl (by decide) _ _ _ rfl (HO.out.alloc _) ⟨wr.heap.size, 0, none⟩ 1 1 [Value.string (s.extract g k)] rfl rfl (news_one wr _ 9) (one_one _) (by simp only [maxLen]; omega) (by omega) (by simp [sz_alloc]; omega) ?_; intro v' w' ho' hg' _)
        go_roundw
        case rel => exact ⟨k + 1, k + 1, _, by go_num, by go_num, by omega, H.put HW ho' hg'⟩
        case measure => simp [intOf]; omega
      · have hb1 : ((s[k].toNat : Int) == 32) = false := by
          rw [beq_eq_false_iff_ne]; intro e; apply hb; exact UInt8.toNat_inj.1 (by show s[k].toNat = 32; omega)
        have HW := H.wi.miss h1 hb
        clear hb
        go_wp2
        go_roundw
        case rel => exact ⟨k + 1, g, done, by go_num, rfl, by omega, HW, H.own, H.bel⟩
        case measure => simp [intOf]; omega
    · by_cases h2 : k = s.size
      · subst h2
        obtain ⟨hg, -, -⟩ := H.wi.on (by omega)
        have HW := H.wi.last
        go_wp2_with (at_builtin; refine wpList_append_own _ rfl _ _ 51 rfl w.heap.size 9 i0 (.string ByteArray.empty) 1 16 Tryz.underlying51 hi hz0 hz1 hz2 rfl (by decide) _ _ _ rfl (HO.out.alloc _) ⟨wr.heap.size, 0, none⟩ 1 1 [Value.string (s.extract g s.size)] rfl rfl (news_one wr _ 9) (one_one _) (by simp only [maxLen]; omega) (by omega) (by simp [sz_alloc]; omega) ?_; intro v' w' ho' hg' _)
        go_roundw
        case rel => exact ⟨s.size + 1, s.size + 1, _, by go_num, by go_num, by omega, H.put HW ho' hg'⟩
        case measure => simp [intOf]
      · obtain rfl : k = s.size + 1 := by omega
        have hd := H.wi.off rfl
        obtain ⟨ao, c, hv, hc, hss⟩ := own_ss H.own
        have hp : RWords w (spl 32 s) (.returned u3) wr := ⟨ao, c, by rw [hv, hd], hd ▸ hc, hd ▸ hss, H.bel⟩
        clear hd hv
        go_wp2
        go_ret
        exact hp
end Go.Proofs.YtopccnoinngmbaaGreatDoor

/- Addresses and prefixes, as the reference reads and writes them. -/
namespace Go.Proofs.YtopccnoinngmbaaGreatDoor
open Go.RowKit
set_option maxRecDepth 100000
set_option maxHeartbeats 16000000
set_option linter.unusedVariables false
set_option linter.unusedSimpArgs false

theorem spl_le (c : UInt8) (s : ByteArray) : (spl c s).length ≤ s.size + 1 := by
  rw [spl_length]
  have := Lib.countB_le ⟨#[c]⟩ (Nat.le_refl 1) s.size s (Nat.le_refl _)
  omega
theorem parse01_any (s : ByteArray) (hs : s.size ≤ 16777216) (w : World) :
    Calls Tryz.prog 34 #[.string s] w fun e w' => AddrPost (pAddr s) e ∧ Below w.heap.size w w' := by
  obtain ⟨i0, hi, hz0, hz1, hz2⟩ := info_parts (P := Tryz.prog) (e := 9) (z := .string ByteArray.empty) (size := 1) (bytes := 16) (by kernel_rfl)
  go_enter Tryz.func34, Tryz.ntmps34
  go_wp2
  go_loopw [4, 5, 6] (fun v f i wr => ∃ (k g : Nat) (done : List ByteArray), i = .int .i64 k ∧ f = .int .i64 g ∧ k ≤ s.size + 1 ∧ WR w 46 s v k g done wr) (fun _ _ i _ => s.size + 1 - (intOf i).toNat)
  case atStart => exact ⟨0, 0, [], rfl, rfl, by omega, WI.start _ _, World.ownsRow_nil _ _ _ _, Below.refl _ _⟩
  case round =>
    obtain ⟨k, g, done, rfl, rfl, hk, H⟩ := hrel
    have HO := Lib.hid H.own
    have hsz := H.bel.size
    have hdl := H.wi.len
    by_cases h1 : k < s.size
    · obtain ⟨hg, -, -⟩ := H.wi.on (by omega)
      have hne : ((k : Int) == s.size) = false := by rw [beq_eq_false_iff_ne]; omega
      by_cases hb : s[k] = 46
      · have hb1 : ((s[k].toNat : Int) == 46) = true := by rw [hb]; rfl
        have HW := H.wi.hit h1 hb
        clear hb
        go_wp2_with (at_builtin; refine wpList_append_own _ rfl _ _ 51 rfl w.heap.size 9 i0 (.string ByteArray.empty) 1 16 Tryz.underlying51 hi hz0 hz1 hz2 rfl (by decide) _ _ _ rfl (HO.out.alloc _) ⟨wr.heap.size, 0, none⟩ 1 1 [Value.string (s.extract g k)] rfl rfl (news_one wr _ 9) (one_one _) (by simp only [maxLen]; omega) (by omega) (by simp [sz_alloc]; omega) ?_; intro v' w' ho' hg' _)
        go_roundw
        case rel => exact ⟨k + 1, k + 1, _, by go_num, by go_num, by omega, H.put HW ho' hg'⟩
        case measure => simp [intOf]; omega
      · have hb1 : ((s[k].toNat : Int) == 46) = false := by
          rw [beq_eq_false_iff_ne]; intro e; apply hb; exact UInt8.toNat_inj.1 (by show s[k].toNat = 46; omega)
        have HW := H.wi.miss h1 hb
        clear hb
        go_wp2
        go_roundw
        case rel => exact ⟨k + 1, g, done, by go_num, rfl, by omega, HW, H.own, H.bel⟩
        case measure => simp [intOf]; omega
    · by_cases h2 : k = s.size
      · subst h2
        obtain ⟨hg, -, -⟩ := H.wi.on (by omega)
        have HW := H.wi.last
        go_wp2_with (at_builtin; refine wpList_append_own _ rfl _ _ 51 rfl w.heap.size 9 i0 (.string ByteArray.empty) 1 16 Tryz.underlying51 hi hz0 hz1 hz2 rfl (by decide) _ _ _ rfl (HO.out.alloc _) ⟨wr.heap.size, 0, none⟩ 1 1 [Value.string (s.extract g s.size)] rfl rfl (news_one wr _ 9) (one_one _) (by simp only [maxLen]; omega) (by omega) (by simp [sz_alloc]; omega) ?_; intro v' w' ho' hg' _)
        go_roundw
        case rel => exact ⟨s.size + 1, s.size + 1, _, by go_num, by go_num, by omega, H.put HW ho' hg'⟩
        case measure => simp [intOf]
      · have hd := H.wi.off (by omega)
        have h3 : s.size < k := by omega
        have h4 : ¬ ((k : Int) ≤ (s.size : Int)) := by omega
        have h5 : decide ((k : Int) ≤ (s.size : Int)) = false := decide_eq_false h4
        subst hd
        obtain ⟨ao, c, rfl, hc, hss⟩ := own_ss H.own
        have hbel := H.bel
        clear H HO
        by_cases h4 : (spl 46 s).length = 4
        · have hp : ∀ e, AddrPost (accOf (spl 46 s) 4) e → AddrPost (pAddr s) e := fun e h => by unfold pAddr; rw [if_pos h4]; exact h
          have hsm : ∀ x ∈ spl 46 s, x.size ≤ 16777216 := fun x hx => Nat.le_trans (spl_small hx) hs
          generalize spl 46 s = ws at h4 hss hp hsm ⊢
          have H4 := Lib.hid h4
          have HS := Lib.hid hss
          have HP := Lib.hid hp
          have HM := Lib.hid hsm
          rw [h4]
          clear h4 hss hp hsm
          go_wp2
          go_loop [7, 8] (fun a i => ∃ (j : Nat) (x : Int), j ≤ 4 ∧ i = .int .i64 j ∧ a = .int .i64 x ∧ accOf ws j = some x) (fun _ i => 4 - (intOf i).toNat)
          case atStart => exact ⟨0, 0, by omega, rfl, rfl, rfl⟩
          case round =>
            obtain ⟨j, x, hj, rfl, rfl, hacc⟩ := hrel
            obtain ⟨ha0, ha1⟩ := accOf_bounds hacc
            by_cases hlt : j < 4
            · obtain ⟨y, hy⟩ : ∃ y, ws[j]? = some y := ⟨ws[j]'(by rw [H4.out]; exact hlt), by simp⟩
              have hys := HM.out y (List.mem_of_getElem? hy)
              obtain ⟨b, o, rfl, hcell⟩ := HS.out.cell hy
              have hget : ws.getD j ⟨#[]⟩ = y := by simp [List.getD_eq_getElem?_getD, hy]
              have ha2 : x < 16777216 := acc_lt hlt ha1
              have HG := Lib.hid hget
              have HA := Lib.hid hacc
              clear hy hget hacc ha1
              cases hn : num y 255 with
              | none =>
                have hpost : AddrPost (pAddr s) (.returned (.tuple #[.int .u32 0, .int .i64 4])) := by
                  refine HP.out _ ?_
                  rw [accOf_none (k := j + 1) (by simp only [accOf, HA.out, HG.out, hn]) 4 (by omega)]; rfl
                have HN := Lib.hid (show (num y 255).getD (-1) = -1 by rw [hn]; rfl)
                clear hn
                go_wp2_with (go_at_call 31; refine (read_any y 255 (by decide) hys _).mono ?_; rw [HN.out]; rintro e w1 ⟨rfl, rfl⟩)
                go_ret2
                exact ⟨hpost, hbel⟩
              | some n =>
                obtain ⟨ln, un⟩ := num_bounds hn
                have HN := Lib.hid (show (num y 255).getD (-1) = n by rw [hn]; rfl)
                have HN2 := Lib.hid hn
                clear hn
                go_wp2_with (go_at_call 31; refine (read_any y 255 (by decide) hys _).mono ?_; rw [HN.out]; rintro e w1 ⟨rfl, rfl⟩)
                go_round
                case rel => exact ⟨j + 1, x * 256 + n, by omega, by go_num, by rw [Int.mul_comm], by simp only [accOf, HA.out, HG.out, HN2.out]⟩
                case measure => simp [intOf]; omega
            · obtain rfl : j = 4 := by omega
              have hpost : AddrPost (pAddr s) (.returned (.tuple #[.int .u32 x, .int .i64 0])) := HP.out _ (by rw [hacc]; rfl)
              have hx4 : x < 4294967296 := ha1
              clear hacc ha1
              go_wp2
              go_ret2
              exact ⟨hpost, hbel⟩
        · have hp : AddrPost (pAddr s) (.returned (.tuple #[.int .u32 0, .int .i64 4])) := by unfold pAddr; rw [if_neg h4]; rfl
          have hl := spl_le 46 s
          generalize (spl 46 s).length = n at h4 hl ⊢
          have h6 : ((n : Int) != 4) = true := by simp; omega
          clear h4
          go_wp2
          go_ret2
          exact ⟨hp, hbel⟩
end Go.Proofs.YtopccnoinngmbaaGreatDoor
