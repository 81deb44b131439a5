/-
  What the calls need of the library's variables; numbers read and written.
  Splitting at a byte, joining by it: plain lists.
-/
import Derived.Test.YtopccnoinngmbaaGreatDoorA01
import Derived.Test.YtopccnoinngmbaaGreatDoorA02
import Derived.Lib.SmallJoins
import Derived.Lib.AtoiErrMem
import Derived.Lib.SplitLaws
import Derived.Lib.Join
import Derived.Lib.ItoaNum

/- What the calls need of the library's variables; numbers read and written. -/
namespace Go.Proofs.YtopccnoinngmbaaGreatDoor
open Go.RowKit Go.Sort
set_option maxRecDepth 100000
set_option linter.unusedVariables false

/-- What the library's variables hold. -/
structure Env (w : World) : Prop where
  pow : Lib.TabIs Tryz.prog w "internal/strconv.uint64pow10" .u64 Lib.pow10Tab
  space : Lib.TabIs Tryz.prog w "strings.asciiSpace" .u8 Lib.asciiSpaceTab
  synt : ∃ tp p, w.cell? ⟨5, 0, none⟩ = some (.iface tp p)
  rang : ∃ tp p, w.cell? ⟨6, 0, none⟩ = some (.iface tp p)
  maxl : ∃ m, w.cell? ⟨4, 0, none⟩ = some (.int .i64 m)
  many : 13 ≤ w.heap.size
theorem gPow : Tryz.prog.globalNamed "internal/strconv.uint64pow10" = some 7 := by kernel_rfl
theorem gSpace : Tryz.prog.globalNamed "strings.asciiSpace" = some 0 := by kernel_rfl
theorem Env.below {w w' : World} (h : Env w) {B : Nat} (hb : Below B w w') (hB : 13 ≤ B) : Env w' := by
  obtain ⟨h1, h2, ⟨a, b, h3⟩, ⟨c, d, h4⟩, ⟨m, h5⟩, h6⟩ := h
  refine ⟨?_, ?_, ⟨a, b, ?_⟩, ⟨c, d, ?_⟩, ⟨m, ?_⟩, Nat.le_trans h6 hb.size⟩
  · unfold Lib.TabIs World.var? at *
    simp only [gPow] at h1 ⊢
    simpa [hb.block 7 (by omega)] using h1
  · unfold Lib.TabIs World.var? at *
    simp only [gSpace] at h2 ⊢
    simpa [hb.block 0 (by omega)] using h2
  · rw [hb.cell (p := ⟨5, 0, none⟩) (show 5 < B by omega)]; exact h3
  · rw [hb.cell (p := ⟨6, 0, none⟩) (show 6 < B by omega)]; exact h4
  · rw [hb.cell (p := ⟨4, 0, none⟩) (show 4 < B by omega)]; exact h5
theorem Env.next {w w' : World} (h : Env w) (hb : Below w.heap.size w w') : Env w' := h.below hb h.many

theorem below_grows (w : World) (k : Nat) (os : Array Obj) : Below w.heap.size w (grow (w.drewN k) os) := 
  ⟨rfl, rfl, rfl, by show w.heap.size ≤ (w.heap ++ os).size; rw [Array.size_append]; omega, fun j hj => by show (w.heap ++ os)[j]? = _; rw [Array.getElem?_append_left hj]⟩

theorem itoa_any (n : Int) (h0 : -9223372036854775808 ≤ n) (h1 : n ≤ 9223372036854775807) {w : World} (E : Env w) :
    Calls Tryz.prog 39 #[.int .i64 n] w fun e w' => e = .returned (.string ⟨(Lib.itoa n).toArray⟩) ∧ Below w.heap.size w w' :=
  (Tryz.strconv_Itoa n h0 h1 w E.pow).mono fun e w' ⟨he, k, os, hw⟩ => ⟨he, hw ▸ below_grows w k os⟩

theorem atoi_ok (s : ByteArray) (hs : s.size ≤ 281474976710656) (v : Int) (h : Lib.atoiAll s.data.toList = .ok v) {w : World} (E : Env w) :
    Calls Tryz.prog 55 #[.string s] w fun e w' => e = .returned (.tuple #[.int .i64 v, .nilIface]) ∧ Below w.heap.size w w' :=
  (Tryz.strconv_Atoi_ok s (by omega) v h w).mono fun e w' ⟨he, hw⟩ => ⟨he, by
    rcases hw with rfl | ⟨t, rfl⟩
    · exact Below.refl _ _
    · exact Lib.bytesWorld_below _ _ _⟩
/-- No number's text: some number beside an error. -/
theorem atoi_bad (s : ByteArray) (hs : s.size ≤ 281474976710656) (h : ∀ v, Lib.atoiAll s.data.toList ≠ .ok v) {w : World} (E : Env w) :
    Calls Tryz.prog 55 #[.string s] w fun e w' => (∃ v t p, e = .returned (.tuple #[.int .i64 v, .iface t p]) ∧ -9223372036854775808 ≤ v ∧ v ≤ 9223372036854775807) ∧ Below w.heap.size w w' := by
  obtain ⟨a, b, h3⟩ := E.synt
  obtain ⟨c, d, h4⟩ := E.rang
  cases he : Lib.atoiAll s.data.toList with
  | ok v => exact absurd he (h v)
  | range =>
    refine (Tryz.strconv_Atoi_range s hs he _ w h4 (.inr ⟨c, d, rfl⟩)).mono ?_
    rintro e w' ⟨N, rfl, -, -, hb⟩
    exact ⟨⟨_, _, _, rfl, (Lib.atoiSat_bounds _).1, (Lib.atoiSat_bounds _).2⟩, hb⟩
  | _ =>
    refine (Tryz.strconv_Atoi_syntax s hs he _ w h3 (.inr ⟨a, b, rfl⟩)).mono ?_
    rintro e w' ⟨N, rfl, -, -, hb⟩
    exact ⟨⟨_, _, _, rfl, by decide, by decide⟩, hb⟩

/-- The number from 0 to most that a text is the one form of. -/
def num (s : ByteArray) (most : Int) : Option Int :=
  match Lib.atoiAll s.data.toList with
  | .ok v => if 0 ≤ v ∧ v ≤ most ∧ Lib.itoa v = s.data.toList then some v else none
  | _ => none

theorem itoa_list {n : Int} {s : ByteArray} (h : Lib.itoa n = s.data.toList) : (Lib.itoa n == s.toList) = true := by
  rw [ByteArray.toList_eq]; simp [h]
theorem itoa_list_ne {n : Int} {s : ByteArray} (h : Lib.itoa n ≠ s.data.toList) : (Lib.itoa n == s.toList) = false := by
  rw [ByteArray.toList_eq]; simp [h]
/-- The cases of 'num'. -/
theorem num_cases (s : ByteArray) (most : Int) :
    (∃ v, Lib.atoiAll s.data.toList = .ok v ∧ 0 ≤ v ∧ v ≤ most ∧ Lib.itoa v = s.data.toList ∧ num s most = some v) ∨
    (num s most = none ∧ ((∀ v, Lib.atoiAll s.data.toList ≠ .ok v) ∨ ∃ v, Lib.atoiAll s.data.toList = .ok v ∧ (v < 0 ∨ 0 ≤ v ∧ most < v ∨ 0 ≤ v ∧ v ≤ most ∧ Lib.itoa v ≠ s.data.toList))) := by
  unfold num
  split
  · rename_i x v ha
    by_cases h0 : 0 ≤ v
    · by_cases h1 : v ≤ most
      · by_cases h2 : Lib.itoa v = s.data.toList
        · exact .inl ⟨v, ha, h0, h1, h2, if_pos ⟨h0, h1, h2⟩⟩
        · exact .inr ⟨if_neg (fun h => h2 h.2.2), .inr ⟨v, ha, .inr (.inr ⟨h0, h1, h2⟩)⟩⟩
      · exact .inr ⟨if_neg (fun h => h1 h.2.1), .inr ⟨v, ha, .inr (.inl ⟨h0, by omega⟩)⟩⟩
    · exact .inr ⟨if_neg (fun h => h0 h.1), .inr ⟨v, ha, .inl (by omega)⟩⟩
  · rename_i h
    exact .inr ⟨rfl, .inl h⟩

/-- Is it the one form of a number from 0 to most? As lex.Number asks. -/
theorem number_any (s : ByteArray) (most : Int) (hs : s.size ≤ 281474976710656) {w : World} (E : Env w) :
    Calls Tryz.prog 21 #[.string s, .int .i64 most] w fun e w' => e = .returned (.tuple #[.int .i64 ((num s most).getD 0), .bool (num s most).isSome]) ∧ Below w.heap.size w w' := by
  have E' : ∀ w', Below w.heap.size w w' → Env w' := fun w' => E.next
  rcases num_cases s most with ⟨v, ha, h0, h1, h2, hn⟩ | ⟨hn, hb | ⟨v, ha, h0 | ⟨h0, h1⟩ | ⟨h0, h1, h2⟩⟩⟩
  · obtain ⟨vb0, vb1⟩ := Lib.atoiAll_bounds ha
    have hst := itoa_list h2
    rw [hn]
    clear hn h2
    go_enter Tryz.func21, Tryz.ntmps21
    go_wp2_with (first | (go_at_call 55; refine (atoi_ok s hs _ ha E).mono ?_; rintro e w1 ⟨rfl, hb1⟩) | (go_at_call 39; refine (itoa_any _ vb0 vb1 (E' _ hb1)).mono ?_; rintro e w2 ⟨rfl, hb2⟩))
    go_ret2
    exact ⟨rfl, hb1.trans (hb2.mono hb1.size)⟩
  · rw [hn]
    clear hn
    go_enter Tryz.func21, Tryz.ntmps21
    go_wp2_with (go_at_call 55; refine (atoi_bad s hs hb E).mono ?_; rintro e w1 ⟨⟨v, t, p, rfl, vb0, vb1⟩, hb1⟩)
    go_ret2
    exact ⟨rfl, hb1⟩
  · obtain ⟨vb0, vb1⟩ := Lib.atoiAll_bounds ha
    rw [hn]
    clear hn
    go_enter Tryz.func21, Tryz.ntmps21
    go_wp2_with (go_at_call 55; refine (atoi_ok s hs _ ha E).mono ?_; rintro e w1 ⟨rfl, hb1⟩)
    go_ret2
    exact ⟨rfl, hb1⟩
  · obtain ⟨vb0, vb1⟩ := Lib.atoiAll_bounds ha
    rw [hn]
    clear hn
    go_enter Tryz.func21, Tryz.ntmps21
    go_wp2_with (go_at_call 55; refine (atoi_ok s hs _ ha E).mono ?_; rintro e w1 ⟨rfl, hb1⟩)
    go_ret2
    exact ⟨rfl, hb1⟩
  · obtain ⟨vb0, vb1⟩ := Lib.atoiAll_bounds ha
    have hst := itoa_list_ne h2
    rw [hn]
    clear hn h2
    go_enter Tryz.func21, Tryz.ntmps21
    go_wp2_with (first | (go_at_call 55; refine (atoi_ok s hs _ ha E).mono ?_; rintro e w1 ⟨rfl, hb1⟩) | (go_at_call 39; refine (itoa_any _ vb0 vb1 (E' _ hb1)).mono ?_; rintro e w2 ⟨rfl, hb2⟩))
    go_ret2
    exact ⟨rfl, hb1.trans (hb2.mono hb1.size)⟩

/-- What addr.number returns: beside 'false' some number stands. -/
def NumPost (o : Option Int) (e : Ending) : Prop :=
  ∃ v : Int, e = .returned (.tuple #[.int .i64 v, .bool o.isSome]) ∧ (∀ n, o = some n → v = n) ∧ -9223372036854775808 ≤ v ∧ v ≤ 9223372036854775807
theorem numPost_some {v : Int} (h0 : -9223372036854775808 ≤ v) (h1 : v ≤ 9223372036854775807) : NumPost (some v) (.returned (.tuple #[.int .i64 v, .bool true])) :=
  ⟨v, rfl, fun _ h => Option.some.inj h, h0, h1⟩
theorem numPost_none {v : Int} (h0 : -9223372036854775808 ≤ v) (h1 : v ≤ 9223372036854775807) : NumPost none (.returned (.tuple #[.int .i64 v, .bool false])) :=
  ⟨v, rfl, (fun _ h => by cases h), h0, h1⟩
/-- As addr.number asks: beside 'false' some number stands. -/
theorem anumber_any (s : ByteArray) (most : Int) (hs : s.size ≤ 281474976710656) {w : World} (E : Env w) :
    Calls Tryz.prog 52 #[.string s, .int .i64 most] w fun e w' => NumPost (num s most) e ∧ Below w.heap.size w w' := by
  have E' : ∀ w', Below w.heap.size w w' → Env w' := fun w' => E.next
  rcases num_cases s most with ⟨v, ha, h0, h1, h2, hn⟩ | ⟨hn, hb | ⟨v, ha, h0 | ⟨h0, h1⟩ | ⟨h0, h1, h2⟩⟩⟩
  · obtain ⟨vb0, vb1⟩ := Lib.atoiAll_bounds ha
    have hst := itoa_list h2
    rw [hn]
    clear hn h2
    go_enter Tryz.func52, Tryz.ntmps52
    go_wp2_with (first | (go_at_call 55; refine (atoi_ok s hs _ ha E).mono ?_; rintro e w1 ⟨rfl, hb1⟩) | (go_at_call 39; refine (itoa_any _ vb0 vb1 (E' _ hb1)).mono ?_; rintro e w2 ⟨rfl, hb2⟩))
    go_ret2
    exact ⟨numPost_some vb0 vb1, hb1.trans (hb2.mono hb1.size)⟩
  · rw [hn]
    clear hn
    go_enter Tryz.func52, Tryz.ntmps52
    go_wp2_with (go_at_call 55; refine (atoi_bad s hs hb E).mono ?_; rintro e w1 ⟨⟨v, t, p, rfl, vb0, vb1⟩, hb1⟩)
    go_ret2
    exact ⟨numPost_none vb0 vb1, hb1⟩
  · obtain ⟨vb0, vb1⟩ := Lib.atoiAll_bounds ha
    rw [hn]
    clear hn
    go_enter Tryz.func52, Tryz.ntmps52
    go_wp2_with (go_at_call 55; refine (atoi_ok s hs _ ha E).mono ?_; rintro e w1 ⟨rfl, hb1⟩)
    go_ret2
    exact ⟨numPost_none vb0 vb1, hb1⟩
  · obtain ⟨vb0, vb1⟩ := Lib.atoiAll_bounds ha
    rw [hn]
    clear hn
    go_enter Tryz.func52, Tryz.ntmps52
    go_wp2_with (go_at_call 55; refine (atoi_ok s hs _ ha E).mono ?_; rintro e w1 ⟨rfl, hb1⟩)
    go_ret2
    exact ⟨numPost_none vb0 vb1, hb1⟩
  · obtain ⟨vb0, vb1⟩ := Lib.atoiAll_bounds ha
    have hst := itoa_list_ne h2
    rw [hn]
    clear hn h2
    go_enter Tryz.func52, Tryz.ntmps52
    go_wp2_with (first | (go_at_call 55; refine (atoi_ok s hs _ ha E).mono ?_; rintro e w1 ⟨rfl, hb1⟩) | (go_at_call 39; refine (itoa_any _ vb0 vb1 (E' _ hb1)).mono ?_; rintro e w2 ⟨rfl, hb2⟩))
    go_ret2
    exact ⟨numPost_none vb0 vb1, hb1.trans (hb2.mono hb1.size)⟩
theorem anumber_some {s : ByteArray} {most n : Int} (h : num s most = some n) (hs : s.size ≤ 281474976710656) {w : World} (E : Env w) :
    Calls Tryz.prog 52 #[.string s, .int .i64 most] w fun e w' => e = .returned (.tuple #[.int .i64 n, .bool true]) ∧ Below w.heap.size w w' := by
  refine (anumber_any s most hs E).mono ?_
  rintro e w' ⟨⟨v, he, hv, -, -⟩, hb⟩
  rw [hv n h, h] at he
  exact ⟨he, hb⟩
theorem anumber_none {s : ByteArray} {most : Int} (h : num s most = none) (hs : s.size ≤ 281474976710656) {w : World} (E : Env w) :
    Calls Tryz.prog 52 #[.string s, .int .i64 most] w fun e w' => (∃ v : Int, e = .returned (.tuple #[.int .i64 v, .bool false]) ∧ -9223372036854775808 ≤ v ∧ v ≤ 9223372036854775807) ∧ Below w.heap.size w w' := by
  refine (anumber_any s most hs E).mono ?_
  rintro e w' ⟨⟨v, he, -, h0, h1⟩, hb⟩
  rw [h] at he
  exact ⟨⟨v, he, h0, h1⟩, hb⟩
end Go.Proofs.YtopccnoinngmbaaGreatDoor

/- Splitting at a byte, joining by it: plain lists. -/
namespace Go.Proofs.YtopccnoinngmbaaGreatDoor
open Go.Lib
set_option linter.unusedVariables false

/-- The pieces between the bytes c. -/
def splitL (c : UInt8) : List UInt8 → List (List UInt8)
  | [] => [[]]
  | b :: l => if b = c then [] :: splitL c l else
    match splitL c l with
    | h :: t => (b :: h) :: t
    | [] => [[b]]

theorem splitL_ne (c : UInt8) : ∀ l, splitL c l ≠ []
  | [] => by simp [splitL]
  | b :: l => by
    unfold splitL
    split
    · simp
    · split <;> simp
theorem splitL_cons_ne {b c : UInt8} (h : b ≠ c) (l : List UInt8) : ∃ x t, splitL c l = x :: t ∧ splitL c (b :: l) = (b :: x) :: t := by
  cases hs : splitL c l with
  | nil => exact absurd hs (splitL_ne c l)
  | cons x t => exact ⟨x, t, rfl, by rw [splitL, if_neg h, hs]⟩
theorem splitL_cons_eq (c : UInt8) (l : List UInt8) : splitL c (c :: l) = [] :: splitL c l := by rw [splitL, if_pos rfl]

theorem index_cons_ne {b c : UInt8} (h : b ≠ c) (l : List UInt8) : index (b :: l) [c] = if index l [c] == -1 then -1 else index l [c] + 1 := by
  rw [index]; simp [List.isPrefixOf, Ne.symm h]
theorem index_cons_eq (c : UInt8) (l : List UInt8) : index (c :: l) [c] = 0 := by rw [index]; simp [List.isPrefixOf]

theorem splitK_eq (c : UInt8) : ∀ l, splitK [c] 0 (count l [c]) l = splitL c l
  | [] => by rw [count_one]; rfl
  | b :: l => by
    have ih := splitK_eq c l
    by_cases h : b = c
    · subst h
      rw [count_cons_eq, splitL_cons_eq, Nat.add_comm, splitK, index_cons_eq]
      simp [ih]
    · obtain ⟨x, t, hx, he⟩ := splitL_cons_ne h l
      rw [count_cons_ne b c l h, he]
      rw [hx] at ih
      cases hk : count l [c] with
      | zero =>
        rw [hk] at ih
        simp only [splitK] at ih ⊢
        simp at ih
        obtain ⟨rfl, rfl⟩ := ih
        rfl
      | succ k =>
        rw [hk] at ih
        rw [splitK] at ih ⊢
        rw [index_cons_ne h]
        by_cases hm : index l [c] = -1
        · simp [hm] at ih ⊢
          obtain ⟨rfl, rfl⟩ := ih
          exact ⟨rfl, rfl⟩
        · have hge := index_ge l [c]
          obtain ⟨j, hj⟩ : ∃ j : Nat, index l [c] = j := ⟨(index l [c]).toNat, by omega⟩
          have hm' : ¬ ((j : Int) = -1) := by omega
          simp [hj, hm'] at ih ⊢
          obtain ⟨rfl, rfl⟩ := ih
          have : ¬ ((j : Int) + 1 = -1) := by omega
          simp [this]

/-- strings.Split at one byte. -/
def spl (c : UInt8) (s : ByteArray) : List ByteArray := splitB ⟨#[c]⟩ 0 (countB s ⟨#[c]⟩) s
theorem spl_data (c : UInt8) (s : ByteArray) : (spl c s).map (·.data.toList) = splitL c s.data.toList := by
  unfold spl
  rw [splitB_data]
  exact splitK_eq c s.data.toList
theorem ofList_data (l : List UInt8) : (⟨l.toArray⟩ : ByteArray).data.toList = l := by simp
theorem ofList_of (s : ByteArray) : (⟨s.data.toList.toArray⟩ : ByteArray) = s := by simp
theorem spl_eq (c : UInt8) (s : ByteArray) : spl c s = (splitL c s.data.toList).map fun l => ⟨l.toArray⟩ := by
  rw [← spl_data, List.map_map]
  conv => lhs; rw [← List.map_id (spl c s)]
  exact List.map_congr_left fun x _ => by simp
theorem spl_length (c : UInt8) (s : ByteArray) : (spl c s).length = countB s ⟨#[c]⟩ + 1 := splitB_all ⟨#[c]⟩ (Nat.le_refl 1) 0 _ s rfl
theorem spl_ne (c : UInt8) (s : ByteArray) : spl c s ≠ [] := by
  intro h; have := spl_length c s; rw [h] at this; simp at this

/-- Pieces joined by the byte again. -/
def joinL (c : UInt8) : List (List UInt8) → List UInt8
  | [] => []
  | [x] => x
  | x :: y :: t => x ++ c :: joinL c (y :: t)
theorem joinL_cons (c : UInt8) (x : List UInt8) {t : List (List UInt8)} (h : t ≠ []) : joinL c (x :: t) = x ++ c :: joinL c t := by
  cases t with
  | nil => exact absurd rfl h
  | cons y t => rfl
theorem joinL_splitL (c : UInt8) : ∀ l, joinL c (splitL c l) = l
  | [] => rfl
  | b :: l => by
    have ih := joinL_splitL c l
    by_cases h : b = c
    · subst h
      rw [splitL_cons_eq, joinL_cons _ _ (splitL_ne b l), ih]; rfl
    · obtain ⟨x, t, hx, he⟩ := splitL_cons_ne h l
      rw [he]
      rw [hx] at ih
      cases t with
      | nil => simp only [joinL] at ih ⊢; rw [ih]
      | cons y t => simp only [joinL, List.cons_append] at ih ⊢; rw [ih]
theorem splitL_none {c : UInt8} : ∀ {l : List UInt8}, c ∉ l → splitL c l = [l]
  | [], _ => rfl
  | b :: l, h => by
    have h1 : b ≠ c := fun e => h (e ▸ List.mem_cons_self)
    have h2 : c ∉ l := fun e => h (List.mem_cons_of_mem _ e)
    rw [splitL, if_neg h1, splitL_none h2]
theorem splitL_app {c : UInt8} : ∀ {x : List UInt8} (l : List UInt8), c ∉ x → splitL c (x ++ c :: l) = x :: splitL c l
  | [], l, _ => splitL_cons_eq c l
  | b :: x, l, h => by
    have h1 : b ≠ c := fun e => h (e ▸ List.mem_cons_self)
    have h2 : c ∉ x := fun e => h (List.mem_cons_of_mem _ e)
    rw [List.cons_append, splitL, if_neg h1, splitL_app l h2]
theorem splitL_joinL {c : UInt8} : ∀ {ws : List (List UInt8)}, ws ≠ [] → (∀ x ∈ ws, c ∉ x) → splitL c (joinL c ws) = ws
  | [], h, _ => absurd rfl h
  | [x], _, h => splitL_none (h x (List.mem_cons_self))
  | x :: y :: t, _, h => by
    rw [joinL_cons c x (by simp), splitL_app _ (h x (List.mem_cons_self)), splitL_joinL (by simp) (fun z hz => h z (List.mem_cons_of_mem _ hz))]
theorem splitL_mem {c : UInt8} : ∀ {l : List UInt8} {x : List UInt8}, x ∈ splitL c l → c ∉ x ∧ x.length ≤ l.length
  | [], x, h => by simp [splitL] at h; subst h; simp
  | b :: l, x, h => by
    by_cases hb : b = c
    · subst hb
      rw [splitL_cons_eq] at h
      rcases List.mem_cons.1 h with rfl | h
      · simp
      · obtain ⟨h1, h2⟩ := splitL_mem h; exact ⟨h1, by simp; omega⟩
    · obtain ⟨y, t, hy, he⟩ := splitL_cons_ne hb l
      rw [he] at h
      rcases List.mem_cons.1 h with rfl | h
      · obtain ⟨h1, h2⟩ := splitL_mem (c := c) (l := l) (x := y) (by rw [hy]; exact List.mem_cons_self)
        exact ⟨fun hc => by rcases List.mem_cons.1 hc with e | e; exact hb e.symm; exact h1 e, by simp; omega⟩
      · obtain ⟨h1, h2⟩ := splitL_mem (c := c) (l := l) (x := x) (by rw [hy]; exact List.mem_cons_of_mem _ h)
        exact ⟨h1, by simp; omega⟩
theorem spl_small {c : UInt8} {s x : ByteArray} (h : x ∈ spl c s) : x.size ≤ s.size := by
  rw [spl_eq, List.mem_map] at h
  obtain ⟨l, hl, rfl⟩ := h
  have := (splitL_mem hl).2
  show l.toArray.size ≤ s.data.size
  rw [List.size_toArray, ← Array.length_toList]
  exact this
theorem join_eq (c : UInt8) : ∀ ws : List (List UInt8), Lib.join ws [c] = joinL c ws
  | [] => rfl
  | [x] => by rw [join_one]; rfl
  | x :: y :: t => by
    have ih := join_eq c (y :: t)
    rw [joinL_cons c x (by simp), ← ih, join_cons, join_cons]
    rfl

/-- strings.Cut at one byte. -/
theorem cut_none {c : UInt8} {l : List UInt8} (h : c ∉ l) : cut l [c] = (l, [], false) := by
  have : index l [c] = -1 := by
    induction l with
    | nil => rfl
    | cons b l ih =>
      have h1 : b ≠ c := fun e => h (e ▸ List.mem_cons_self)
      rw [index_cons_ne h1, ih (fun e => h (List.mem_cons_of_mem _ e))]; rfl
  unfold cut
  rw [this]; rfl
theorem cut_app {c : UInt8} {x : List UInt8} (l : List UInt8) (h : c ∉ x) : cut (x ++ c :: l) [c] = (x, l, true) := by
  have : index (x ++ c :: l) [c] = x.length := by
    induction x with
    | nil => exact index_cons_eq c l
    | cons b x ih =>
      have h1 : b ≠ c := fun e => h (e ▸ List.mem_cons_self)
      rw [List.cons_append, index_cons_ne h1, ih (fun e => h (List.mem_cons_of_mem _ e))]
      have : ¬ ((x.length : Int) = -1) := by omega
      simp [this]
  unfold cut
  rw [this, if_pos (by omega)]
  simp
theorem first_of_mem {c : UInt8} : ∀ {l : List UInt8}, c ∈ l → ∃ x y, l = x ++ c :: y ∧ c ∉ x
  | [], h => by cases h
  | b :: l, h => by
    by_cases hb : b = c
    · exact ⟨[], l, by rw [hb]; rfl, by simp⟩
    · obtain ⟨x, y, rfl, hx⟩ := first_of_mem (l := l) (by rcases List.mem_cons.1 h with e | e; exact absurd e.symm hb; exact e)
      exact ⟨b :: x, y, rfl, fun hc => by rcases List.mem_cons.1 hc with e | e; exact hb e.symm; exact hx e⟩
theorem cut_cases (c : UInt8) (l : List UInt8) : (c ∉ l ∧ cut l [c] = (l, [], false)) ∨ ∃ x y, l = x ++ c :: y ∧ c ∉ x ∧ cut l [c] = (x, y, true) := by
  by_cases h : c ∈ l
  · obtain ⟨x, y, rfl, hx⟩ := first_of_mem h
    exact .inr ⟨x, y, rfl, hx, cut_app y hx⟩
  · exact .inl ⟨h, cut_none h⟩
end Go.Proofs.YtopccnoinngmbaaGreatDoor
