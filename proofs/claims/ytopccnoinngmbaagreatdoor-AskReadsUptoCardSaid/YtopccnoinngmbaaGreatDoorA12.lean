/-
  The closures word and is of ask.Parse.
  ask.place, ask.ports, ask.heads, and the closures name and prefix of ask.Parse.
-/
import Derived.Test.YtopccnoinngmbaaGreatDoorA01
import Derived.Test.YtopccnoinngmbaaGreatDoorA10
import Derived.Test.YtopccnoinngmbaaGreatDoorA04
import Derived.Lib.SlicesS

/- The closures word and is of ask.Parse. -/
namespace Go.Proofs.YtopccnoinngmbaaGreatDoor
open Go.RowKit
set_option maxRecDepth 100000
set_option linter.unusedVariables false

theorem word_some (ra ba b o n c : Nat) (x : ByteArray) (w : World) (hn : 1 ≤ n) (hnc : n ≤ c) (hc63 : c ≤ 9223372036854775807)
    (hc : w.cell? ⟨ra, 0, none⟩ = some (.slice (some ⟨b, o, none⟩) n c)) (hf : w.frozen? ⟨ra, 0, none⟩ = false)
    (hx : w.cell? ⟨b, o, none⟩ = some (.string x)) :
    Calls Tryz.prog 13 #[.pointer (some ⟨ra, 0, none⟩), .pointer (some ⟨ba, 0, none⟩)] w fun e w' => e = .returned (.string x) ∧ ∃ A', w' = w.setCell ⟨ra, 0, none⟩ (.slice A' (n - 1) (c - 1)) ∧ (n ≠ 1 → A' = some ⟨b, o + 1, none⟩) := by
  go_enter Tryz.func13, Tryz.ntmps13
  go_wp2
  · go_ret
    exact ⟨rfl, _, rfl, fun hne => absurd (show n = 1 by omega) hne⟩
  · go_ret
    exact ⟨rfl, _, rfl, fun _ => rfl⟩

theorem word_none (ra ba c : Nat) (A : Option Addr) (w : World)
    (hc : w.cell? ⟨ra, 0, none⟩ = some (.slice A 0 c)) (v : Value) (hb : w.cell? ⟨ba, 0, none⟩ = some v) (hf : w.frozen? ⟨ba, 0, none⟩ = false) :
    Calls Tryz.prog 13 #[.pointer (some ⟨ra, 0, none⟩), .pointer (some ⟨ba, 0, none⟩)] w fun e w' => e = .returned (.string ⟨#[]⟩) ∧ w' = w.setCell ⟨ba, 0, none⟩ (.bool true) := by
  go_enter Tryz.func13, Tryz.ntmps13
  go_wp2
  all_goals go_ret
  all_goals exact ⟨rfl, rfl⟩

theorem word_any {ra ba wv iv : Nat} {rs : List ByteArray} {bad : Bool} {w : World} (h : PSt w ra ba wv iv rs bad) :
    Calls Tryz.prog 13 #[.pointer (some ⟨ra, 0, none⟩), .pointer (some ⟨ba, 0, none⟩)] w fun e w' =>
      e = .returned (.string (rs.headD ⟨#[]⟩)) ∧ PSt w' ra ba wv iv rs.tail (bad || rs.isEmpty) ∧ Fr (RB ra ba) w w' := by
  obtain ⟨A, c, hr, h1, h2, h3⟩ := h.rest
  cases rs with
  | nil =>
    refine (word_none ra ba c A w (cell_of_one hr) _ (cell_of_one h.flag) (free_of_one h.flag)).mono ?_
    rintro e w' ⟨rfl, rfl⟩
    exact ⟨rfl, by simpa using h.setFlag true, Fr.setCell _ _ (.inr rfl) _⟩
  | cons x xs =>
    obtain ⟨b, o, rfl, hx⟩ := h3.cell (j := 0) (x := x) rfl
    simp only [List.length_cons] at hr h1
    refine (word_some ra ba b o (xs.length + 1) c x w (by omega) h1 (by omega) (cell_of_one hr) (free_of_one hr) (by simpa using hx)).mono ?_
    rintro e w' ⟨rfl, A', rfl, hA⟩
    refine ⟨rfl, ?_, Fr.setCell _ _ (.inl rfl) _⟩
    simp only [List.tail_cons, List.isEmpty_cons, Bool.or_false, Nat.add_sub_cancel]
    refine h.setRest (by omega) (by omega) ?_ (fun y hy => h.small y (List.mem_cons_of_mem _ hy))
    cases xs with
    | nil => exact .inl rfl
    | cons y ys => rw [hA (by simp)]; exact h3.tail

theorem is_none (ra c : Nat) (A : Option Addr) (s : ByteArray) (w : World) (hc : w.cell? ⟨ra, 0, none⟩ = some (.slice A 0 c)) :
    Calls Tryz.prog 16 #[.string s, .pointer (some ⟨ra, 0, none⟩)] w fun e w' => e = .returned (.bool false) ∧ w' = w := by
  go_enter Tryz.func16, Tryz.ntmps16
  go_wp2
  all_goals go_ret
  all_goals exact ⟨rfl, rfl⟩
theorem is_other (ra b o n c : Nat) (x s : ByteArray) (w : World) (hn : 1 ≤ n) (hnc : n ≤ c) (hc63 : c ≤ 9223372036854775807)
    (hc : w.cell? ⟨ra, 0, none⟩ = some (.slice (some ⟨b, o, none⟩) n c)) (hx : w.cell? ⟨b, o, none⟩ = some (.string x)) (hne : (x.toList == s.toList) = false) :
    Calls Tryz.prog 16 #[.string s, .pointer (some ⟨ra, 0, none⟩)] w fun e w' => e = .returned (.bool false) ∧ w' = w := by
  go_enter Tryz.func16, Tryz.ntmps16
  go_wp2
  all_goals go_ret
  all_goals exact ⟨rfl, rfl⟩
theorem is_same (ra b o n c : Nat) (s : ByteArray) (w : World) (hn : 1 ≤ n) (hnc : n ≤ c) (hc63 : c ≤ 9223372036854775807)
    (hc : w.cell? ⟨ra, 0, none⟩ = some (.slice (some ⟨b, o, none⟩) n c)) (hf : w.frozen? ⟨ra, 0, none⟩ = false) (hx : w.cell? ⟨b, o, none⟩ = some (.string s)) :
    Calls Tryz.prog 16 #[.string s, .pointer (some ⟨ra, 0, none⟩)] w fun e w' => e = .returned (.bool true) ∧ ∃ A', w' = w.setCell ⟨ra, 0, none⟩ (.slice A' (n - 1) (c - 1)) ∧ (n ≠ 1 → A' = some ⟨b, o + 1, none⟩) := by
  go_enter Tryz.func16, Tryz.ntmps16
  go_wp2
  · go_ret
    exact ⟨rfl, _, rfl, fun hne => absurd (show n = 1 by omega) hne⟩
  · go_ret
    exact ⟨rfl, _, rfl, fun _ => rfl⟩

theorem is_any {ra ba wv iv : Nat} {rs : List ByteArray} {bad : Bool} {w : World} (s : ByteArray) (h : PSt w ra ba wv iv rs bad) :
    Calls Tryz.prog 16 #[.string s, .pointer (some ⟨ra, 0, none⟩)] w fun e w' =>
      e = .returned (.bool (decide (rs.head? = some s))) ∧ PSt w' ra ba wv iv (if rs.head? = some s then rs.tail else rs) bad ∧ Fr (RB ra ba) w w' := by
  obtain ⟨A, c, hr, h1, h2, h3⟩ := h.rest
  cases rs with
  | nil =>
    refine (is_none ra c A s w (cell_of_one hr)).mono ?_
    rintro e w' ⟨rfl, rfl⟩
    exact ⟨by simp, by simpa using h, Fr.refl _ _⟩
  | cons x xs =>
    obtain ⟨b, o, rfl, hx⟩ := h3.cell (j := 0) (x := x) rfl
    simp only [List.length_cons] at hr h1
    by_cases he : x = s
    · subst he
      refine (is_same ra b o (xs.length + 1) c x w (by omega) h1 (by omega) (cell_of_one hr) (free_of_one hr) (by simpa using hx)).mono ?_
      rintro e w' ⟨rfl, A', rfl, hA⟩
      refine ⟨by simp, ?_, Fr.setCell _ _ (.inl rfl) _⟩
      simp only [List.head?_cons, List.tail_cons, if_true, Nat.add_sub_cancel]
      refine h.setRest (by omega) (by omega) ?_ (fun y hy => h.small y (List.mem_cons_of_mem _ hy))
      cases xs with
      | nil => exact .inl rfl
      | cons y ys => rw [hA (by simp)]; exact h3.tail
    · refine (is_other ra b o (xs.length + 1) c x s w (by omega) h1 (by omega) (cell_of_one hr) (by simpa using hx) (toList_ne he)).mono ?_
      rintro e w' ⟨rfl, rfl⟩
      refine ⟨by simp [he], ?_, Fr.refl _ _⟩
      rw [if_neg (by simp [he])]
      exact h
end Go.Proofs.YtopccnoinngmbaaGreatDoor

/- ask.place, ask.ports, ask.heads, and the closures name and prefix of ask.Parse. -/
namespace Go.Proofs.YtopccnoinngmbaaGreatDoor
open Go.RowKit
set_option maxRecDepth 100000
set_option maxHeartbeats 4000000
set_option linter.unusedVariables false
set_option linter.unusedSimpArgs false

theorem index_any (b n c : Nat) (zs : List ByteArray) (x : ByteArray) (w : World) (hn : zs.length = n) (hbig : n ≤ 1099511627776) (hc : w.heap[b]? = some (.cells (zs.map Value.string).toArray 9 (0, 0))) :
    Calls Tryz.prog 54 #[.slice (some ⟨b, 0, none⟩) n c, .string x] w fun e w' => e = .returned (.int .i64 (Lib.idxOfS zs x)) ∧ w' = w := by
  have HN := Lib.hid hn
  have HC := Lib.hid hc
  clear hn hc
  go_enter Tryz.func54, Tryz.ntmps54
  go_wp2
  go_loop [8] (fun i => ∃ k : Nat, k ≤ n ∧ i = .int .i64 k ∧ ∀ j, j < k → zs.getD j ByteArray.empty ≠ x) (fun i => n - (intOf i).toNat)
  case atStart => exact ⟨0, Nat.zero_le _, rfl, fun j hj => absurd hj (Nat.not_lt_zero _)⟩
  case round =>
    obtain ⟨k, hk, rfl, hne⟩ := hrel
    have HE := Lib.hid hne
    clear hne
    by_cases hlt : k < n
    · have hkl : k < zs.length := by rw [HN.out]; exact hlt
      have hcell : w.cell? ⟨b, k, none⟩ = some (.string zs[k]) := by rw [cell_at HC.out]; simp [hkl]
      have hget : zs.getD k ByteArray.empty = zs[k] := by simp [List.getD_eq_getElem?_getD, hkl]
      by_cases he : zs[k] = x
      · have hx : (x.toList == zs[k].toList) = true := by rw [he]; exact toList_same _
        have hres : Lib.idxOfS zs x = (k : Int) := by
          have := Lib.idxOfS_hit zs n k x hlt (by rw [HN.out]; exact Nat.le_refl _) (by rw [hget]; exact he) HE.out
          rwa [List.take_of_length_le (by rw [HN.out]; exact Nat.le_refl _)] at this
        have HR := Lib.hid hres
        clear hres hget he
        go_wp2
        go_ret
        exact ⟨by rw [HR.out]; rfl, rfl⟩
      · have hx : (x.toList == zs[k].toList) = false := toList_ne (fun e => he e.symm)
        have HE2 : Hid (∀ j, j < k + 1 → zs.getD j ByteArray.empty ≠ x) := Lib.hid (fun j hj => by
          by_cases e : j = k
          · subst e; rw [hget]; exact he
          · exact HE.out j (by omega))
        clear hget he
        go_wp2
        go_round
        case rel => exact ⟨k + 1, by omega, by go_num, HE2.out⟩
        case measure => simp [intOf]; omega
    · obtain rfl : k = n := by omega
      have hres : Lib.idxOfS zs x = -1 := by
        have := Lib.idxOfS_miss zs k x HE.out
        rwa [List.take_of_length_le (by rw [HN.out]; exact Nat.le_refl _)] at this
      have HR := Lib.hid hres
      clear hres
      go_wp2
      go_ret
      exact ⟨by rw [HR.out]; rfl, rfl⟩

theorem idxFromS_bounds (x : ByteArray) : ∀ (zs : List ByteArray) (i : Nat), -1 ≤ Lib.idxFromS zs x i ∧ Lib.idxFromS zs x i < i + zs.length + 1
  | [], i => by simp [Lib.idxFromS]; omega
  | z :: zs, i => by
    have := idxFromS_bounds x zs (i + 1)
    unfold Lib.idxFromS
    split
    · simp; omega
    · simp only [List.length_cons]; omega
theorem idxOfS_bounds (zs : List ByteArray) (x : ByteArray) : -1 ≤ Lib.idxOfS zs x ∧ Lib.idxOfS zs x < zs.length + 1 := by
  have := idxFromS_bounds x zs 0
  simpa [Lib.idxOfS] using this
/-- " reach always loop trace routes knows owner " -/
def kindsT : ByteArray := ⟨#[32, 114, 101, 97, 99, 104, 32, 97, 108, 119, 97, 121, 115, 32, 108, 111, 111, 112, 32, 116, 114, 97, 99, 101, 32, 114, 111, 117, 116, 101, 115, 32, 107, 110, 111, 119, 115, 32, 111, 119, 110, 101, 114, 32]⟩
def kindsL : List (List UInt8) := [[114, 101, 97, 99, 104], [97, 108, 119, 97, 121, 115], [108, 111, 111, 112], [116, 114, 97, 99, 101], [114, 111, 117, 116, 101, 115], [107, 110, 111, 119, 115], [111, 119, 110, 101, 114]]
/-- " accepted denied-in denied-out no-route nowhere delivered lost " -/
def endsT : ByteArray := ⟨#[32, 97, 99, 99, 101, 112, 116, 101, 100, 32, 100, 101, 110, 105, 101, 100, 45, 105, 110, 32, 100, 101, 110, 105, 101, 100, 45, 111, 117, 116, 32, 110, 111, 45, 114, 111, 117, 116, 101, 32, 110, 111, 119, 104, 101, 114, 101, 32, 100, 101, 108, 105, 118, 101, 114, 101, 100, 32, 108, 111, 115, 116, 32]⟩
def endsL : List (List UInt8) := [[97, 99, 99, 101, 112, 116, 101, 100], [100, 101, 110, 105, 101, 100, 45, 105, 110], [100, 101, 110, 105, 101, 100, 45, 111, 117, 116], [110, 111, 45, 114, 111, 117, 116, 101], [110, 111, 119, 104, 101, 114, 101], [100, 101, 108, 105, 118, 101, 114, 101, 100], [108, 111, 115, 116]]
theorem fields_kinds : Lib.fields kindsT.data.toList = kindsL := by decide +kernel
theorem fields_ends : Lib.fields endsT.data.toList = endsL := by decide +kernel
theorem ascii_kinds : ∀ b ∈ kindsT.data.toList, b.toNat < 128 := by decide +kernel
theorem ascii_ends : ∀ b ∈ endsT.data.toList, b.toNat < 128 := by decide +kernel
def strs (l : List (List UInt8)) : List ByteArray := l.map fun x => ⟨x.toArray⟩

/-- strings.Fields of a text whose words are l. -/
theorem fields_as (s : ByteArray) (l : List (List UInt8)) (n : Nat) (hl : Lib.fields s.data.toList = l) (hn : l.length = n) (ha : ∀ b ∈ s.data.toList, b.toNat < 128) (hs : s.size ≤ 16777216) {w : World} (E : Env w) :
    Calls Tryz.prog 37 #[.string s] w fun e w' => e = .returned (.slice (some ⟨w.heap.size, 0, none⟩) n n) ∧ w' = w.alloc (.cells ((strs l).map Value.string).toArray 9) := by
  have := Tryz.strings_Fields_laid s w (by omega) (fun j b hj => ha b (List.mem_of_getElem? hj)) E.space
  rw [hl, hn] at this
  have e : (strs l).map Value.string = l.map fun l => Value.string ⟨l.toArray⟩ := by simp [strs]
  rw [e]
  exact this
theorem place_as (t : ByteArray) (l : List (List UInt8)) (n : Nat) (hl : Lib.fields t.data.toList = l) (hn : l.length = n) (hn7 : n ≤ 7) (ha : ∀ b ∈ t.data.toList, b.toNat < 128) (ht : t.size ≤ 16777216) (s : ByteArray) {w : World} (E : Env w) :
    Calls Tryz.prog 19 #[.string t, .string s] w fun e w' => e = .returned (.int .i64 (Lib.idxOfS (strs l) s + 1)) ∧ Below w.heap.size w w' := by
  obtain ⟨b0, b1⟩ := idxOfS_bounds (strs l) s
  have b2 : (strs l).length = n := by simp [strs, hn]
  have hi : ∀ w', w'.heap[w.heap.size]? = some (.cells ((strs l).map Value.string).toArray 9 (0, 0)) → Calls Tryz.prog 54 #[.slice (some ⟨w.heap.size, 0, none⟩) n n, .string s] w' fun e w'' => e = .returned (.int .i64 (Lib.idxOfS (strs l) s)) ∧ w'' = w' := fun w' h =>
    index_any w.heap.size n n (strs l) s w' (by simp [strs, hn]) (by omega) h
  have hf := fields_as t l n hl hn ha ht E
  generalize Lib.idxOfS (strs l) s = ix at b0 b1 hi
  clear hl hn
  go_enter Tryz.func19, Tryz.ntmps19
  go_wp2_with (first | (go_at_call 37; refine hf.mono ?_; rintro e w1 ⟨rfl, rfl⟩) | (go_at_call 54; refine (hi _ (heap_alloc_new _ _)).mono ?_; rintro e w2 ⟨rfl, rfl⟩))
  go_ret
  exact ⟨rfl, below_new w _⟩
/-- The place among words, from 1 on; 0: none of them. -/
def pl (l : List (List UInt8)) (s : ByteArray) : Int := Lib.idxOfS (strs l) s + 1
theorem pl_bounds (l : List (List UInt8)) (s : ByteArray) : 0 ≤ pl l s ∧ pl l s ≤ l.length + 1 := by
  have := idxOfS_bounds (strs l) s
  have h : (strs l).length = l.length := by simp [strs]
  unfold pl; omega
theorem kind_any (s : ByteArray) {w : World} (E : Env w) : Calls Tryz.prog 19 #[.string kindsT, .string s] w fun e w' => e = .returned (.int .i64 (pl kindsL s)) ∧ Below w.heap.size w w' :=
  place_as kindsT kindsL 7 fields_kinds rfl (by omega) ascii_kinds (by decide) s E
theorem ending_any (s : ByteArray) {w : World} (E : Env w) : Calls Tryz.prog 19 #[.string endsT, .string s] w fun e w' => e = .returned (.int .i64 (pl endsL s)) ∧ Below w.heap.size w w' :=
  place_as endsT endsL 7 fields_ends rfl (by omega) ascii_ends (by decide) s E

theorem heads_any (w : World) : Calls Tryz.prog 20 #[] w fun e w' => e = .returned (.agg #[.bool true, .int .i64 (-1), .int .u32 0, .int .i64 0, .int .u32 0, .int .i64 0, .int .u32 0, .int .u32 65535, .int .u32 0, .int .u32 65535]) ∧ Below w.heap.size w w' := by
  go_enter Tryz.func20, Tryz.ntmps20
  go_wp2
  refine bodyPost_ret (v := .agg #[.bool true, .int .i64 (-1), .int .u32 0, .int .i64 0, .int .u32 0, .int .i64 0, .int .u32 0, .int .u32 65535, .int .u32 0, .int .u32 65535]) (by simp [results, Tryz.results20, go_sem]) rfl ⟨rfl, ?_⟩
  (repeat first | assumption | exact Below.refl _ _ | (refine Below.setCell ?_ (by simp <;> omega) _) | (refine Below.alloc ?_ (by simp <;> omega) _))

/-- The span of a text that is not all ports. -/
def pPorts (s : ByteArray) : Option (Int × Int) :=
  if (cutA 45 s).2.2 then
    match num (cutA 45 s).1 65535, num (cutA 45 s).2.1 65535 with
    | some lo, some hi => if lo ≤ hi ∧ hi - lo < 65535 then some (lo, hi) else none
    | _, _ => none
  else none
/-- The two numbers that ask.ports reads, whether they are a span or not. -/
def portV (s : ByteArray) : Int × Int := ((num (cutA 45 s).1 65535).getD 0, (num (cutA 45 s).2.1 65535).getD 0)
/-- lex.Number: the number under a name, whether it is one. -/
theorem number_as {s : ByteArray} {most v : Int} {ok : Bool} (h : (num s most).getD 0 = v) (h' : (num s most).isSome = ok) (hs : s.size ≤ 16777216) {w : World} (E : Env w) :
    Calls Tryz.prog 21 #[.string s, .int .i64 most] w fun e w' => e = .returned (.tuple #[.int .i64 v, .bool ok]) ∧ Below w.heap.size w w' := by
  subst h; subst h'
  exact number_any s most (by omega) E
theorem num_getD (s : ByteArray) (most : Int) (h : 0 ≤ most) : 0 ≤ (num s most).getD 0 ∧ (num s most).getD 0 ≤ most := by
  cases hn : num s most with
  | none => exact ⟨Int.le_refl _, h⟩
  | some v => exact num_bounds hn

theorem ports_any (s : ByteArray) (hs : s.size ≤ 16777216) {w : World} (E : Env w) :
    Calls Tryz.prog 22 #[.string s] w fun e w' => e = .returned (.tuple #[.agg #[.int .u32 (portV s).1, .int .u32 (portV s).2], .bool (pPorts s).isSome]) ∧ Below w.heap.size w w' := by
  unfold portV
  dsimp only
  obtain ⟨hs1, hs2⟩ := cutA_small 45 s
  have EW : Env (w.alloc (.cells #[.int .u32 0, .int .u32 0] 27)) := E.next (below_new w _)
  have E0 : ∀ (w' : World), Below (w.alloc (.cells #[.int .u32 0, .int .u32 0] 27)).heap.size (w.alloc (.cells #[.int .u32 0, .int .u32 0] 27)) w' → Env w' := fun w' h => EW.next h
  have fin : ∀ {w1 : World}, Below (w.alloc (.cells #[.int .u32 0, .int .u32 0] 27)).heap.size (w.alloc (.cells #[.int .u32 0, .int .u32 0] 27)) w1 → ∀ u v, Below w.heap.size w ((w1.setCell ⟨w.heap.size, 0, none⟩ u).setCell ⟨w.heap.size, 1, none⟩ v) := fun h u v =>
    ((below_seq (below_new w _) h).setCell (Nat.le_refl _) _).setCell (Nat.le_refl _) _
  obtain ⟨la, ua⟩ := num_getD (cutA 45 s).1 65535 (by omega)
  obtain ⟨lb, ub⟩ := num_getD (cutA 45 s).2.1 65535 (by omega)
  have hpp : pPorts s = if (cutA 45 s).2.2 then (if (num (cutA 45 s).1 65535).isSome then (if (num (cutA 45 s).2.1 65535).isSome then (if (num (cutA 45 s).1 65535).getD 0 ≤ (num (cutA 45 s).2.1 65535).getD 0 then (if (num (cutA 45 s).2.1 65535).getD 0 - (num (cutA 45 s).1 65535).getD 0 < 65535 then some ((num (cutA 45 s).1 65535).getD 0, (num (cutA 45 s).2.1 65535).getD 0) else none) else none) else none) else none) else none := by
    unfold pPorts
    cases (cutA 45 s).2.2 <;> cases num (cutA 45 s).1 65535 <;> cases num (cutA 45 s).2.1 65535 <;> simp
    split <;> split <;> first | rfl | omega | (split <;> first | rfl | omega) | skip
  generalize hva : (num (cutA 45 s).1 65535).getD 0 = lo at la ua hpp
  generalize hoa : (num (cutA 45 s).1 65535).isSome = oka at hpp
  generalize hvb : (num (cutA 45 s).2.1 65535).getD 0 = hi at lb ub hpp
  generalize hob : (num (cutA 45 s).2.1 65535).isSome = okb at hpp
  have A1 := Lib.hid hva
  have A2 := Lib.hid hoa
  have B1 := Lib.hid hvb
  have B2 := Lib.hid hob
  rw [hpp]
  clear hva hoa hvb hob hpp
  cases hc : (cutA 45 s).2.2 with
  | false =>
    go_enter Tryz.func22, Tryz.ntmps22
    go_wp2_with (first | (go_at_call 51; refine (cut_any 45 s hs EW).mono ?_; rintro e w1 ⟨rfl, n1, rfl⟩) | (go_at_call 21; (with_reducible refine (number_as A1.out A2.out (by omega) (E0 _ (below_drewN (Below.refl _ _) _))).mono ?_); rintro e w2 ⟨rfl, hb2⟩; have hb3 := below_seq (below_drewN (Below.refl _ _) _) hb2; clear hb2) | (go_at_call 21; (with_reducible refine (number_as B1.out B2.out (by omega) (E0 _ hb3)).mono ?_); rintro e w4 ⟨rfl, hb4⟩; have hb5 := below_seq hb3 hb4; clear hb4; obtain ⟨c0, c1, f0, f1⟩ := two_of (kept_new hb5)))
    exact bodyPost_ret (v := .tuple #[.agg #[.int .u32 lo, .int .u32 hi], .bool false]) (by simp [results, Tryz.results22, go_sem, c0, c1] <;> omega) rfl ⟨rfl, fin hb5 _ _⟩
  | true =>
    cases oka with
    | false =>
      go_enter Tryz.func22, Tryz.ntmps22
      go_wp2_with (first | (go_at_call 51; refine (cut_any 45 s hs EW).mono ?_; rintro e w1 ⟨rfl, n1, rfl⟩) | (go_at_call 21; (with_reducible refine (number_as A1.out A2.out (by omega) (E0 _ (below_drewN (Below.refl _ _) _))).mono ?_); rintro e w2 ⟨rfl, hb2⟩; have hb3 := below_seq (below_drewN (Below.refl _ _) _) hb2; clear hb2) | (go_at_call 21; (with_reducible refine (number_as B1.out B2.out (by omega) (E0 _ hb3)).mono ?_); rintro e w4 ⟨rfl, hb4⟩; have hb5 := below_seq hb3 hb4; clear hb4; obtain ⟨c0, c1, f0, f1⟩ := two_of (kept_new hb5)))
      exact bodyPost_ret (v := .tuple #[.agg #[.int .u32 lo, .int .u32 hi], .bool false]) (by simp [results, Tryz.results22, go_sem, c0, c1] <;> omega) rfl ⟨rfl, fin hb5 _ _⟩
    | true =>
      cases okb with
      | false =>
        go_enter Tryz.func22, Tryz.ntmps22
        go_wp2_with (first | (go_at_call 51; refine (cut_any 45 s hs EW).mono ?_; rintro e w1 ⟨rfl, n1, rfl⟩) | (go_at_call 21; (with_reducible refine (number_as A1.out A2.out (by omega) (E0 _ (below_drewN (Below.refl _ _) _))).mono ?_); rintro e w2 ⟨rfl, hb2⟩; have hb3 := below_seq (below_drewN (Below.refl _ _) _) hb2; clear hb2) | (go_at_call 21; (with_reducible refine (number_as B1.out B2.out (by omega) (E0 _ hb3)).mono ?_); rintro e w4 ⟨rfl, hb4⟩; have hb5 := below_seq hb3 hb4; clear hb4; obtain ⟨c0, c1, f0, f1⟩ := two_of (kept_new hb5)))
        exact bodyPost_ret (v := .tuple #[.agg #[.int .u32 lo, .int .u32 hi], .bool false]) (by simp [results, Tryz.results22, go_sem, c0, c1] <;> omega) rfl ⟨rfl, fin hb5 _ _⟩
      | true =>
        by_cases h1 : lo ≤ hi
        · by_cases h2 : hi - lo < 65535
          · rw [if_pos h2]
            rw [if_pos h1]
            go_enter Tryz.func22, Tryz.ntmps22
            go_wp2_with (first | (go_at_call 51; refine (cut_any 45 s hs EW).mono ?_; rintro e w1 ⟨rfl, n1, rfl⟩) | (go_at_call 21; (with_reducible refine (number_as A1.out A2.out (by omega) (E0 _ (below_drewN (Below.refl _ _) _))).mono ?_); rintro e w2 ⟨rfl, hb2⟩; have hb3 := below_seq (below_drewN (Below.refl _ _) _) hb2; clear hb2) | (go_at_call 21; (with_reducible refine (number_as B1.out B2.out (by omega) (E0 _ hb3)).mono ?_); rintro e w4 ⟨rfl, hb4⟩; have hb5 := below_seq hb3 hb4; clear hb4; obtain ⟨c0, c1, f0, f1⟩ := two_of (kept_new hb5)))
            exact bodyPost_ret (v := .tuple #[.agg #[.int .u32 lo, .int .u32 hi], .bool true]) (by simp [results, Tryz.results22, go_sem, c0, c1] <;> omega) rfl ⟨rfl, fin hb5 _ _⟩
          · rw [if_neg h2]
            have h2' : 65535 ≤ hi - lo := by omega
            go_enter Tryz.func22, Tryz.ntmps22
            go_wp2_with (first | (go_at_call 51; refine (cut_any 45 s hs EW).mono ?_; rintro e w1 ⟨rfl, n1, rfl⟩) | (go_at_call 21; (with_reducible refine (number_as A1.out A2.out (by omega) (E0 _ (below_drewN (Below.refl _ _) _))).mono ?_); rintro e w2 ⟨rfl, hb2⟩; have hb3 := below_seq (below_drewN (Below.refl _ _) _) hb2; clear hb2) | (go_at_call 21; (with_reducible refine (number_as B1.out B2.out (by omega) (E0 _ hb3)).mono ?_); rintro e w4 ⟨rfl, hb4⟩; have hb5 := below_seq hb3 hb4; clear hb4; obtain ⟨c0, c1, f0, f1⟩ := two_of (kept_new hb5)))
            exact bodyPost_ret (v := .tuple #[.agg #[.int .u32 lo, .int .u32 hi], .bool false]) (by simp [results, Tryz.results22, go_sem, c0, c1] <;> omega) rfl ⟨rfl, fin hb5 _ _⟩
        · rw [if_neg h1]
          have h1' : hi < lo := by omega
          go_enter Tryz.func22, Tryz.ntmps22
          go_wp2_with (first | (go_at_call 51; refine (cut_any 45 s hs EW).mono ?_; rintro e w1 ⟨rfl, n1, rfl⟩) | (go_at_call 21; (with_reducible refine (number_as A1.out A2.out (by omega) (E0 _ (below_drewN (Below.refl _ _) _))).mono ?_); rintro e w2 ⟨rfl, hb2⟩; have hb3 := below_seq (below_drewN (Below.refl _ _) _) hb2; clear hb2) | (go_at_call 21; (with_reducible refine (number_as B1.out B2.out (by omega) (E0 _ hb3)).mono ?_); rintro e w4 ⟨rfl, hb4⟩; have hb5 := below_seq hb3 hb4; clear hb4; obtain ⟨c0, c1, f0, f1⟩ := two_of (kept_new hb5)))
          exact bodyPost_ret (v := .tuple #[.agg #[.int .u32 lo, .int .u32 hi], .bool false]) (by simp [results, Tryz.results22, go_sem, c0, c1] <;> omega) rfl ⟨rfl, fin hb5 _ _⟩
theorem portV_bounds (s : ByteArray) : 0 ≤ (portV s).1 ∧ (portV s).1 ≤ 65535 ∧ 0 ≤ (portV s).2 ∧ (portV s).2 ≤ 65535 := by
  obtain ⟨la, ua⟩ := num_getD (cutA 45 s).1 65535 (by omega)
  obtain ⟨lb, ub⟩ := num_getD (cutA 45 s).2.1 65535 (by omega)
  exact ⟨la, ua, lb, ub⟩
theorem portV_of {s : ByteArray} {p : Int × Int} (h : pPorts s = some p) : portV s = p := by
  unfold pPorts at h
  unfold portV
  split at h
  · split at h
    · rename_i lo hi h1 h2
      split at h
      · cases h; rw [h1, h2]; rfl
      · cases h
    · cases h
  · cases h
end Go.Proofs.YtopccnoinngmbaaGreatDoor
