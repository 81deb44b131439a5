/-
  ask.Text: the closures word and span.
  Spans of ports, places of words, as the reference reads them.
-/
import Derived.Test.YtopccnoinngmbaaGreatDoorA12
import Derived.Test.YtopccnoinngmbaaGreatDoorA05
import Derived.Test.YtopccnoinngmbaaGreatDoorA07

/- ask.Text: the closures word and span. -/
namespace Go.Proofs.YtopccnoinngmbaaGreatDoor
open Go.RowKit
set_option maxRecDepth 100000
set_option maxHeartbeats 4000000
set_option linter.unusedVariables false
set_option linter.unusedSimpArgs false

/-- The word at a place, from 1 on; none: nothing. -/
def wordL (l : List (List UInt8)) (k : Int) : ByteArray := if 1 ≤ k ∧ k ≤ l.length then (strs l).getD (k - 1).toNat ⟨#[]⟩ else ⟨#[]⟩
theorem word36 (t : ByteArray) (l : List (List UInt8)) (hl : Lib.fields t.data.toList = l) (hn : l.length = 7) (ha : ∀ b ∈ t.data.toList, b.toNat < 128) (ht : t.size ≤ 16777216) (k : Int) (h0 : 0 ≤ k) (h1 : k < 256) {w : World} (E : Env w) :
    Calls Tryz.prog 36 #[.string t, .int .u8 k] w fun e w' => e = .returned (.string (wordL l k)) ∧ Below w.heap.size w w' := by
  have hf := fields_as t l 7 hl hn ha ht E
  by_cases k0 : k < 1
  · have e0 : wordL l k = ⟨#[]⟩ := if_neg (by omega)
    have kz : k = 0 := by omega
    subst kz
    rw [e0]
    clear hl hn ha e0
    go_enter Tryz.func36, Tryz.ntmps36
    go_wp2_with (go_at_call 37; refine hf.mono ?_; rintro e w1 ⟨rfl, rfl⟩)
    go_ret
    exact ⟨rfl, below_new w _⟩
  · by_cases k7 : 7 < k
    · have e0 : wordL l k = ⟨#[]⟩ := if_neg (by omega)
      rw [e0]
      clear hl hn ha e0
      have d0 : decide (k < 1) = false := decide_eq_false k0
      have d1 : decide (7 < k) = true := decide_eq_true k7
      go_enter Tryz.func36, Tryz.ntmps36
      go_wp2_with (go_at_call 37; refine hf.mono ?_; rintro e w1 ⟨rfl, rfl⟩)
      go_ret
      exact ⟨rfl, below_new w _⟩
    · have e0 : wordL l k = (strs l).getD (k - 1).toNat ⟨#[]⟩ := if_pos (by omega)
      obtain ⟨j, rfl⟩ : ∃ j : Nat, k = j + 1 := ⟨(k - 1).toNat, by omega⟩
      have hj : j < (strs l).length := by simp [strs, hn]; omega
      have e1 : wordL l (j + 1) = (strs l)[j] := by
        rw [e0, show ((j : Int) + 1 - 1).toNat = j by omega]; simp [hj]
      have hk : (w.alloc (.cells ((strs l).map Value.string).toArray 9)).cell? ⟨w.heap.size, j, none⟩ = some (.string (strs l)[j]) := by
        rw [cell_at (heap_alloc_new w _)]; simp [hj]
      rw [e1]
      generalize (strs l)[j] = x at hk
      generalize ((strs l).map Value.string).toArray = A at hk hf
      clear hl hn ha e0 e1 hj
      have d0 : decide ((j : Int) + 1 < 1) = false := decide_eq_false k0
      have d1 : decide (7 < (j : Int) + 1) = false := decide_eq_false k7
      have d2 : IntKind.u8.wrap ((j : Int) + 1 - 1) = j := by rw [show (j : Int) + 1 - 1 = j by omega]; exact wraps_u8 _ (by omega) (by omega)
      have hj7 : j < 7 := by omega
      go_enter Tryz.func36, Tryz.ntmps36
      go_wp2_with (go_at_call 37; refine hf.mono ?_; rintro e w1 ⟨rfl, rfl⟩)
      go_ret
      exact ⟨rfl, below_new w _⟩
theorem word_kind (k : Int) (h0 : 0 ≤ k) (h1 : k < 256) {w : World} (E : Env w) : Calls Tryz.prog 36 #[.string kindsT, .int .u8 k] w fun e w' => e = .returned (.string (wordL kindsL k)) ∧ Below w.heap.size w w' :=
  word36 kindsT kindsL fields_kinds rfl ascii_kinds (by decide) k h0 h1 E
theorem word_end (k : Int) (h0 : 0 ≤ k) (h1 : k < 256) {w : World} (E : Env w) : Calls Tryz.prog 36 #[.string endsT, .int .u8 k] w fun e w' => e = .returned (.string (wordL endsL k)) ∧ Below w.heap.size w w' :=
  word36 endsT endsL fields_ends rfl ascii_ends (by decide) k h0 h1 E
/-- A span's text. -/
def textS (a b : Int) : List UInt8 := Lib.itoa a ++ 45 :: Lib.itoa b
theorem span38 (a b : Int) (h0 : 0 ≤ a) (h1 : a < 4294967296) (b0 : 0 ≤ b) (b1 : b < 4294967296) {w : World} (E : Env w) :
    Calls Tryz.prog 38 #[.agg #[.int .u32 a, .int .u32 b]] w fun e w' => e = .returned (.string ⟨(textS a b).toArray⟩) ∧ Below w.heap.size w w' := by
  have EW : Env (w.alloc (.cells #[.int .u32 a, .int .u32 b] 27)) := E.next (below_new w _)
  go_enter Tryz.func38, Tryz.ntmps38
  go_wp2
  have l1 := itoa_len (n := a) (by omega) (by omega)
  have l2 := itoa_len (n := b) (by omega) (by omega)
  have l3 : ¬ 9223372036854775807 < (Lib.itoa a).length + 1 := by omega
  have l4 : ¬ 9223372036854775807 < (Lib.itoa a).length + 1 + (Lib.itoa b).length := by omega
  have a64 : IntKind.i64.wrap a = a := by rw [IntKind.wrap_i64]; omega
  have b64 : IntKind.i64.wrap b = b := by rw [IntKind.wrap_i64]; omega
  have s2 : Below (w.alloc (.cells #[.int .u32 a, .int .u32 b] 27)).heap.size (w.alloc (.cells #[.int .u32 a, .int .u32 b] 27)) (w.alloc (.cells #[.int .u32 a, .int .u32 b] 27)).drew := (Below.refl _ _).drew
  have s0 := (two_of (kept_new s2)).1
  have s1 := (two_of (kept_new s2)).2.1
  go_region_held3 (fun w' => w'.cell? ⟨w.heap.size, 0, none⟩ = some (.int .u32 a) ∧ w'.cell? ⟨w.heap.size, 1, none⟩ = some (.int .u32 b) ∧ Below (w.alloc (.cells #[.int .u32 a, .int .u32 b] 27)).heap.size (w.alloc (.cells #[.int .u32 a, .int .u32 b] 27)) w')
    (first | exact ⟨s0, s1, s2⟩ | (go_split_ands; (try dsimp only); (repeat' apply And.intro); all_goals (have hq : Below (w.alloc (.cells #[.int .u32 a, .int .u32 b] 27)).heap.size (w.alloc (.cells #[.int .u32 a, .int .u32 b] 27)) _ := below_seq (by assumption) hb1; first | exact (two_of (kept_new hq)).1 | exact (two_of (kept_new hq)).2.1 | exact hq)) | go_keep)
    (first | (go_at_call 39; (with_reducible refine (itoa_any a (by omega) (by omega) (EW.next (by first | exact s2 | (go_split_ands; assumption)))).mono ?_); rintro e w1 ⟨rfl, hb1⟩) | (go_at_call 39; (with_reducible refine (itoa_any b (by omega) (by omega) (EW.next (by first | exact s2 | (go_split_ands; assumption)))).mono ?_); rintro e w1 ⟨rfl, hb1⟩))
  go_wp2
  go_ret
  go_split_ands
  exact ⟨ret_str (by simp [textS]), below_seq (below_new w _) (by assumption)⟩
end Go.Proofs.YtopccnoinngmbaaGreatDoor

/- Spans of ports, places of words, as the reference reads them. -/
namespace Go.Proofs.YtopccnoinngmbaaGreatDoor
open Go.RowKit
set_option maxRecDepth 100000
set_option maxHeartbeats 16000000
set_option linter.unusedVariables false
set_option linter.unusedSimpArgs false

theorem kinds28_any (w : World) : Calls Tryz.prog 28 #[] w fun e w' => e = .returned (.slice (some ⟨w.heap.size, 0, none⟩) 7 7) ∧ w' = w.alloc (.cells ((strs kindsL).map Value.string).toArray 9) := by
  have hx : (((strs kindsL).map Value.string).toArray : Array Value) = #[.string ⟨#[114, 101, 97, 99, 104]⟩, .string ⟨#[97, 108, 119, 97, 121, 115]⟩, .string ⟨#[108, 111, 111, 112]⟩, .string ⟨#[116, 114, 97, 99, 101]⟩, .string ⟨#[114, 111, 117, 116, 101, 115]⟩, .string ⟨#[107, 110, 111, 119, 115]⟩, .string ⟨#[111, 119, 110, 101, 114]⟩] := rfl
  rw [hx]
  clear hx
  go_enter Tryz.func28, Tryz.ntmps28
  go_wp2
  go_ret
  exact ⟨rfl, rfl⟩
theorem ends29_any (w : World) : Calls Tryz.prog 29 #[] w fun e w' => e = .returned (.slice (some ⟨w.heap.size, 0, none⟩) 7 7) ∧ w' = w.alloc (.cells ((strs endsL).map Value.string).toArray 9) := by
  have hx : (((strs endsL).map Value.string).toArray : Array Value) = #[.string ⟨#[97, 99, 99, 101, 112, 116, 101, 100]⟩, .string ⟨#[100, 101, 110, 105, 101, 100, 45, 105, 110]⟩, .string ⟨#[100, 101, 110, 105, 101, 100, 45, 111, 117, 116]⟩, .string ⟨#[110, 111, 45, 114, 111, 117, 116, 101]⟩, .string ⟨#[110, 111, 119, 104, 101, 114, 101]⟩, .string ⟨#[100, 101, 108, 105, 118, 101, 114, 101, 100]⟩, .string ⟨#[108, 111, 115, 116]⟩] := rfl
  rw [hx]
  clear hx
  go_enter Tryz.func29, Tryz.ntmps29
  go_wp2
  go_ret
  exact ⟨rfl, rfl⟩
theorem idx_hit {zs : List ByteArray} {k : Nat} {x : ByteArray} (hk : zs[k]? = some x) (hne : ∀ j, j < k → zs[j]? ≠ some x) : Lib.idxOfS zs x = k := by
  have hlt : k < zs.length := by
    rcases Nat.lt_or_ge k zs.length with h | h
    · exact h
    · rw [List.getElem?_eq_none h] at hk; cases hk
  have := Lib.idxOfS_hit zs zs.length k x hlt (Nat.le_refl _) (by simp [List.getD_eq_getElem?_getD, hk]) (fun j hj e => by
    apply hne j hj
    rw [List.getD_eq_getElem?_getD, List.getElem?_eq_getElem (by omega), Option.getD_some] at e
    rw [List.getElem?_eq_getElem (by omega), e])
  rwa [List.take_length] at this
theorem idx_miss {zs : List ByteArray} {x : ByteArray} (hne : ∀ j, j < zs.length → zs[j]? ≠ some x) : Lib.idxOfS zs x = -1 := by
  have := Lib.idxOfS_miss zs zs.length x (fun j hj e => by
    apply hne j hj
    rw [List.getD_eq_getElem?_getD, List.getElem?_eq_getElem hj, Option.getD_some] at e
    rw [List.getElem?_eq_getElem hj, e])
  rwa [List.take_length] at this
theorem at_any {A : Option Addr} {ws : List ByteArray} {n c : Nat} (hn : ws.length = n) (h7 : n ≤ 200) (s : ByteArray) (w : World) (hss : SS w A ws) :
    Calls Tryz.prog 27 #[.slice A n c, .string s] w fun e w' => e = .returned (.int .u8 (Lib.idxOfS ws s + 1)) ∧ w' = w := by
  obtain ⟨r, hR⟩ : ∃ r, Lib.idxOfS ws s + 1 = r := ⟨_, rfl⟩
  rw [hR]
  have HR := Lib.hid hR
  have HS := Lib.hid hss
  have HN := Lib.hid hn
  clear hR hss hn
  go_enter Tryz.func27, Tryz.ntmps27
  go_wp2
  go_loop [5] (fun i => ∃ k : Nat, i = .int .i64 k ∧ k ≤ n ∧ ∀ j, j < k → ws[j]? ≠ some s) (fun i => n - (intOf i).toNat)
  case atStart => exact ⟨0, rfl, Nat.zero_le _, fun j hj => by omega⟩
  case round =>
    obtain ⟨k, rfl, hk, hne⟩ := hrel
    have HE := Lib.hid hne
    clear hne
    by_cases hlt : k < n
    · obtain ⟨x, hx⟩ : ∃ x, ws[k]? = some x := ⟨ws[k]'(by rw [HN.out]; exact hlt), by simp⟩
      obtain ⟨b, o, rfl, hcell⟩ := HS.out.cell hx
      by_cases hxs : x = s
      · subst hxs
        have hr := HR.out
        rw [idx_hit hx HE.out] at hr
        have HF : Hid ((k : Int) + 1 = r) := Lib.hid hr
        have ht := toList_same x
        clear hx hr
        go_wp2
        go_ret
        exact ⟨ret_int HF.out, rfl⟩
      · have HM : Hid (∀ j, j < k + 1 → ws[j]? ≠ some s) := Lib.hid (fun j hj e => by
          by_cases hjk : j = k
          · subst hjk; rw [hx] at e; exact hxs (Option.some.inj e)
          · exact HE.out j (by omega) e)
        have ht := toList_ne hxs
        clear hx hxs
        go_wp2
        go_round
        case rel => exact ⟨k + 1, by go_num, by omega, HM.out⟩
        case measure => simp [intOf]; omega
    · obtain rfl : k = n := by omega
      have hr := HR.out
      rw [idx_miss (fun j hj => HE.out j (by have := HN.out; omega))] at hr
      have HF : Hid ((0 : Int) = r) := Lib.hid (by omega)
      clear hr
      go_wp2
      go_ret
      exact ⟨ret_int HF.out, rfl⟩
/-- The reference's span: the numbers, whether it is one. -/
def rPv (s : ByteArray) : Int × Int := if (cutA 45 s).2.2 then portV s else (0, 0)
def rPo (s : ByteArray) : Bool := (cutA 45 s).2.2 && (decide (0 ≤ (num (cutA 45 s).1 65535).getD (-1)) && decide ((num (cutA 45 s).1 65535).getD (-1) ≤ (num (cutA 45 s).2.1 65535).getD (-1)))
theorem getV_b (s : ByteArray) (most : Int) (hm : 0 ≤ most) : -1 ≤ (num s most).getD (-1) ∧ (num s most).getD (-1) ≤ most := by
  cases h : num s most with
  | none => simp only [Option.getD_none]; omega
  | some v => obtain ⟨h0, h1⟩ := num_bounds h; simp only [Option.getD_some]; omega
theorem getD_max (o : Option Int) (h : ∀ v, o = some v → 0 ≤ v) : o.getD 0 = max (o.getD (-1)) 0 := by
  cases o with
  | none => rfl
  | some v => have := h v rfl; simp only [Option.getD_some]; omega
theorem ports61_any (s : ByteArray) (hs : s.size ≤ 16777216) (w : World) :
    Calls Tryz.prog 61 #[.string s] w fun e w' => e = .returned (.tuple #[.agg #[.int .u32 (rPv s).1, .int .u32 (rPv s).2], .bool (rPo s)]) ∧ Below w.heap.size w w' := by
  obtain ⟨c0, c1, f0, f1⟩ := two_of (heap_alloc_new w (.cells #[.int .u32 0, .int .u32 0] 27))
  have hW := below_new w (.cells #[.int .u32 0, .int .u32 0] 27)
  obtain ⟨P, hP⟩ : ∃ P, rPv s = P := ⟨_, rfl⟩
  obtain ⟨O, hO⟩ : ∃ O, rPo s = O := ⟨_, rfl⟩
  rw [hP, hO]
  have HP := Lib.hid hP
  have HO := Lib.hid hO
  clear hP hO
  go_enter Tryz.func61, Tryz.ntmps61
  go_wp2
  go_loop [4] (fun i => ∃ k : Nat, i = .int .i64 k ∧ k ≤ s.size ∧ 45 ∉ s.data.toList.take k) (fun i => s.size - (intOf i).toNat)
  case atStart => exact ⟨0, rfl, Nat.zero_le _, by simp⟩
  case round =>
    obtain ⟨k, rfl, hk, hn⟩ := hrel
    have HN := Lib.hid hn
    clear hn
    by_cases hlt : k < s.size
    · by_cases hb : s[k] = 45
      · have hb1 : ((s[k].toNat : Int) == 45) = true := by rw [hb]; rfl
        have hC := cutA_hit hlt hb HN.out
        have hs1 := ext_size s 0 k hk
        have hs2 := ext_size s (k + 1) s.size (Nat.le_refl _)
        obtain ⟨a, ha⟩ : ∃ a, (num (s.extract 0 k) 65535).getD (-1) = a := ⟨_, rfl⟩
        obtain ⟨b, hbb⟩ : ∃ b, (num (s.extract (k + 1) s.size) 65535).getD (-1) = b := ⟨_, rfl⟩
        have ab := getV_b (s.extract 0 k) 65535 (by decide)
        have bb := getV_b (s.extract (k + 1) s.size) 65535 (by decide)
        rw [ha] at ab
        rw [hbb] at bb
        obtain ⟨a0, a1⟩ := ab
        obtain ⟨b0, b1⟩ := bb
        have hp : P = (max a 0, max b 0) := by
          rw [← HP.out, rPv, hC, if_pos rfl, portV, hC]
          rw [getD_max _ (fun v h => (num_bounds h).1), getD_max _ (fun v h => (num_bounds h).1), ha, hbb]
        have ho1 : O = (decide (0 ≤ a) && decide (a ≤ b)) := by rw [← HO.out, rPo, hC, ha, hbb]; rfl
        have HA := Lib.hid ha
        have HB := Lib.hid hbb
        clear hC ha hbb hb
        subst hp
        have m1 : 0 ≤ max a 0 := by omega
        have m2 : max a 0 ≤ 65535 := by omega
        have m3 : 0 ≤ max b 0 := by omega
        have m4 : max b 0 ≤ 65535 := by omega
        by_cases hna : a < 0
        · have g3 : ¬ (a ≥ 0) := by omega
          have ho : O = false := by rw [ho1]; simp; omega
          clear ho1
          subst ho
          go_wp2_with (first | (go_at_call 31; (with_reducible refine (read_as HA.out (by decide) (by omega) _).mono ?_); rintro e w1 ⟨rfl, rfl⟩) | (go_at_call 31; (with_reducible refine (read_as HB.out (by decide) (by omega) _).mono ?_); rintro e w1 ⟨rfl, rfl⟩))
          exact bodyPost_ret (v := .tuple #[.agg #[.int .u32 (max a 0), .int .u32 (max b 0)], .bool false]) (by simp [results, Tryz.results61, go_sem, c0, c1]) rfl ⟨rfl, below_new w _⟩
        · have g3 : a ≥ 0 := by omega
          have ho : O = decide (a ≤ b) := by rw [ho1]; simp; omega
          clear ho1
          subst ho
          go_wp2_with (first | (go_at_call 31; (with_reducible refine (read_as HA.out (by decide) (by omega) _).mono ?_); rintro e w1 ⟨rfl, rfl⟩) | (go_at_call 31; (with_reducible refine (read_as HB.out (by decide) (by omega) _).mono ?_); rintro e w1 ⟨rfl, rfl⟩))
          exact bodyPost_ret (v := .tuple #[.agg #[.int .u32 (max a 0), .int .u32 (max b 0)], .bool (decide (a ≤ b))]) (by simp [results, Tryz.results61, go_sem, c0, c1]) rfl ⟨rfl, below_new w _⟩
      · have hb1 : ((s[k].toNat : Int) == 45) = false := byte_ne (n := 45) (by decide) hb
        have HM := Lib.hid (not_next hlt hb HN.out)
        clear hb
        go_wp2
        go_round
        case rel => exact ⟨k + 1, by go_num, by omega, HM.out⟩
        case measure => simp [intOf]; omega
    · obtain rfl : k = s.size := by omega
      have hC : cutA 45 s = (s, ⟨#[]⟩, false) := by
        have := HN.out
        rw [List.take_of_length_le (by rw [size_list]; exact Nat.le_refl _)] at this
        exact cutA_miss this
      have hp : P = (0, 0) := by rw [← HP.out, rPv, hC]; rfl
      have ho : O = false := by rw [← HO.out, rPo, hC]; rfl
      subst hp ho
      clear hC
      go_wp2
      exact bodyPost_ret (v := .tuple #[.agg #[.int .u32 0, .int .u32 0], .bool false]) (by simp [results, Tryz.results61, go_sem, c0, c1]) rfl ⟨rfl, hW⟩
end Go.Proofs.YtopccnoinngmbaaGreatDoor
