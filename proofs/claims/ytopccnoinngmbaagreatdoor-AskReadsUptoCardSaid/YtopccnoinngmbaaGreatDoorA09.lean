/-
  Headers read and written, names, as the reference does it.
-/
import Derived.Test.YtopccnoinngmbaaGreatDoorA07
import Derived.Test.YtopccnoinngmbaaGreatDoorA08
namespace Go.Proofs.YtopccnoinngmbaaGreatDoor
open Go.RowKit
set_option maxRecDepth 100000
set_option maxHeartbeats 16000000
set_option linter.unusedVariables false
set_option linter.unusedSimpArgs false

/-- What stands ahead of the first such byte, and behind it. -/
def cut03 (c : UInt8) (s : ByteArray) : ByteArray × ByteArray × Bool := if (cutA c s).2.2 then cutA c s else (⟨#[]⟩, ⟨#[]⟩, false)
theorem cut03_any (c : UInt8) (n : Int) (hc : n = c.toNat) (s : ByteArray) (hs : s.size ≤ 16777216) (w : World) :
    Calls Tryz.prog 62 #[.string s, .int .u8 n] w fun e w' => e = .returned (.tuple #[.string (cut03 c s).1, .string (cut03 c s).2.1, .bool (cut03 c s).2.2]) ∧ ∃ n, w' = w.drewN n := by
  obtain ⟨P, hP⟩ : ∃ P, cut03 c s = P := ⟨_, rfl⟩
  rw [hP]
  have HP := Lib.hid hP
  have HC := Lib.hid hc
  have n0 : 0 ≤ n := by omega
  have n1 : n < 256 := by have := c.toNat_lt; omega
  clear hP hc
  go_enter Tryz.func62, Tryz.ntmps62
  go_wp2
  go_loop [7] (fun i => ∃ k : Nat, i = .int .i64 k ∧ k ≤ s.size ∧ c ∉ s.data.toList.take k) (fun i => s.size - (intOf i).toNat)
  case atStart => exact ⟨0, rfl, Nat.zero_le _, by simp⟩
  case round =>
    obtain ⟨k, rfl, hk, hn⟩ := hrel
    have HN := Lib.hid hn
    clear hn
    by_cases hlt : k < s.size
    · by_cases hb : s[k] = c
      · have hb1 : ((s[k].toNat : Int) == n) = true := by rw [hb, HC.out]; simp
        have hp : P = (s.extract 0 k, s.extract (k + 1) s.size, true) := by rw [← HP.out, cut03, cutA_hit hlt hb HN.out]; rfl
        clear hb
        have k0 : (0 : Int) ≤ k := by omega
        have k1 : 0 ≤ (k : Int) + 1 := by omega
        have k2 : IntKind.i64.wrap ((k : Int) + 1) = k + 1 := IntWalk.i64_in _ (by omega)
        have k3 : ((k : Int) + 1).toNat = k + 1 := by omega
        subst hp
        go_upto_region 5 with (fail)
        go_quiet (fail)
        go_wp2
        go_ret3
        exact ⟨rfl, _, rfl⟩
      · have hb1 : ((s[k].toNat : Int) == n) = false := by
          rw [beq_eq_false_iff_ne, HC.out]; intro e; apply hb; apply UInt8.toNat_inj.1; omega
        have HM := Lib.hid (not_next hlt hb HN.out)
        clear hb
        go_wp2
        go_round
        case rel => exact ⟨k + 1, by go_num, by omega, HM.out⟩
        case measure => simp [intOf]; omega
    · obtain rfl : k = s.size := by omega
      have hp : P = (⟨#[]⟩, ⟨#[]⟩, false) := by
        rw [← HP.out]
        have := HN.out
        rw [List.take_of_length_le (by rw [size_list]; exact Nat.le_refl _)] at this
        rw [cut03, cutA_miss this]; rfl
      subst hp
      go_wp2
      go_ret3
      exact ⟨rfl, 0, rfl⟩
theorem cut03_as {c : UInt8} {n : Int} (hc : n = c.toNat) {s x y : ByteArray} {ok : Bool} (h : cut03 c s = (x, y, ok)) (hs : s.size ≤ 16777216) (w : World) :
    Calls Tryz.prog 62 #[.string s, .int .u8 n] w fun e w' => e = .returned (.tuple #[.string x, .string y, .bool ok]) ∧ ∃ n, w' = w.drewN n := by
  have := cut03_any c n hc s hs w
  rw [h] at this
  exact this
theorem cut03_small {c : UInt8} {s x y : ByteArray} {ok : Bool} (h : cut03 c s = (x, y, ok)) : x.size ≤ s.size ∧ y.size ≤ s.size := by
  unfold cut03 at h
  split at h
  · have := cutA_small c s
    rw [h] at this; exact this
  · cases h; exact ⟨Nat.zero_le _, Nat.zero_le _⟩
def getV (o : Option Int) : Int := o.getD (-1)
/-- One end. -/
def rEnd (s : ByteArray) : Int × Int := match cut03 58 s with
  | (x, y, true) => (match pAddr x with
    | some a => (a, getV (num y 65535))
    | none => (0, -1))
  | (_, _, false) => (0, -1)
theorem end03_any (s : ByteArray) (hs : s.size ≤ 16777216) (w : World) :
    Calls Tryz.prog 63 #[.string s] w fun e w' => e = .returned (.tuple #[.int .u32 (rEnd s).1, .int .i64 (rEnd s).2]) ∧ Below w.heap.size w w' := by
  obtain ⟨P, hP⟩ : ∃ P, rEnd s = P := ⟨_, rfl⟩
  rw [hP]
  obtain ⟨x, y, ok, hc⟩ : ∃ x y ok, cut03 58 s = (x, y, ok) := ⟨_, _, _, rfl⟩
  obtain ⟨hx, hy⟩ := cut03_small hc
  rw [rEnd, hc] at hP
  have HC := Lib.hid hc
  clear hc
  cases ok with
  | false =>
    subst hP
    cases ha : pAddr x with
    | none =>
      have HA := Lib.hid ha
      clear ha
      go_enter Tryz.func63, Tryz.ntmps63
      go_wp2_with (first | (go_at_call 62; refine (cut03_as (c := 58) rfl HC.out hs _).mono ?_; rintro e w1 ⟨rfl, n1, rfl⟩) | (go_at_call 34; refine (parse01_none HA.out (by omega) _).mono ?_; rintro e w2 ⟨rfl, hb2⟩) | (go_at_call 31; refine (read_any y 65535 (by decide) (by omega) _).mono ?_; rintro e w3 ⟨rfl, rfl⟩))
      go_ret2
      exact ⟨rfl, below_seq (below_drewN (Below.refl _ _) n1) hb2⟩
    | some a =>
      have HA := Lib.hid ha
      clear ha
      go_enter Tryz.func63, Tryz.ntmps63
      go_wp2_with (first | (go_at_call 62; refine (cut03_as (c := 58) rfl HC.out hs _).mono ?_; rintro e w1 ⟨rfl, n1, rfl⟩) | (go_at_call 34; refine (parse01_some HA.out (by omega) _).mono ?_; rintro e w2 ⟨rfl, hb2⟩) | (go_at_call 31; refine (read_any y 65535 (by decide) (by omega) _).mono ?_; rintro e w3 ⟨rfl, rfl⟩))
      go_ret2
      exact ⟨rfl, below_seq (below_drewN (Below.refl _ _) n1) hb2⟩
  | true =>
    cases ha : pAddr x with
    | none =>
      simp only [ha] at hP
      subst hP
      have HA := Lib.hid ha
      clear ha
      go_enter Tryz.func63, Tryz.ntmps63
      go_wp2_with (first | (go_at_call 62; refine (cut03_as (c := 58) rfl HC.out hs _).mono ?_; rintro e w1 ⟨rfl, n1, rfl⟩) | (go_at_call 34; refine (parse01_none HA.out (by omega) _).mono ?_; rintro e w2 ⟨rfl, hb2⟩) | (go_at_call 31; refine (read_any y 65535 (by decide) (by omega) _).mono ?_; rintro e w3 ⟨rfl, rfl⟩))
      go_ret2
      exact ⟨rfl, below_seq (below_drewN (Below.refl _ _) n1) hb2⟩
    | some a =>
      simp only [ha] at hP
      have hP' : (a, getV (num y 65535)) = P := hP
      subst hP'
      clear hP
      have HA := Lib.hid ha
      clear ha
      have hrd : ∀ w, Calls Tryz.prog 31 #[.string y, .int .i64 65535] w fun e w' => e = .returned (.int .i64 (getV (num y 65535))) ∧ w' = w := fun w => read_any y 65535 (by decide) (by omega) w
      generalize getV (num y 65535) = r at hrd ⊢
      go_enter Tryz.func63, Tryz.ntmps63
      go_wp2_with (first | (go_at_call 62; refine (cut03_as (c := 58) rfl HC.out hs _).mono ?_; rintro e w1 ⟨rfl, n1, rfl⟩) | (go_at_call 34; refine (parse01_some HA.out (by omega) _).mono ?_; rintro e w2 ⟨rfl, hb2⟩) | (go_at_call 31; refine (hrd _).mono ?_; rintro e w3 ⟨rfl, rfl⟩))
      go_ret2
      exact ⟨rfl, below_seq (below_drewN (Below.refl _ _) n1) hb2⟩
theorem getV_bounds (s : ByteArray) (most : Int) (hm : 0 ≤ most) : -1 ≤ getV (num s most) ∧ getV (num s most) ≤ most := by
  unfold getV
  cases h : num s most with
  | none => simp only [Option.getD_none]; omega
  | some v => obtain ⟨h0, h1⟩ := num_bounds h; simp only [Option.getD_some]; omega
theorem rEnd_bounds (s : ByteArray) : 0 ≤ (rEnd s).1 ∧ (rEnd s).1 < 4294967296 ∧ -1 ≤ (rEnd s).2 ∧ (rEnd s).2 ≤ 65535 := by
  unfold rEnd
  split
  · rename_i x y _
    split
    · rename_i a ha
      obtain ⟨h0, h1⟩ := pAddr_bounds ha
      obtain ⟨h2, h3⟩ := getV_bounds y 65535 (by decide)
      exact ⟨h0, h1, h2, h3⟩
    · exact ⟨by decide, by decide, by decide, by decide⟩
  · exact ⟨by decide, by decide, by decide, by decide⟩
/-- The header of a text. -/
def rHead (s : ByteArray) : Option Hd := match cut03 32 s with
  | (x, t, true) => (match cut03 32 t with
    | (y, z, true) => if (rEnd x).2 < 0 ∨ (rEnd y).2 < 0 ∨ getV (num z 255) < 0 then none else some ⟨(rEnd x).1, (rEnd y).1, getV (num z 255), (rEnd x).2, (rEnd y).2⟩
    | (_, _, false) => none)
  | (_, _, false) => none
theorem end03_as {s : ByteArray} {a m : Int} (h : rEnd s = (a, m)) (hs : s.size ≤ 16777216) (w : World) :
    Calls Tryz.prog 63 #[.string s] w fun e w' => e = .returned (.tuple #[.int .u32 a, .int .i64 m]) ∧ Below w.heap.size w w' := by
  have := end03_any s hs w
  rw [h] at this; exact this
theorem head03_any (s : ByteArray) (hs : s.size ≤ 16777216) (w : World) :
    Calls Tryz.prog 32 #[.string s] w fun e w' => HeadPost (rHead s) e ∧ Below w.heap.size w w' := by
  obtain ⟨P, hP⟩ : ∃ P, rHead s = P := ⟨_, rfl⟩
  rw [hP]
  obtain ⟨x, t, ok, hc⟩ : ∃ x t ok, cut03 32 s = (x, t, ok) := ⟨_, _, _, rfl⟩
  obtain ⟨y, z, too, hd⟩ : ∃ y z too, cut03 32 t = (y, z, too) := ⟨_, _, _, rfl⟩
  obtain ⟨hx, ht⟩ := cut03_small hc
  obtain ⟨hy, hz⟩ := cut03_small hd
  obtain ⟨c0, c1, c2, c3, c4⟩ := five_of (heap_alloc_new w (.cells #[.int .u32 0, .int .u32 0, .int .u8 0, .int .u16 0, .int .u16 0] 32))
  obtain ⟨f0, f1, f2, f3, f4⟩ := free5_of (heap_alloc_new w (.cells #[.int .u32 0, .int .u32 0, .int .u8 0, .int .u16 0, .int .u16 0] 32))
  have hW := below_new w (.cells #[.int .u32 0, .int .u32 0, .int .u8 0, .int .u16 0, .int .u16 0] 32)
  have bad : HeadPost none (.returned (.tuple #[.agg #[.int .u32 0, .int .u32 0, .int .u8 0, .int .u16 0, .int .u16 0], .int .i64 4])) := rfl
  have H32 : Hid ((32 : Int) = ((32 : UInt8).toNat : Int)) := Lib.hid rfl
  rw [rHead, hc] at hP
  have HC := Lib.hid hc
  have HD := Lib.hid hd
  by_cases hok : ok = true ∧ too = true
  · obtain ⟨rfl, rfl⟩ := hok
    simp only [hd] at hP
    obtain ⟨a, m, hxe⟩ : ∃ a m, rEnd x = (a, m) := ⟨_, _, rfl⟩
    obtain ⟨b, n, hye⟩ : ∃ b n, rEnd y = (b, n) := ⟨_, _, rfl⟩
    have hax := rEnd_bounds x
    have hby := rEnd_bounds y
    have hcz := getV_bounds z 255 (by decide)
    have hrd : ∀ w, Calls Tryz.prog 31 #[.string z, .int .i64 255] w fun e w' => e = .returned (.int .i64 (getV (num z 255))) ∧ w' = w := fun w => read_any z 255 (by decide) (by omega) w
    rw [hxe] at hP hax
    rw [hye] at hP hby
    generalize getV (num z 255) = p at hP hcz hrd
    obtain ⟨a0, a1, m0, m1⟩ := hax
    obtain ⟨b0, b1, q0, q1⟩ := hby
    obtain ⟨p0, p1⟩ := hcz
    dsimp only at a0 a1 m0 m1 b0 b1 q0 q1 hP
    have HX := Lib.hid hxe
    have HY := Lib.hid hye
    clear hc hd hxe hye
    by_cases hm : m < 0
    · rw [if_pos (.inl hm)] at hP
      subst hP
      go_enter Tryz.func32, Tryz.ntmps32
      go_wp2_with (first | (go_at_call 62; (with_reducible refine (cut03_as (c := 32) H32.out HC.out hs _).mono ?_); rintro e w1 ⟨rfl, n1, rfl⟩) | (go_at_call 62; (with_reducible refine (cut03_as (c := 32) H32.out HD.out (by omega) _).mono ?_); rintro e w1 ⟨rfl, n2, rfl⟩) | (go_at_call 63; (with_reducible refine (end03_as HX.out (by omega) _).mono ?_); rintro e w3 ⟨rfl, hb3⟩) | (go_at_call 63; (with_reducible refine (end03_as HY.out (by omega) _).mono ?_); rintro e w4 ⟨rfl, hb4⟩; have hb5 := below_seq (below_drewN (Below.refl _ _) (n1 + n2)) (below_seq hb3 hb4); obtain ⟨c0, c1, c2, c3, c4⟩ := five_of (kept_new hb5); obtain ⟨f0, f1, f2, f3, f4⟩ := free5_of (kept_new hb5); have hb6 := below_seq hW hb5) | (go_at_call 31; refine (hrd _).mono ?_; rintro e w5 ⟨rfl, rfl⟩))
      refine bodyPost_ret (v := .tuple #[.agg #[.int .u32 0, .int .u32 0, .int .u8 0, .int .u16 0, .int .u16 0], .int .i64 4]) (by simp [results, Tryz.results32, go_sem, c0, c1, c2, c3, c4]) rfl ⟨bad, ?_⟩
      (repeat first | exact hb6 | exact below_drewN hW _ | (refine Below.setCell ?_ (by simp <;> omega) _))
    · by_cases hn : n < 0
      · rw [if_pos (.inr (.inl hn))] at hP
        subst hP
        go_enter Tryz.func32, Tryz.ntmps32
        go_wp2_with (first | (go_at_call 62; (with_reducible refine (cut03_as (c := 32) H32.out HC.out hs _).mono ?_); rintro e w1 ⟨rfl, n1, rfl⟩) | (go_at_call 62; (with_reducible refine (cut03_as (c := 32) H32.out HD.out (by omega) _).mono ?_); rintro e w1 ⟨rfl, n2, rfl⟩) | (go_at_call 63; (with_reducible refine (end03_as HX.out (by omega) _).mono ?_); rintro e w3 ⟨rfl, hb3⟩) | (go_at_call 63; (with_reducible refine (end03_as HY.out (by omega) _).mono ?_); rintro e w4 ⟨rfl, hb4⟩; have hb5 := below_seq (below_drewN (Below.refl _ _) (n1 + n2)) (below_seq hb3 hb4); obtain ⟨c0, c1, c2, c3, c4⟩ := five_of (kept_new hb5); obtain ⟨f0, f1, f2, f3, f4⟩ := free5_of (kept_new hb5); have hb6 := below_seq hW hb5) | (go_at_call 31; refine (hrd _).mono ?_; rintro e w5 ⟨rfl, rfl⟩))
        refine bodyPost_ret (v := .tuple #[.agg #[.int .u32 0, .int .u32 0, .int .u8 0, .int .u16 0, .int .u16 0], .int .i64 4]) (by simp [results, Tryz.results32, go_sem, c0, c1, c2, c3, c4]) rfl ⟨bad, ?_⟩
        (repeat first | exact hb6 | exact below_drewN hW _ | (refine Below.setCell ?_ (by simp <;> omega) _))
      · by_cases hp : p < 0
        · rw [if_pos (.inr (.inr hp))] at hP
          subst hP
          go_enter Tryz.func32, Tryz.ntmps32
          go_wp2_with (first | (go_at_call 62; (with_reducible refine (cut03_as (c := 32) H32.out HC.out hs _).mono ?_); rintro e w1 ⟨rfl, n1, rfl⟩) | (go_at_call 62; (with_reducible refine (cut03_as (c := 32) H32.out HD.out (by omega) _).mono ?_); rintro e w1 ⟨rfl, n2, rfl⟩) | (go_at_call 63; (with_reducible refine (end03_as HX.out (by omega) _).mono ?_); rintro e w3 ⟨rfl, hb3⟩) | (go_at_call 63; (with_reducible refine (end03_as HY.out (by omega) _).mono ?_); rintro e w4 ⟨rfl, hb4⟩; have hb5 := below_seq (below_drewN (Below.refl _ _) (n1 + n2)) (below_seq hb3 hb4); obtain ⟨c0, c1, c2, c3, c4⟩ := five_of (kept_new hb5); obtain ⟨f0, f1, f2, f3, f4⟩ := free5_of (kept_new hb5); have hb6 := below_seq hW hb5) | (go_at_call 31; refine (hrd _).mono ?_; rintro e w5 ⟨rfl, rfl⟩))
          refine bodyPost_ret (v := .tuple #[.agg #[.int .u32 0, .int .u32 0, .int .u8 0, .int .u16 0, .int .u16 0], .int .i64 4]) (by simp [results, Tryz.results32, go_sem, c0, c1, c2, c3, c4]) rfl ⟨bad, ?_⟩
          (repeat first | exact hb6 | exact below_drewN hW _ | (refine Below.setCell ?_ (by simp <;> omega) _))
        · rw [if_neg (by omega)] at hP
          subst hP
          have good : HeadPost (some ⟨a, b, p, m, n⟩) (.returned (.tuple #[.agg #[.int .u32 a, .int .u32 b, .int .u8 p, .int .u16 m, .int .u16 n], .int .i64 0])) := rfl
          go_enter Tryz.func32, Tryz.ntmps32
          go_wp2_with (first | (go_at_call 62; (with_reducible refine (cut03_as (c := 32) H32.out HC.out hs _).mono ?_); rintro e w1 ⟨rfl, n1, rfl⟩) | (go_at_call 62; (with_reducible refine (cut03_as (c := 32) H32.out HD.out (by omega) _).mono ?_); rintro e w1 ⟨rfl, n2, rfl⟩) | (go_at_call 63; (with_reducible refine (end03_as HX.out (by omega) _).mono ?_); rintro e w3 ⟨rfl, hb3⟩) | (go_at_call 63; (with_reducible refine (end03_as HY.out (by omega) _).mono ?_); rintro e w4 ⟨rfl, hb4⟩; have hb5 := below_seq (below_drewN (Below.refl _ _) (n1 + n2)) (below_seq hb3 hb4); obtain ⟨c0, c1, c2, c3, c4⟩ := five_of (kept_new hb5); obtain ⟨f0, f1, f2, f3, f4⟩ := free5_of (kept_new hb5); have hb6 := below_seq hW hb5) | (go_at_call 31; refine (hrd _).mono ?_; rintro e w5 ⟨rfl, rfl⟩))
          refine bodyPost_ret (v := .tuple #[.agg #[.int .u32 a, .int .u32 b, .int .u8 p, .int .u16 m, .int .u16 n], .int .i64 0]) (by simp [results, Tryz.results32, go_sem, c0, c1, c2, c3, c4]) rfl ⟨good, ?_⟩
          (repeat first | exact hb6 | exact below_drewN hW _ | (refine Below.setCell ?_ (by simp <;> omega) _))
  · have hn : P = none := by
      cases ok with
      | false => exact hP.symm
      | true =>
        cases too with
        | false => simp only [hd] at hP; exact hP.symm
        | true => exact absurd ⟨rfl, rfl⟩ hok
    subst hn
    clear hP hc hd
    have hb6 := hW
    cases ok with
    | false =>
      go_enter Tryz.func32, Tryz.ntmps32
      go_wp2_with (first | (go_at_call 62; (with_reducible refine (cut03_as (c := 32) H32.out HC.out hs _).mono ?_); rintro e w1 ⟨rfl, n1, rfl⟩) | (go_at_call 62; (with_reducible refine (cut03_as (c := 32) H32.out HD.out (by omega) _).mono ?_); rintro e w1 ⟨rfl, n2, rfl⟩))
      refine bodyPost_ret (v := .tuple #[.agg #[.int .u32 0, .int .u32 0, .int .u8 0, .int .u16 0, .int .u16 0], .int .i64 4]) (by simp [results, Tryz.results32, go_sem, c0, c1, c2, c3, c4]) rfl ⟨bad, ?_⟩
      (repeat first | exact hb6 | exact below_drewN hW _ | (refine Below.setCell ?_ (by simp <;> omega) _))
    | true =>
      cases too with
      | true => exact absurd ⟨rfl, rfl⟩ hok
      | false =>
        go_enter Tryz.func32, Tryz.ntmps32
        go_wp2_with (first | (go_at_call 62; (with_reducible refine (cut03_as (c := 32) H32.out HC.out hs _).mono ?_); rintro e w1 ⟨rfl, n1, rfl⟩) | (go_at_call 62; (with_reducible refine (cut03_as (c := 32) H32.out HD.out (by omega) _).mono ?_); rintro e w1 ⟨rfl, n2, rfl⟩))
        refine bodyPost_ret (v := .tuple #[.agg #[.int .u32 0, .int .u32 0, .int .u8 0, .int .u16 0, .int .u16 0], .int .i64 4]) (by simp [results, Tryz.results32, go_sem, c0, c1, c2, c3, c4]) rfl ⟨bad, ?_⟩
        (repeat first | exact hb6 | exact below_drewN hW _ | (refine Below.setCell ?_ (by simp <;> omega) _))
end Go.Proofs.YtopccnoinngmbaaGreatDoor
