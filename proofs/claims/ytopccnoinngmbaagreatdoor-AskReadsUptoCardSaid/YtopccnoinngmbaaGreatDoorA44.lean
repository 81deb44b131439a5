/-
  A count's digits, as the reference writes them.
  The law answers true.
-/
import Derived.Test.YtopccnoinngmbaaGreatDoorA43
import Derived.Test.YtopccnoinngmbaaGreatDoorA05
import Derived.Laws.OwnMore
import Derived.Test.YtopccnoinngmbaaGreatDoorA30
import Derived.Test.YtopccnoinngmbaaGreatDoorA42

/- A count's digits, as the reference writes them. -/
namespace Go.Proofs.YtopccnoinngmbaaGreatDoor
open Go.RowKit Go.Sort
set_option maxRecDepth 1000000
set_option maxHeartbeats 16000000
set_option linter.unusedVariables false
set_option linter.unusedSimpArgs false
/-- The memory of the reference's Decimal. -/
structure RM (w : World) (hi lo : Int) (t : List Nat) (v : Value) (W : World) : Prop where
  bel : Below w.heap.size w W
  box : W.heap[w.heap.size]? = some (.cells #[.int .u64 hi, .int .u64 lo] 37 (0, 0))
  own : W.ownsRow (w.heap.size + 1) 3 1 v t.length (t.map fun (d : Nat) => Value.int .i64 d)
theorem RM.below {w W W1 : World} {a b : Int} {t : List Nat} {v : Value} (H : RM w a b t v W) (h : Below W.heap.size W W1) : RM w a b t v W1 := by
  refine ⟨below_seq H.bel h, kept_old h H.box, H.own.1, ?_⟩
  rcases H.own.2 with h' | ⟨g, cap, cur, hv, hb, hg, rest⟩
  · exact .inl h'
  · exact .inr ⟨g, cap, cur, hv, hb, kept_old h hg, rest⟩
theorem RM.slice {w W : World} {a b : Int} {t : List Nat} {v : Value} (H : RM w a b t v W) (ht : t ≠ []) : ∃ g cap, v = .slice (some ⟨g, 0, none⟩) t.length cap ∧ w.heap.size < g := by
  rcases H.own.2 with ⟨hv, h0⟩ | ⟨g, cap, cur, hv, hgb, hg, hn, hcm, hcs, htk⟩
  · exact absurd (List.eq_nil_of_length_eq_zero h0) ht
  · exact ⟨g, cap, hv, by omega⟩
theorem RM.at {w W : World} {a b : Int} {t u : List Nat} {g cap kk d : Nat} (H : RM w a b (u ++ t.drop kk) (.slice (some ⟨g, 0, none⟩) t.length cap) W) (hu : u.length = kk) (hd : t[kk]? = some d) :
    W.cell? ⟨g, kk, none⟩ = some (.int .i64 d) ∧ W.frozen? ⟨g, kk, none⟩ = false ∧ ∀ x : Nat, RM w a b ((u ++ [x]) ++ t.drop (kk + 1)) (.slice (some ⟨g, 0, none⟩) t.length cap) (W.setCell ⟨g, kk, none⟩ (.int .i64 x)) := by
  have hlt : kk < t.length := (List.getElem?_eq_some_iff.1 hd).1
  have hl : (u ++ t.drop kk).length = t.length := by rw [List.length_append, List.length_drop]; omega
  have ho := H.own
  rw [hl] at ho
  have hdr : t.drop kk = d :: t.drop (kk + 1) := by
    rw [List.drop_eq_getElem_cons hlt]
    rw [List.getElem?_eq_getElem hlt] at hd
    injection hd with hd; rw [hd]
  refine ⟨?_, ho.frozenAt kk, fun x => ?_⟩
  · rw [ho.cellAt kk (show kk < t.length * 1 by omega), hdr]
    subst hu
    simp only [List.map_append, List.map_cons]
    rw [List.getElem?_append_right (by simp), List.length_map, Nat.sub_self]; rfl
  · have h1 := (ho.stored kk (.int .i64 x)).1
    have hgb : w.heap.size < g := by
      have := (ho.lt g rfl).1; omega
    refine ⟨H.bel.setCell (by show w.heap.size ≤ g; omega) _, ?_, ?_⟩
    · rw [Below.heap_setCell _ _ _ _ (by show w.heap.size ≠ g; omega)]; exact H.box
    · have hl2 : ((u ++ [x]) ++ t.drop (kk + 1)).length = t.length := by
        simp only [List.length_append, List.length_drop, List.length_singleton]; omega
      rw [hl2]
      have he : ((u ++ [x]) ++ t.drop (kk + 1)).map (fun (d : Nat) => Value.int .i64 d) = ((u ++ t.drop kk).map fun (d : Nat) => Value.int .i64 d).set kk (.int .i64 x) := by
        rw [hdr]; subst hu; simp
      rw [he]; exact h1
theorem u86 : Tryz.prog.underlying 86 = some (.slice 3) := by kernel_rfl
theorem one_oneI3 (x : Int) : ∀ u ∈ [Value.int .i64 x], u.oneCell' = true := by
  intro u hu
  rw [List.mem_singleton] at hu
  subst hu; rfl
theorem RM.put {w W W1 : World} {a b : Int} {x : Nat} {t : List Nat} {n : Nat} {v v' : Value} {o : Obj} (H : RM w a b t v W) (hn : t.length = n) (ho : W1.ownsRow (w.heap.size + 1) 3 1 v' (n + 1) (t.map (fun (d : Nat) => Value.int .i64 d) ++ [Value.int .i64 x])) (hg : (W.alloc o).grownBy W1 v.ownBlock) : RM w a b (t ++ [x]) v' W1 := by
  subst hn
  have hb1 : Below w.heap.size w (W.alloc o) := H.bel.alloc H.bel.size _
  have hz := H.bel.size
  have hlt := lt_of_block H.box
  refine ⟨hb1.grown hg (by rw [sz_alloc]; omega) (fun j hj => by have := (H.own.lt j hj).1; omega), ?_, by simpa using ho⟩
  have hbox : (W.alloc o).heap[w.heap.size]? = some (.cells #[.int .u64 a, .int .u64 b] 37 (0, 0)) := kept_old (below_new W o) H.box
  rw [hg.block w.heap.size (by rw [sz_alloc]; omega) (fun e => by have := (H.own.lt _ e.symm).1; omega)]
  exact hbox
theorem dl_len {t : List Nat} {m : Nat} (h : DL t m) (hm : m < 2 ^ 128) : t.length ≤ 39 := by
  rcases h.top with h | h
  · omega
  · rcases Nat.lt_or_ge t.length 40 with h' | h'
    · omega
    · have : 10 ^ 39 ≤ 10 ^ (t.length - 1) := Nat.pow_le_pow_right (by omega) (by omega)
      omega
theorem rm_start (hi lo : Int) (w : World) : RM w hi lo [0] (.slice (some ⟨w.heap.size + 1, 0, none⟩) 1 1) ((w.alloc (.cells #[.int .u64 hi, .int .u64 lo] 37)).alloc (.cells #[.int .i64 0] 3)) := by
  refine ⟨(below_new w _).alloc (by rw [sz_alloc]; omega) _, kept_old (below_new _ _) (heap_alloc_new w _), ?_⟩
  have h := World.ownsRow_lit (base := w.heap.size + 1) (e := 3) (size := 1) (w.alloc (.cells #[.int .u64 hi, .int .u64 lo] 37)) #[.int .i64 0] 1 (by rw [sz_alloc]; omega) (by decide) rfl
  rw [sz_alloc] at h
  exact h
theorem dl_start {N : Nat} (h : N < 2 ^ 128) : DL [0] (N / 2 ^ 128) := ⟨by simp, by rw [Nat.div_eq_of_lt h]; rfl, by simp, .inl rfl⟩
def dstr (l : List Nat) : ByteArray := ⟨(l.reverse.map fun d => UInt8.ofNat (48 + d)).toArray⟩
theorem dstr_size (l : List Nat) : (dstr l).size = l.length := by
  show ((l.reverse.map fun d => UInt8.ofNat (48 + d)).toArray).size = _
  simp
theorem dstr_app {t : List Nat} {kk d : Nat} (hd : t[kk]? = some d) : dstr (t.take (kk + 1)) = dstr [d] ++ dstr (t.take kk) := by
  rw [List.take_add_one, hd]
  unfold dstr
  apply ByteArray.ext
  simp
theorem dig_any {d : Nat} (h : d < 10) {w : World} : Calls Tryz.prog 45 #[.int .i64 d] w fun e w' => e = .returned (.string (dstr [d])) ∧ Below w.heap.size w w' := by
  have h2 := number01_any (d : Int) (by omega) (by omega) (w := w)
  rw [itoa_nat, Lib.decDigits_one (by omega)] at h2
  exact h2
theorem decimal9_any (hi lo : Int) (g0 : 0 ≤ hi) (g1 : hi < 18446744073709551616) (h0 : 0 ≤ lo) (h1 : lo < 18446744073709551616) (N : Nat) (hN : hi * 18446744073709551616 + lo = N) (w : World) :
    Calls Tryz.prog 9 #[.agg #[.int .u64 hi, .int .u64 lo]] w fun e w' => e = .returned (.string ⟨(Lib.decDigits N).toArray⟩) ∧ Below w.heap.size w w' := by
  obtain ⟨i0, hi0, hz0, hz1, hz2⟩ := info_parts (P := Tryz.prog) (e := 3) (z := .int .i64 0) (size := 1) (bytes := 8) (by kernel_rfl)
  have HN := Lib.hid hN
  have hN128 : N < 2 ^ 128 := by omega
  clear hN
  go_enter Tryz.func9, Tryz.ntmps9
  go_wp2
  go_loopg [3, 4] 128 (fun k v s4 wr => ∃ (i : Nat) (z : Int) (t : List Nat), s4 = .int .i64 z ∧ z = (i : Int) - 1 ∧ k = i ∧ i ≤ 128 ∧ RM w hi lo t v wr ∧ DL t (N / 2 ^ i))
  case atStart => exact ⟨128, 127, [0], rfl, rfl, rfl, by omega, rm_start hi lo w, dl_start hN128⟩
  case round =>
    obtain ⟨i, z, t, rfl, hz, rfl, hi128, H, D⟩ := hrel
    have H1 := Lib.hid H
    obtain ⟨c0, c1, f0, f1⟩ := two_of H.box
    obtain ⟨g, cap, rfl, hg⟩ := H.slice D.pos
    by_cases h0 : gk = 0
    · subst h0
      have hzn : ¬ z ≥ 0 := by omega
      have hdd := D.dec
      rw [Nat.pow_zero, Nat.div_one] at hdd
      have hten := D.dig
      have htl := dl_len D (Nat.lt_of_le_of_lt (Nat.div_le_self _ _) hN128)
      have HD := Lib.hid hdd
      have HT := Lib.hid hten
      have HH := Lib.hid H
      clear hz hi128 H D hdd hten c0 c1 f0 f1 H1
      go_wp2_with (fail)
      go_loopg [8, 9] t.length (fun k s8 s9 wx => ∃ kk : Nat, s8 = .string (dstr (t.take kk)) ∧ s9 = .int .i64 kk ∧ t.length = k + kk ∧ RM w hi lo t (.slice (some ⟨g, 0, none⟩) t.length cap) wx)
      case atStart => exact ⟨0, rfl, rfl, rfl, HH.out⟩
      case round =>
        obtain ⟨kk, rfl, rfl, hk, H⟩ := hrel
        clear HH
        by_cases hkl : kk < t.length
        · obtain ⟨d, hd⟩ : ∃ d, t[kk]? = some d := ⟨t[kk], List.getElem?_eq_getElem hkl⟩
          have hd10 : d < 10 := HT.out d (List.mem_of_getElem? hd)
          have cD : wr.cell? ⟨g, kk, none⟩ = some (.int .i64 d) := by rw [H.own.cellAt kk (show kk < t.length * 1 by omega), List.getElem?_map, hd]; rfl
          have fD := H.own.frozenAt kk
          have hkt : (kk : Int) < (t.length : Int) := by omega
          have HH := Lib.hid H
          have Hk := Lib.hid hk
          have Hd := Lib.hid hd
          clear H hk hd
          have hs1 : (dstr [d]).size = 1 := rfl
          have hs2 : (dstr (t.take kk)).size ≤ 39 := by rw [dstr_size, List.length_take]; omega
          have hap := dstr_app (hd := Hd.out)
          have hsl : ¬ 9223372036854775807 < (dstr [d]).size + (dstr (t.take kk)).size := by omega
          go_wp2_with (go_at_call 45; refine (dig_any hd10).mono ?_; rintro e w1 ⟨rfl, hb1⟩)
          go_roundg (gk - 1)
          case measure => have := Hk.out; omega
          case rel => exact ⟨kk + 1, by rw [hap], by simp, by have := Hk.out; omega, HH.out.below hb1⟩
        · have hkt : ¬ (kk : Int) < (t.length : Int) := by omega
          have hkk : kk = t.length := by omega
          subst hkk
          have hb := H.bel
          have hout : dstr t = ⟨(Lib.decDigits N).toArray⟩ := by rw [HD.out]; rfl
          have Hout := Lib.hid hout
          clear hk hkl H hout
          go_wp2_with (fail)
          go_ret
          exact ⟨congrArg (fun x => Ending.returned (Value.string x)) Hout.out, hb⟩
    · obtain ⟨j, rfl⟩ : ∃ j, gk = j + 1 := ⟨gk - 1, by omega⟩
      obtain rfl : z = (j : Int) := by omega
      have hj0 : (j : Int) ≥ 0 := by omega
      clear hz h0 H
      have hbit : ∀ b, N / 2 ^ j % 2 = b → b = 0 ∨ b = 1 := by omega
      generalize hbb : N / 2 ^ j % 2 = b0 at hbit
      by_cases h64 : 64 ≤ j
      · have hge : (j : Int) ≥ 64 := by omega
        have hlt : ¬ (j : Int) < 64 := by omega
        have hbv := bit_hi g0 g1 h0 h1 HN.out h64
        rw [hbb] at hbv
        rcases hbit b0 rfl with rfl | rfl
        · have HB := Lib.hid hbb
          clear hbb hbit
          go_wp2_with (fail)
          clear c0 c1 f0 f1 hbv hge hlt h64
          go_loopg [5, 6] t.length (fun k s5 s6 wx => ∃ (b kk : Nat) (u : List Nat), s5 = .int .i64 b ∧ s6 = .int .i64 kk ∧ u.length = kk ∧ t.length = k + kk ∧ DU t 0 u b ∧ RM w hi lo (u ++ t.drop kk) (.slice (some ⟨g, 0, none⟩) t.length cap) wx)
          case atStart => exact ⟨0, 0, [], rfl, rfl, rfl, rfl, DU.start t (by omega), H1.out⟩
          case round =>
            obtain ⟨b, kk, u, rfl, rfl, hu, hk, X, H⟩ := hrel
            clear H1
            have htl := dl_len D (Nat.lt_of_le_of_lt (Nat.div_le_self _ _) hN128)
            have hb1 := X.le
            by_cases hkl : kk < t.length
            · obtain ⟨d, hd⟩ : ∃ d, t[kk]? = some d := ⟨t[kk], List.getElem?_eq_getElem hkl⟩
              have hd10 : d < 10 := D.dig d (List.mem_of_getElem? hd)
              obtain ⟨cD, fD, HS⟩ := H.at hu hd
              have X2 := X.step (by rw [hu]; exact hd) hd10
              have hkt : (kk : Int) < (t.length : Int) := by omega
              have HX := Lib.hid X2
              have HS := Lib.hid HS
              clear X X2 H
              go_wp2_with (fail)
              go_roundg (gk - 1)
              case measure => omega
              case rel => exact ⟨(2 * d + b) / 10, kk + 1, u ++ [(2 * d + b) % 10], by simp, by simp, by simp [hu], by omega, HX.out, by simpa using HS.out ((2 * d + b) % 10)⟩
            · obtain rfl : kk = t.length := by omega
              have hgk : gk = 0 := by omega
              have HL := X.last hu D
              rw [List.drop_length, List.append_nil] at H
              have hnl : ¬ (t.length : Int) < (t.length : Int) := by omega
              have HH := Lib.hid H
              have HO := Lib.hid (show wr.ownsRow (w.heap.size + 1) 3 1 (.slice (some ⟨g, 0, none⟩) t.length cap) t.length (u.map fun (d : Nat) => Value.int .i64 d) from by have h := H.own; rw [hu] at h; exact h)
              have Hu := Lib.hid hu
              have hz5 := H.bel.size
              have hlt5 := lt_of_block H.box
              have HB2 := HB.out
              have hN2 := half_bit N j
              rw [HB2] at hN2
              have HLh := Lib.hid HL
              clear HL X H hk hkl hgk hu
              rcases (show b = 0 ∨ b = 1 by omega) with rfl | rfl
              · go_wp2_with (fail)
                go_roundg j
                case measure => omega
                case rel => exact ⟨j, (j : Int) - 1, u, rfl, rfl, rfl, by omega, HH.out, by rw [hN2]; have h := HLh.out.1; simpa using h⟩
              · go_wp2_with (at_builtin; go_loud (refine wpList_append_own _ rfl _ _ 86 rfl (w.heap.size + 1) 3 i0 (.int .i64 0) 1 8 u86 hi0 hz0 hz1 hz2 rfl (by decide) _ _ _ rfl (HO.out.alloc _) ⟨wr.heap.size, 0, none⟩ 1 1 [Value.int .i64 1] rfl rfl (news_one wr _ 3) (one_oneI3 _) (by simp only [maxLen]; omega) (by omega) (by simp [sz_alloc]; omega) ?_; intro v' w' ho' hg' _))
                go_roundg j
                case measure => omega
                case rel => exact ⟨j, (j : Int) - 1, u ++ [1], rfl, rfl, rfl, by omega, HH.out.put Hu.out ho' hg', by rw [hN2]; have h := HLh.out.2; simpa using h⟩
        · have HB := Lib.hid hbb
          clear hbb hbit
          go_wp2_with (fail)
          clear c0 c1 f0 f1 hbv hge hlt h64
          go_loopg [5, 6] t.length (fun k s5 s6 wx => ∃ (b kk : Nat) (u : List Nat), s5 = .int .i64 b ∧ s6 = .int .i64 kk ∧ u.length = kk ∧ t.length = k + kk ∧ DU t 1 u b ∧ RM w hi lo (u ++ t.drop kk) (.slice (some ⟨g, 0, none⟩) t.length cap) wx)
          case atStart => exact ⟨1, 0, [], rfl, rfl, rfl, rfl, DU.start t (by omega), H1.out⟩
          case round =>
            obtain ⟨b, kk, u, rfl, rfl, hu, hk, X, H⟩ := hrel
            clear H1
            have htl := dl_len D (Nat.lt_of_le_of_lt (Nat.div_le_self _ _) hN128)
            have hb1 := X.le
            by_cases hkl : kk < t.length
            · obtain ⟨d, hd⟩ : ∃ d, t[kk]? = some d := ⟨t[kk], List.getElem?_eq_getElem hkl⟩
              have hd10 : d < 10 := D.dig d (List.mem_of_getElem? hd)
              obtain ⟨cD, fD, HS⟩ := H.at hu hd
              have X2 := X.step (by rw [hu]; exact hd) hd10
              have hkt : (kk : Int) < (t.length : Int) := by omega
              have HX := Lib.hid X2
              have HS := Lib.hid HS
              clear X X2 H
              go_wp2_with (fail)
              go_roundg (gk - 1)
              case measure => omega
              case rel => exact ⟨(2 * d + b) / 10, kk + 1, u ++ [(2 * d + b) % 10], by simp, by simp, by simp [hu], by omega, HX.out, by simpa using HS.out ((2 * d + b) % 10)⟩
            · obtain rfl : kk = t.length := by omega
              have hgk : gk = 0 := by omega
              have HL := X.last hu D
              rw [List.drop_length, List.append_nil] at H
              have hnl : ¬ (t.length : Int) < (t.length : Int) := by omega
              have HH := Lib.hid H
              have HO := Lib.hid (show wr.ownsRow (w.heap.size + 1) 3 1 (.slice (some ⟨g, 0, none⟩) t.length cap) t.length (u.map fun (d : Nat) => Value.int .i64 d) from by have h := H.own; rw [hu] at h; exact h)
              have Hu := Lib.hid hu
              have hz5 := H.bel.size
              have hlt5 := lt_of_block H.box
              have HB2 := HB.out
              have hN2 := half_bit N j
              rw [HB2] at hN2
              have HLh := Lib.hid HL
              clear HL X H hk hkl hgk hu
              rcases (show b = 0 ∨ b = 1 by omega) with rfl | rfl
              · go_wp2_with (fail)
                go_roundg j
                case measure => omega
                case rel => exact ⟨j, (j : Int) - 1, u, rfl, rfl, rfl, by omega, HH.out, by rw [hN2]; have h := HLh.out.1; simpa using h⟩
              · go_wp2_with (at_builtin; go_loud (refine wpList_append_own _ rfl _ _ 86 rfl (w.heap.size + 1) 3 i0 (.int .i64 0) 1 8 u86 hi0 hz0 hz1 hz2 rfl (by decide) _ _ _ rfl (HO.out.alloc _) ⟨wr.heap.size, 0, none⟩ 1 1 [Value.int .i64 1] rfl rfl (news_one wr _ 3) (one_oneI3 _) (by simp only [maxLen]; omega) (by omega) (by simp [sz_alloc]; omega) ?_; intro v' w' ho' hg' _))
                go_roundg j
                case measure => omega
                case rel => exact ⟨j, (j : Int) - 1, u ++ [1], rfl, rfl, rfl, by omega, HH.out.put Hu.out ho' hg', by rw [hN2]; have h := HLh.out.2; simpa using h⟩
      · have hge : ¬ (j : Int) ≥ 64 := by omega
        have hlt : (j : Int) < 64 := by omega
        have hbv := bit_lo g0 g1 h0 h1 HN.out (by omega : j < 64)
        rw [hbb] at hbv
        rcases hbit b0 rfl with rfl | rfl
        · have HB := Lib.hid hbb
          clear hbb hbit
          go_wp2_with (fail)
          clear c0 c1 f0 f1 hbv hge hlt h64
          go_loopg [5, 6] t.length (fun k s5 s6 wx => ∃ (b kk : Nat) (u : List Nat), s5 = .int .i64 b ∧ s6 = .int .i64 kk ∧ u.length = kk ∧ t.length = k + kk ∧ DU t 0 u b ∧ RM w hi lo (u ++ t.drop kk) (.slice (some ⟨g, 0, none⟩) t.length cap) wx)
          case atStart => exact ⟨0, 0, [], rfl, rfl, rfl, rfl, DU.start t (by omega), H1.out⟩
          case round =>
            obtain ⟨b, kk, u, rfl, rfl, hu, hk, X, H⟩ := hrel
            clear H1
            have htl := dl_len D (Nat.lt_of_le_of_lt (Nat.div_le_self _ _) hN128)
            have hb1 := X.le
            by_cases hkl : kk < t.length
            · obtain ⟨d, hd⟩ : ∃ d, t[kk]? = some d := ⟨t[kk], List.getElem?_eq_getElem hkl⟩
              have hd10 : d < 10 := D.dig d (List.mem_of_getElem? hd)
              obtain ⟨cD, fD, HS⟩ := H.at hu hd
              have X2 := X.step (by rw [hu]; exact hd) hd10
              have hkt : (kk : Int) < (t.length : Int) := by omega
              have HX := Lib.hid X2
              have HS := Lib.hid HS
              clear X X2 H
              go_wp2_with (fail)
              go_roundg (gk - 1)
              case measure => omega
              case rel => exact ⟨(2 * d + b) / 10, kk + 1, u ++ [(2 * d + b) % 10], by simp, by simp, by simp [hu], by omega, HX.out, by simpa using HS.out ((2 * d + b) % 10)⟩
            · obtain rfl : kk = t.length := by omega
              have hgk : gk = 0 := by omega
              have HL := X.last hu D
              rw [List.drop_length, List.append_nil] at H
              have hnl : ¬ (t.length : Int) < (t.length : Int) := by omega
              have HH := Lib.hid H
              have HO := Lib.hid (show wr.ownsRow (w.heap.size + 1) 3 1 (.slice (some ⟨g, 0, none⟩) t.length cap) t.length (u.map fun (d : Nat) => Value.int .i64 d) from by have h := H.own; rw [hu] at h; exact h)
              have Hu := Lib.hid hu
              have hz5 := H.bel.size
              have hlt5 := lt_of_block H.box
              have HB2 := HB.out
              have hN2 := half_bit N j
              rw [HB2] at hN2
              have HLh := Lib.hid HL
              clear HL X H hk hkl hgk hu
              rcases (show b = 0 ∨ b = 1 by omega) with rfl | rfl
              · go_wp2_with (fail)
                go_roundg j
                case measure => omega
                case rel => exact ⟨j, (j : Int) - 1, u, rfl, rfl, rfl, by omega, HH.out, by rw [hN2]; have h := HLh.out.1; simpa using h⟩
              · go_wp2_with (at_builtin; go_loud (refine wpList_append_own _ rfl _ _ 86 rfl (w.heap.size + 1) 3 i0 (.int .i64 0) 1 8 u86 hi0 hz0 hz1 hz2 rfl (by decide) _ _ _ rfl (HO.out.alloc _) ⟨wr.heap.size, 0, none⟩ 1 1 [Value.int .i64 1] rfl rfl (news_one wr _ 3) (one_oneI3 _) (by simp only [maxLen]; omega) (by omega) (by simp [sz_alloc]; omega) ?_; intro v' w' ho' hg' _))
                go_roundg j
                case measure => omega
                case rel => exact ⟨j, (j : Int) - 1, u ++ [1], rfl, rfl, rfl, by omega, HH.out.put Hu.out ho' hg', by rw [hN2]; have h := HLh.out.2; simpa using h⟩
        · have HB := Lib.hid hbb
          clear hbb hbit
          go_wp2_with (fail)
          clear c0 c1 f0 f1 hbv hge hlt h64
          go_loopg [5, 6] t.length (fun k s5 s6 wx => ∃ (b kk : Nat) (u : List Nat), s5 = .int .i64 b ∧ s6 = .int .i64 kk ∧ u.length = kk ∧ t.length = k + kk ∧ DU t 1 u b ∧ RM w hi lo (u ++ t.drop kk) (.slice (some ⟨g, 0, none⟩) t.length cap) wx)
          case atStart => exact ⟨1, 0, [], rfl, rfl, rfl, rfl, DU.start t (by omega), H1.out⟩
          case round =>
            obtain ⟨b, kk, u, rfl, rfl, hu, hk, X, H⟩ := hrel
            clear H1
            have htl := dl_len D (Nat.lt_of_le_of_lt (Nat.div_le_self _ _) hN128)
            have hb1 := X.le
            by_cases hkl : kk < t.length
            · obtain ⟨d, hd⟩ : ∃ d, t[kk]? = some d := ⟨t[kk], List.getElem?_eq_getElem hkl⟩
              have hd10 : d < 10 := D.dig d (List.mem_of_getElem? hd)
              obtain ⟨cD, fD, HS⟩ := H.at hu hd
              have X2 := X.step (by rw [hu]; exact hd) hd10
              have hkt : (kk : Int) < (t.length : Int) := by omega
              have HX := Lib.hid X2
              have HS := Lib.hid HS
              clear X X2 H
              go_wp2_with (fail)
              go_roundg (gk - 1)
              case measure => omega
              case rel => exact ⟨(2 * d + b) / 10, kk + 1, u ++ [(2 * d + b) % 10], by simp, by simp, by simp [hu], by omega, HX.out, by simpa using HS.out ((2 * d + b) % 10)⟩
            · obtain rfl : kk = t.length := by omega
              have hgk : gk = 0 := by omega
              have HL := X.last hu D
              rw [List.drop_length, List.append_nil] at H
              have hnl : ¬ (t.length : Int) < (t.length : Int) := by omega
              have HH := Lib.hid H
              have HO := Lib.hid (show wr.ownsRow (w.heap.size + 1) 3 1 (.slice (some ⟨g, 0, none⟩) t.length cap) t.length (u.map fun (d : Nat) => Value.int .i64 d) from by have h := H.own; rw [hu] at h; exact h)
              have Hu := Lib.hid hu
              have hz5 := H.bel.size
              have hlt5 := lt_of_block H.box
              have HB2 := HB.out
              have hN2 := half_bit N j
              rw [HB2] at hN2
              have HLh := Lib.hid HL
              clear HL X H hk hkl hgk hu
              rcases (show b = 0 ∨ b = 1 by omega) with rfl | rfl
              · go_wp2_with (fail)
                go_roundg j
                case measure => omega
                case rel => exact ⟨j, (j : Int) - 1, u, rfl, rfl, rfl, by omega, HH.out, by rw [hN2]; have h := HLh.out.1; simpa using h⟩
              · go_wp2_with (at_builtin; go_loud (refine wpList_append_own _ rfl _ _ 86 rfl (w.heap.size + 1) 3 i0 (.int .i64 0) 1 8 u86 hi0 hz0 hz1 hz2 rfl (by decide) _ _ _ rfl (HO.out.alloc _) ⟨wr.heap.size, 0, none⟩ 1 1 [Value.int .i64 1] rfl rfl (news_one wr _ 3) (one_oneI3 _) (by simp only [maxLen]; omega) (by omega) (by simp [sz_alloc]; omega) ?_; intro v' w' ho' hg' _))
                go_roundg j
                case measure => omega
                case rel => exact ⟨j, (j : Int) - 1, u ++ [1], rfl, rfl, rfl, by omega, HH.out.put Hu.out ho' hg', by rw [hN2]; have h := HLh.out.2; simpa using h⟩
end Go.Proofs.YtopccnoinngmbaaGreatDoor

/- The law answers true. -/
namespace Go.Proofs.YtopccnoinngmbaaGreatDoor
open Go.RowKit
set_option maxRecDepth 100000
set_option linter.unusedVariables false

theorem askV_as (o : Option Q) : askV o = .tuple #[.agg (o.getD Q.zero).cells, .int .i64 (errV o)] := by cases o <;> rfl
theorem parse_out (s : ByteArray) : outQ (fin (spl 32 s)).1 (fin (spl 32 s)).2 = askV (rAsk s) := by
  rw [pAsk_out, law_read]; rfl
theorem Q.beq_self (q : Q) : q.beq q = true := by simp [Q.beq, Q.req, Hd.beq]
theorem reads_any (s : ByteArray) (hs : s.size ≤ 1048576) (q : Q) (ok : q.Ok) (hz : q.dev.size + q.ifc.size + q.vrf.size ≤ 1048576) (hi lo : Int) (g0 : 0 ≤ hi) (g1 : hi < 18446744073709551616) (l0 : 0 ≤ lo) (l1 : lo < 18446744073709551616) {w : World} (E : Env w) :
    Calls Tryz.prog 3 #[.string s, .agg q.cells, .agg #[.int .u64 hi, .int .u64 lo]] w fun e w' => e = .returned (.bool true) ∧ Below w.heap.size w w' := by
  have sm : q.Sm := ⟨by omega, by omega, by omega⟩
  obtain ⟨N, hN⟩ : ∃ N : Nat, hi * 18446744073709551616 + lo = N := ⟨(hi * 18446744073709551616 + lo).toNat, by omega⟩
  have hA : Hid (q.cells.size = 22 ∧ q.cells.all (·.oneCell') = true) := Lib.hid ⟨rfl, Q.one q⟩
  have hX : Hid (((rAsk s).getD Q.zero).cells.size = 22 ∧ ((rAsk s).getD Q.zero).cells.all (·.oneCell') = true) := Lib.hid ⟨rfl, Q.one _⟩
  have h4 : GivesE 4 #[.string s] (.tuple #[.agg ((rAsk s).getD Q.zero).cells, .int .i64 (errV (rAsk s))]) := fun w E => by
    have := parse_any s (by omega) E
    rw [parse_out, askV_as] at this
    exact this
  have h5 : Gives 5 #[.string s] (.tuple #[.agg ((rAsk s).getD Q.zero).cells, .int .i64 (errV (rAsk s))]) := fun w => by
    have := rparse_ask s (by omega) w
    rw [askV_as] at this
    exact this
  have h6 := fun (w : World) (E : Env w) => text_any q ok (joinB_small ok hz) E
  rw [law_text] at h6
  have h10 := fun (w : World) => is10_any q ok sm (wrT_small ok hz) w
  have he : ∀ w, (Op.equalIn 10000 41 (.agg ((rAsk s).getD Q.zero).cells) (.agg ((rAsk s).getD Q.zero).cells)).run Tryz.prog w = .ok true w := fun w => by
    rw [eqQ41, Q.beq_self]
  cases hq : isQ q with
  | true =>
    rw [hq, if_pos rfl] at h6
    rw [hq] at h10
    exact reads_true E hA hX h4 h5 h6 (of_any q) (of_any _) (decimal8_any hi lo g0 g1 l0 l1 N hN) (decimal9_any hi lo g0 g1 l0 l1 N hN) h10 (write_any q ok sm) he
  | false =>
    rw [hq, if_neg (by decide)] at h6
    rw [hq] at h10
    exact reads_false E hA hX h4 h5 h6 (of_any q) (of_any _) (decimal8_any hi lo g0 g1 l0 l1 N hN) (decimal9_any hi lo g0 g1 l0 l1 N hN) h10 he
end Go.Proofs.YtopccnoinngmbaaGreatDoor
