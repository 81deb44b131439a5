/-
  A question written, as the reference does it: the kinds 3 and 4.
  A question written, as the reference does it: the kinds 5 to 7.
  A question written, as the reference does it: the kinds all.
  The reference's Parse walked: its memory, its pieces
-/
import Derived.Test.YtopccnoinngmbaaGreatDoorA21
import Derived.Test.YtopccnoinngmbaaGreatDoorA23
import Derived.Test.YtopccnoinngmbaaGreatDoorA11
import Derived.Test.YtopccnoinngmbaaGreatDoorA09
import Derived.Test.YtopccnoinngmbaaGreatDoorA16
import Derived.Deep.DeepCutAuto
import Derived.Outline
import Derived.Laws.Rows
import Derived.Deep.MidRow

/- A question written, as the reference does it: the kinds 3 and 4. -/
namespace Go.Proofs.YtopccnoinngmbaaGreatDoor
open Go.RowKit
set_option maxRecDepth 100000
set_option maxHeartbeats 16000000
set_option linter.unusedVariables false
set_option linter.unusedSimpArgs false

theorem write_k3 (q : Q) (hk : q.kind = 3) (ok : q.Ok) (sm : q.Sm) (w : World) : Calls Tryz.prog 11 #[.agg q.cells] w fun e w' => e = .returned (.string ⟨(wrT q).toArray⟩) ∧ Below w.heap.size w w' := by
  have hw : wrT q = [108, 111, 111, 112] ++ (32 :: q.dev.data.toList ++ (32 :: q.ifc.data.toList ++ pt5 q)) := by
    rw [wrT, if_neg (by omega), if_neg (by omega), if_pos hk, hk]
    rfl
  have HW := Lib.hid hw
  have HK := Lib.hid hk
  have H := WT.start w q
  have sd := sm.d
  have si := sm.i
  have sv := sm.v
  have c0 := H.k0 HK.out
  generalize wrT q = T at *
  generalize hA : q.cells = A at *
  clear hk hw hA
  go_enter Tryz.func11, Tryz.ntmps11
  go_upto_region 3 with (fail)
  go_cut [3] (fun v wx => v = .string ⟨#[108, 111, 111, 112]⟩ ∧ WT w q wx)
  case first =>
    have H0 := H.below ⟨rfl, rfl, rfl, Nat.le_refl _, fun _ _ => rfl⟩ (W1 := (w.alloc (.cells A 41)).drew)
    go_region_with (go_at_call 28; refine (kinds28_at _).mono ?_; rintro e w1 ⟨g, rfl, hg, hb1, hc1⟩; have H1 := H0.below hb1; have hcK := hc1 2 _ rfl; have c1 := H1.k0 HK.out)
    all_goals (go_wp2_with (fail); go_meet; exact ⟨rfl, H1⟩)
  case rest =>
  obtain ⟨rfl, H1⟩ := hcut
  clear H c0
  have c0 := H1.k0 HK.out
  obtain ⟨-, -, -, -, hl⟩ := pt_len q ok
  have n0 : ¬ 9223372036854775807 < 4 + 1 := by omega
  have n1 : ¬ 9223372036854775807 < 4 + 1 + q.dev.size := by omega
  have n2 : ¬ 9223372036854775807 < 4 + 1 + q.dev.size + 1 := by omega
  have n3 : ¬ 9223372036854775807 < 4 + 1 + q.dev.size + 1 + q.ifc.size := by omega
  have n4 : ¬ 9223372036854775807 < 4 + 1 + q.dev.size + 1 + q.ifc.size + (pt5 q).length := by omega
  go_upto_region 11 with (fail)
  have H2 := H1.drew
  have hpa := fun w => parts_any q ok w
  unfold Q.heads at hpa
  go_region_held3 (fun w' => w'.cell? ⟨w.heap.size, 1, none⟩ = some (.string q.dev) ∧ w'.cell? ⟨w.heap.size, 2, none⟩ = some (.string q.ifc) ∧ w'.cell? ⟨w.heap.size, 5, none⟩ = some (.bool q.permit) ∧ w'.cell? ⟨w.heap.size, 6, none⟩ = some (.int .i64 q.proto) ∧ w'.cell? ⟨w.heap.size, 7, none⟩ = some (.int .u32 q.src) ∧ w'.cell? ⟨w.heap.size, 8, none⟩ = some (.int .i64 q.sbits) ∧ w'.cell? ⟨w.heap.size, 9, none⟩ = some (.int .u32 q.dst) ∧ w'.cell? ⟨w.heap.size, 10, none⟩ = some (.int .i64 q.dbits) ∧ w'.cell? ⟨w.heap.size, 11, none⟩ = some (.int .u32 q.slo) ∧ w'.cell? ⟨w.heap.size, 12, none⟩ = some (.int .u32 q.shi) ∧ w'.cell? ⟨w.heap.size, 13, none⟩ = some (.int .u32 q.dlo) ∧ w'.cell? ⟨w.heap.size, 14, none⟩ = some (.int .u32 q.dhi))
    (first | exact H2.s11 | exact H3.s11)
    (first | (go_at_call 46; refine (hpa _).mono ?_; rintro e w3 ⟨rfl, hb3⟩; have H3 := H2.below hb3))
  go_wp2
  go_ret
  exact ⟨ret_str (by rw [HW.out]; simp), H3.bel⟩
theorem write_k4 (q : Q) (hk : q.kind = 4) (ok : q.Ok) (sm : q.Sm) (w : World) : Calls Tryz.prog 11 #[.agg q.cells] w fun e w' => e = .returned (.string ⟨(wrT q).toArray⟩) ∧ Below w.heap.size w w' := by
  have hw : wrT q = [116, 114, 97, 99, 101] ++ (32 :: q.dev.data.toList ++ (32 :: q.ifc.data.toList ++ (32 :: Lib.itoa q.hops ++ 32 :: textH q.hd))) := by
    rw [wrT, if_neg (by omega), if_neg (by omega), if_neg (by omega), if_pos hk, hk]
    rfl
  have HW := Lib.hid hw
  have HK := Lib.hid hk
  have H := WT.start w q
  have sd := sm.d
  have si := sm.i
  have sv := sm.v
  have c0 := H.k0 HK.out
  generalize wrT q = T at *
  generalize hA : q.cells = A at *
  clear hk hw hA
  go_enter Tryz.func11, Tryz.ntmps11
  go_upto_region 3 with (fail)
  go_cut [3] (fun v wx => v = .string ⟨#[116, 114, 97, 99, 101]⟩ ∧ WT w q wx)
  case first =>
    have H0 := H.below ⟨rfl, rfl, rfl, Nat.le_refl _, fun _ _ => rfl⟩ (W1 := (w.alloc (.cells A 41)).drew)
    go_region_with (go_at_call 28; refine (kinds28_at _).mono ?_; rintro e w1 ⟨g, rfl, hg, hb1, hc1⟩; have H1 := H0.below hb1; have hcK := hc1 3 _ rfl; have c1 := H1.k0 HK.out)
    all_goals (go_wp2_with (fail); go_meet; exact ⟨rfl, H1⟩)
  case rest =>
  obtain ⟨rfl, H1⟩ := hcut
  clear H c0
  have c0 := H1.k0 HK.out
  have hl := textH_len ok.hd
  have hm := itoa_len ok.h0 ok.h1
  have n0 : ¬ 9223372036854775807 < 5 + 1 := by omega
  have n1 : ¬ 9223372036854775807 < 5 + 1 + q.dev.size := by omega
  have n2 : ¬ 9223372036854775807 < 5 + 1 + q.dev.size + 1 := by omega
  have n3 : ¬ 9223372036854775807 < 5 + 1 + q.dev.size + 1 + q.ifc.size := by omega
  have n4 : ¬ 9223372036854775807 < 5 + 1 + q.dev.size + 1 + q.ifc.size + 1 := by omega
  have n5 : ¬ 9223372036854775807 < 5 + 1 + q.dev.size + 1 + q.ifc.size + 1 + (Lib.itoa q.hops).length := by omega
  have n6 : ¬ 9223372036854775807 < 5 + 1 + q.dev.size + 1 + q.ifc.size + 1 + (Lib.itoa q.hops).length + 1 := by omega
  have n7 : ¬ 9223372036854775807 < 5 + 1 + q.dev.size + 1 + q.ifc.size + 1 + (Lib.itoa q.hops).length + 1 + (textH q.hd).length := by omega
  go_upto_region 13 with (fail)
  have H2 := H1.drew
  go_region_held3 (fun w' => w'.cell? ⟨w.heap.size, 1, none⟩ = some (.string q.dev) ∧ w'.cell? ⟨w.heap.size, 2, none⟩ = some (.string q.ifc) ∧ w'.cell? ⟨w.heap.size, 20, none⟩ = some (.int .i64 q.hops) ∧ w'.cell? ⟨w.heap.size, 15, none⟩ = some (.int .u32 q.hd.src) ∧ w'.cell? ⟨w.heap.size, 16, none⟩ = some (.int .u32 q.hd.dst) ∧ w'.cell? ⟨w.heap.size, 17, none⟩ = some (.int .u8 q.hd.proto) ∧ w'.cell? ⟨w.heap.size, 18, none⟩ = some (.int .u16 q.hd.sport) ∧ w'.cell? ⟨w.heap.size, 19, none⟩ = some (.int .u16 q.hd.dport))
    (first | exact WT.s13 (by assumption))
    (first | (go_at_call 45; refine (number01_any q.hops ok.h0 ok.h1).mono ?_; rintro e w3 ⟨rfl, hb3⟩; have H3 : WT w q w3 := WT.below (by assumption) hb3) | (go_at_call 47; refine (headText03_any q.hd ok.hd _).mono ?_; rintro e w4 ⟨rfl, hb4⟩; have H4 : WT w q w4 := WT.below (by assumption) hb4))
  go_wp2
  go_ret
  exact ⟨ret_str (by rw [HW.out]; simp), WT.bel (q := q) (by assumption)⟩
end Go.Proofs.YtopccnoinngmbaaGreatDoor

/- A question written, as the reference does it: the kinds 5 to 7. -/
namespace Go.Proofs.YtopccnoinngmbaaGreatDoor
open Go.RowKit
set_option maxRecDepth 100000
set_option maxHeartbeats 16000000
set_option linter.unusedVariables false
set_option linter.unusedSimpArgs false

theorem write_k7 (q : Q) (hk : q.kind = 7) (ok : q.Ok) (sm : q.Sm) (w : World) : Calls Tryz.prog 11 #[.agg q.cells] w fun e w' => e = .returned (.string ⟨(wrT q).toArray⟩) ∧ Below w.heap.size w w' := by
  have hw : wrT q = [111, 119, 110, 101, 114] ++ 32 :: textA q.addr := by
    rw [wrT, if_neg (by omega), if_neg (by omega), if_neg (by omega), if_neg (by omega), if_neg (by omega), hk]
    rfl
  have HW := Lib.hid hw
  have HK := Lib.hid hk
  have H := WT.start w q
  have sd := sm.d
  have si := sm.i
  have sv := sm.v
  have c0 := H.k0 HK.out
  generalize wrT q = T at *
  generalize hA : q.cells = A at *
  clear hk hw hA
  go_enter Tryz.func11, Tryz.ntmps11
  go_upto_region 3 with (fail)
  go_cut [3] (fun v wx => v = .string ⟨#[111, 119, 110, 101, 114]⟩ ∧ WT w q wx)
  case first =>
    have H0 := H.below ⟨rfl, rfl, rfl, Nat.le_refl _, fun _ _ => rfl⟩ (W1 := (w.alloc (.cells A 41)).drew)
    go_region_with (go_at_call 28; refine (kinds28_at _).mono ?_; rintro e w1 ⟨g, rfl, hg, hb1, hc1⟩; have H1 := H0.below hb1; have hcK := hc1 6 _ rfl; have c1 := H1.k0 HK.out)
    all_goals (go_wp2_with (fail); go_meet; exact ⟨rfl, H1⟩)
  case rest =>
  obtain ⟨rfl, H1⟩ := hcut
  clear H c0
  have c0 := H1.k0 HK.out
  have hl := textA_len ok.a0 ok.a1
  have c21 := H1.c21
  have hB := H1.bel
  go_wp2_with (go_at_call 48; refine (text01_any q.addr ok.a0 ok.a1 _).mono ?_; rintro e w2 ⟨rfl, hb2⟩)
  go_ret
  exact ⟨ret_str (by rw [HW.out]; simp), below_seq hB hb2⟩
theorem write_k5v (q : Q) (hk : q.kind = 5) (ok : q.Ok) (sm : q.Sm) (hv : q.vrf ≠ ⟨#[]⟩) (w : World) : Calls Tryz.prog 11 #[.agg q.cells] w fun e w' => e = .returned (.string ⟨(wrT q).toArray⟩) ∧ Below w.heap.size w w' := by
  have hw : wrT q = [114, 111, 117, 116, 101, 115] ++ (32 :: q.dev.data.toList ++ ([32, 118, 114, 102, 32] ++ q.vrf.data.toList)) := by
    rw [wrT, if_neg (by omega), if_neg (by omega), if_neg (by omega), if_neg (by omega), if_pos (by omega), if_pos hv, hk]
    rfl
  have HW := Lib.hid hw
  have HK := Lib.hid hk
  have H := WT.start w q
  have sd := sm.d
  have si := sm.i
  have sv := sm.v
  have c0 := H.k0 HK.out
  generalize wrT q = T at *
  generalize hA : q.cells = A at *
  clear hk hw hA
  go_enter Tryz.func11, Tryz.ntmps11
  go_upto_region 3 with (fail)
  go_cut [3] (fun v wx => v = .string ⟨#[114, 111, 117, 116, 101, 115]⟩ ∧ WT w q wx)
  case first =>
    have H0 := H.below ⟨rfl, rfl, rfl, Nat.le_refl _, fun _ _ => rfl⟩ (W1 := (w.alloc (.cells A 41)).drew)
    go_region_with (go_at_call 28; refine (kinds28_at _).mono ?_; rintro e w1 ⟨g, rfl, hg, hb1, hc1⟩; have H1 := H0.below hb1; have hcK := hc1 4 _ rfl; have c1 := H1.k0 HK.out)
    all_goals (go_wp2_with (fail); go_meet; exact ⟨rfl, H1⟩)
  case rest =>
  obtain ⟨rfl, H1⟩ := hcut
  clear H c0
  have c0 := H1.k0 HK.out
  have c1 := H1.c1
  have c3 := H1.c3
  have hv2 : q.vrf.toList.isEmpty = false := by rw [Bool.eq_false_iff]; intro h; exact hv (empty_iff0.1 h)
  clear hv
  have hB := H1.bel
  go_wp2
  go_ret
  exact ⟨ret_str (by rw [HW.out]; simp), hB⟩
theorem write_k5n (q : Q) (hk : q.kind = 5) (ok : q.Ok) (sm : q.Sm) (hv : q.vrf = ⟨#[]⟩) (w : World) : Calls Tryz.prog 11 #[.agg q.cells] w fun e w' => e = .returned (.string ⟨(wrT q).toArray⟩) ∧ Below w.heap.size w w' := by
  have hw : wrT q = [114, 111, 117, 116, 101, 115] ++ 32 :: q.dev.data.toList := by
    rw [wrT, if_neg (by omega), if_neg (by omega), if_neg (by omega), if_neg (by omega), if_pos (by omega), if_neg (fun h => h hv), hk]
    rfl
  have HW := Lib.hid hw
  have HK := Lib.hid hk
  have H := WT.start w q
  have sd := sm.d
  have si := sm.i
  have sv := sm.v
  have c0 := H.k0 HK.out
  generalize wrT q = T at *
  generalize hA : q.cells = A at *
  clear hk hw hA
  go_enter Tryz.func11, Tryz.ntmps11
  go_upto_region 3 with (fail)
  go_cut [3] (fun v wx => v = .string ⟨#[114, 111, 117, 116, 101, 115]⟩ ∧ WT w q wx)
  case first =>
    have H0 := H.below ⟨rfl, rfl, rfl, Nat.le_refl _, fun _ _ => rfl⟩ (W1 := (w.alloc (.cells A 41)).drew)
    go_region_with (go_at_call 28; refine (kinds28_at _).mono ?_; rintro e w1 ⟨g, rfl, hg, hb1, hc1⟩; have H1 := H0.below hb1; have hcK := hc1 4 _ rfl; have c1 := H1.k0 HK.out)
    all_goals (go_wp2_with (fail); go_meet; exact ⟨rfl, H1⟩)
  case rest =>
  obtain ⟨rfl, H1⟩ := hcut
  clear H c0
  have c0 := H1.k0 HK.out
  have c1 := H1.c1
  have c3 := H1.c3
  have hv2 : q.vrf.toList.isEmpty = true := empty_iff0.2 hv
  clear hv
  have hB := H1.bel
  go_wp2
  go_ret
  exact ⟨ret_str (by rw [HW.out]; simp), hB⟩
theorem write_k6v (q : Q) (hk : q.kind = 6) (ok : q.Ok) (sm : q.Sm) (hv : q.vrf ≠ ⟨#[]⟩) (w : World) : Calls Tryz.prog 11 #[.agg q.cells] w fun e w' => e = .returned (.string ⟨(wrT q).toArray⟩) ∧ Below w.heap.size w w' := by
  have hw : wrT q = [107, 110, 111, 119, 115] ++ (32 :: q.dev.data.toList ++ ([32, 118, 114, 102, 32] ++ q.vrf.data.toList)) := by
    rw [wrT, if_neg (by omega), if_neg (by omega), if_neg (by omega), if_neg (by omega), if_pos (by omega), if_pos hv, hk]
    rfl
  have HW := Lib.hid hw
  have HK := Lib.hid hk
  have H := WT.start w q
  have sd := sm.d
  have si := sm.i
  have sv := sm.v
  have c0 := H.k0 HK.out
  generalize wrT q = T at *
  generalize hA : q.cells = A at *
  clear hk hw hA
  go_enter Tryz.func11, Tryz.ntmps11
  go_upto_region 3 with (fail)
  go_cut [3] (fun v wx => v = .string ⟨#[107, 110, 111, 119, 115]⟩ ∧ WT w q wx)
  case first =>
    have H0 := H.below ⟨rfl, rfl, rfl, Nat.le_refl _, fun _ _ => rfl⟩ (W1 := (w.alloc (.cells A 41)).drew)
    go_region_with (go_at_call 28; refine (kinds28_at _).mono ?_; rintro e w1 ⟨g, rfl, hg, hb1, hc1⟩; have H1 := H0.below hb1; have hcK := hc1 5 _ rfl; have c1 := H1.k0 HK.out)
    all_goals (go_wp2_with (fail); go_meet; exact ⟨rfl, H1⟩)
  case rest =>
  obtain ⟨rfl, H1⟩ := hcut
  clear H c0
  have c0 := H1.k0 HK.out
  have c1 := H1.c1
  have c3 := H1.c3
  have hv2 : q.vrf.toList.isEmpty = false := by rw [Bool.eq_false_iff]; intro h; exact hv (empty_iff0.1 h)
  clear hv
  have hB := H1.bel
  go_wp2
  go_ret
  exact ⟨ret_str (by rw [HW.out]; simp), hB⟩
theorem write_k6n (q : Q) (hk : q.kind = 6) (ok : q.Ok) (sm : q.Sm) (hv : q.vrf = ⟨#[]⟩) (w : World) : Calls Tryz.prog 11 #[.agg q.cells] w fun e w' => e = .returned (.string ⟨(wrT q).toArray⟩) ∧ Below w.heap.size w w' := by
  have hw : wrT q = [107, 110, 111, 119, 115] ++ 32 :: q.dev.data.toList := by
    rw [wrT, if_neg (by omega), if_neg (by omega), if_neg (by omega), if_neg (by omega), if_pos (by omega), if_neg (fun h => h hv), hk]
    rfl
  have HW := Lib.hid hw
  have HK := Lib.hid hk
  have H := WT.start w q
  have sd := sm.d
  have si := sm.i
  have sv := sm.v
  have c0 := H.k0 HK.out
  generalize wrT q = T at *
  generalize hA : q.cells = A at *
  clear hk hw hA
  go_enter Tryz.func11, Tryz.ntmps11
  go_upto_region 3 with (fail)
  go_cut [3] (fun v wx => v = .string ⟨#[107, 110, 111, 119, 115]⟩ ∧ WT w q wx)
  case first =>
    have H0 := H.below ⟨rfl, rfl, rfl, Nat.le_refl _, fun _ _ => rfl⟩ (W1 := (w.alloc (.cells A 41)).drew)
    go_region_with (go_at_call 28; refine (kinds28_at _).mono ?_; rintro e w1 ⟨g, rfl, hg, hb1, hc1⟩; have H1 := H0.below hb1; have hcK := hc1 5 _ rfl; have c1 := H1.k0 HK.out)
    all_goals (go_wp2_with (fail); go_meet; exact ⟨rfl, H1⟩)
  case rest =>
  obtain ⟨rfl, H1⟩ := hcut
  clear H c0
  have c0 := H1.k0 HK.out
  have c1 := H1.c1
  have c3 := H1.c3
  have hv2 : q.vrf.toList.isEmpty = true := empty_iff0.2 hv
  clear hv
  have hB := H1.bel
  go_wp2
  go_ret
  exact ⟨ret_str (by rw [HW.out]; simp), hB⟩
end Go.Proofs.YtopccnoinngmbaaGreatDoor

/- A question written, as the reference does it: the kinds all. -/
namespace Go.Proofs.YtopccnoinngmbaaGreatDoor
open Go.RowKit
set_option maxRecDepth 100000
set_option maxHeartbeats 16000000
set_option linter.unusedVariables false
set_option linter.unusedSimpArgs false

theorem write_any (q : Q) (ok : q.Ok) (sm : q.Sm) (w : World) : Calls Tryz.prog 11 #[.agg q.cells] w fun e w' => e = .returned (.string ⟨(wrT q).toArray⟩) ∧ Below w.heap.size w w' := by
  by_cases h : q.kind < 1 ∨ 7 < q.kind
  · exact write_bad q h ok w
  by_cases h1 : q.kind = 1
  · by_cases ha : q.en < 1
    · exact write_k1b0 q h1 ok sm ha w
    by_cases hb : 7 < q.en
    · exact write_k1b1 q h1 ok sm hb w
    exact write_k1 q h1 ok sm (by omega) w
  by_cases h2 : q.kind = 2
  · by_cases ha : q.en < 1
    · exact write_k2b0 q h2 ok sm ha w
    by_cases hb : 7 < q.en
    · exact write_k2b1 q h2 ok sm hb w
    exact write_k2 q h2 ok sm (by omega) w
  by_cases h3 : q.kind = 3
  · exact write_k3 q h3 ok sm w
  by_cases h4 : q.kind = 4
  · exact write_k4 q h4 ok sm w
  by_cases h5 : q.kind = 5
  · by_cases hv : q.vrf = ⟨#[]⟩
    · exact write_k5n q h5 ok sm hv w
    · exact write_k5v q h5 ok sm hv w
  by_cases h6 : q.kind = 6
  · by_cases hv : q.vrf = ⟨#[]⟩
    · exact write_k6n q h6 ok sm hv w
    · exact write_k6v q h6 ok sm hv w
  exact write_k7 q (by omega) ok sm w
end Go.Proofs.YtopccnoinngmbaaGreatDoor

/- The reference's Parse walked: its memory, its pieces -/
namespace Go.Proofs.YtopccnoinngmbaaGreatDoor
open Go.RowKit
set_option maxRecDepth 100000
set_option maxHeartbeats 16000000
set_option linter.unusedVariables false
set_option linter.unusedSimpArgs false


/-- The memory of the reference's Parse. -/
structure RI (w : World) (b o : Nat) (ws : List ByteArray) (qa : Nat) (q : Q) (W : World) : Prop where
  bel : Below w.heap.size w W
  res : W.heap[w.heap.size]? = some (.cells Q.zero.cells 41 (0, 0))
  ss : ∃ cs fr, W.heap[b]? = some (.cells cs 9 fr) ∧ ∀ (j : Nat) x, ws[j]? = some x → cs[o + j]? = some (.string x)
  q : W.heap[qa]? = some (.cells q.cells 41 (0, 0))
  far : w.heap.size < qa
section
variable {w W W1 : World} {b o qa : Nat} {ws : List ByteArray} {q q' : Q}
theorem RI.below (H : RI w b o ws qa q W) (h : Below W.heap.size W W1) : RI w b o ws qa q W1 := by
  obtain ⟨cs, fr, h1, h2⟩ := H.ss
  exact ⟨below_seq H.bel h, kept_old h H.res, ⟨cs, fr, kept_old h h1, h2⟩, kept_old h H.q, H.far⟩
theorem RI.rq (H : RI w b o ws qa q W) : RQ qa q W := ⟨H.q⟩
theorem RI.fr (H : RI w b o ws qa q W) (h : Fr (fun k => k = qa) W W1) (hq : RQ qa q' W1) : RI w b o ws qa q' W1 := by
  obtain ⟨cs, fr, h1, h2⟩ := H.ss
  have hne : b ≠ qa := by
    rintro rfl
    have := h1.symm.trans H.q
    simp at this
  have far := H.far
  exact ⟨h.belowAt H.bel H.bel.size (fun k hk => by have hk' : k = qa := hk; omega), h.kept H.res (fun hk => by have hk' : w.heap.size = qa := hk; omega), ⟨cs, fr, h.kept h1 hne, h2⟩, hq.h, H.far⟩
theorem RI.set (H : RI w b o ws qa q W) (j : Nat) (u : Value) (e : q.cells.setIfInBounds j u = q'.cells) : RI w b o ws qa q' (W.setCell ⟨qa, j, none⟩ u) :=
  H.fr (Fr.setCell (fun k => k = qa) W (p := ⟨qa, j, none⟩) rfl u) (H.rq.set j u e)
theorem RI.cell (H : RI w b o ws qa q W) (k : Nat) : W.cell? ⟨qa, k, none⟩ = q.cells[k]? := cell_at H.q k
theorem RI.free (H : RI w b o ws qa q W) (k : Nat) : W.frozen? ⟨qa, k, none⟩ = false := free_at H.q k
theorem RI.word (H : RI w b o ws qa q W) {j : Nat} {x : ByteArray} (hx : ws[j]? = some x) : W.cell? ⟨b, o + j, none⟩ = some (.string x) := by
  obtain ⟨cs, fr, h1, h2⟩ := H.ss
  rw [cell_at h1]; exact h2 j x hx
theorem RI.sst (H : RI w b o ws qa q W) : SS W (some ⟨b, o, none⟩) ws := by
  obtain ⟨cs, fr, h1, h2⟩ := H.ss
  exact .inr ⟨b, o, cs, fr, rfl, h1, h2⟩
theorem RI.c0 (H : RI w b o ws qa q W) : W.cell? ⟨qa, 0, none⟩ = some (.int .u8 q.kind) := H.cell 0
theorem RI.c1 (H : RI w b o ws qa q W) : W.cell? ⟨qa, 1, none⟩ = some (.string q.dev) := H.cell 1
theorem RI.c2 (H : RI w b o ws qa q W) : W.cell? ⟨qa, 2, none⟩ = some (.string q.ifc) := H.cell 2
theorem RI.c3 (H : RI w b o ws qa q W) : W.cell? ⟨qa, 3, none⟩ = some (.string q.vrf) := H.cell 3
theorem RI.c4 (H : RI w b o ws qa q W) : W.cell? ⟨qa, 4, none⟩ = some (.int .u8 q.en) := H.cell 4
theorem RI.c20 (H : RI w b o ws qa q W) : W.cell? ⟨qa, 20, none⟩ = some (.int .i64 q.hops) := H.cell 20
theorem RI.c21 (H : RI w b o ws qa q W) : W.cell? ⟨qa, 21, none⟩ = some (.int .u32 q.addr) := H.cell 21
theorem RI.k0 {κ : Int} (H : RI w b o ws qa q W) (hk : q.kind = κ) : W.cell? ⟨qa, 0, none⟩ = some (.int .u8 κ) := hk ▸ H.c0
theorem RI.drew (H : RI w b o ws qa q W) : RI w b o ws qa q W.drew := H.below ⟨rfl, rfl, rfl, Nat.le_refl _, fun _ _ => rfl⟩
theorem RI.new (H : RI w b o ws qa q W) (ob : Obj) : RI w b o ws qa q (W.alloc ob) := H.below (below_new W ob)
theorem RI.res_bel (H : RI w b o ws qa q W) (cs : Array Value) : Below w.heap.size w (W.setRow w.heap.size cs) := below_setRow H.bel (Nat.le_refl _) cs
theorem RI.res_row (H : RI w b o ws qa q W) (cs : Array Value) : (W.setRow w.heap.size cs).heap[w.heap.size]? = some (.cells cs 41 (0, 0)) := setRow_heap _ _ _ _ _ _ H.res
end
theorem results5_row {tmps : Array Value} {w : World} {g : Nat} {cs : Array Value} {fr : Nat × Nat} {e : Int} (h2 : tmps.getD 2 undef = .pointer (some ⟨g, 0, none⟩)) (h3 : tmps.getD 3 undef = .int .i64 e)
    (hg : w.heap[g]? = some (.cells cs 41 fr)) (hs : cs.size = 22) : (results Tryz.f5 tmps).run Tryz.prog w = .ok (.tuple #[.agg cs, .int .i64 e]) w := by
  rw [results_cell_tmp Tryz.results5, h2, h3]
  have := run_loadVar_row (P := Tryz.prog) w g 41 41 cs fr _ hg rfl rfl (by rw [hs]; kernel_rfl)
  simp [asAddr, this]
/-- What is refused at the end. -/
def rBad (ok : Bool) (q : Q) (s : ByteArray) : Bool := !ok || ((decide (q.kind < 7) && !isName q.dev.data.toList) || ((decide (q.kind < 5) && !isName q.ifc.data.toList) || decide (wrT q ≠ s.data.toList)))
def outR (ok : Bool) (q : Q) (s : ByteArray) : Value := if rBad ok q s then .tuple #[.agg Q.zero.cells, .int .i64 4] else .tuple #[.agg q.cells, .int .i64 0]
noncomputable def cREnd : Code := ((Tryz.f5.body.bind (piece 43)).getD .skip)
noncomputable def cRBlock : Code := ((Tryz.f5.body.bind theBlock).getD .skip)
theorem wpList_is {P : Program} {ops : Array Oper} {rest : List Oper} {o : Oper} {a : Act} {w : World} {Q : Exit → Act → World → Prop} (h : wpList P ops Q (o :: rest) a w) : wpList P ops Q (o :: rest) a w := h
theorem name_as {s : ByteArray} {r : Bool} (h : isName s.data.toList = r) (hs : s.size ≤ 4194304) (w : World) : Calls Tryz.prog 33 #[.string s] w fun e w' => e = .returned (.bool r) ∧ w' = w := by
  subst h; exact name07_any s (by omega) w
theorem wpList_load_row_r {P : Program} {ops : Array Oper} {rest : List Oper} {o : Oper} {a : Act} {w : World} {Q : Exit → Act → World → Prop} (ty : TypeId) (x : Operand) (ho : o.op = .load ty x)
    (hw : Region.wanted o (yielded ops a.tmps) = true)
    (g : Nat) (hx : a.eval x = .pointer (some ⟨g, 0, none⟩)) (t : TypeId) (cs : Array Value) (fr : Nat × Nat) (d : TypeDesc) (hg : w.heap[g]? = some (.cells cs t fr))
    (hu : P.underlying ty = some d) (hd : (match d with | .struct _ | .array _ _ => true | _ => false) = true) (hi : (P.info? ty).map (·.size) = some cs.size)
    (h : wpList P ops Q rest (a.put o.dst (.agg cs)) w) : wpList P ops Q (o :: rest) a w :=
  wpList_step fun K' hK => by
    rw [if_pos hw]
    exact wp_load_row ty x ho g hx t cs fr d hg hu hd hi (hK _ _ h)
end Go.Proofs.YtopccnoinngmbaaGreatDoor
