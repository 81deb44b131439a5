/-
  A question written, as the reference does it: the kinds 1.
-/
import Derived.Test.YtopccnoinngmbaaGreatDoorA21
namespace Go.Proofs.YtopccnoinngmbaaGreatDoor
open Go.RowKit
set_option maxRecDepth 100000
set_option maxHeartbeats 16000000
set_option linter.unusedVariables false
set_option linter.unusedSimpArgs false

/-- What the text of the kinds 1 and 2 is read from. -/
def S9 (w : World) (q : Q) (w' : World) : Prop := w'.cell? ⟨w.heap.size, 1, none⟩ = some (.string q.dev) ∧ w'.cell? ⟨w.heap.size, 2, none⟩ = some (.string q.ifc) ∧ w'.cell? ⟨w.heap.size, 4, none⟩ = some (.int .u8 q.en) ∧ w'.cell? ⟨w.heap.size, 5, none⟩ = some (.bool q.permit) ∧ w'.cell? ⟨w.heap.size, 6, none⟩ = some (.int .i64 q.proto) ∧ w'.cell? ⟨w.heap.size, 7, none⟩ = some (.int .u32 q.src) ∧ w'.cell? ⟨w.heap.size, 8, none⟩ = some (.int .i64 q.sbits) ∧ w'.cell? ⟨w.heap.size, 9, none⟩ = some (.int .u32 q.dst) ∧ w'.cell? ⟨w.heap.size, 10, none⟩ = some (.int .i64 q.dbits) ∧ w'.cell? ⟨w.heap.size, 11, none⟩ = some (.int .u32 q.slo) ∧ w'.cell? ⟨w.heap.size, 12, none⟩ = some (.int .u32 q.shi) ∧ w'.cell? ⟨w.heap.size, 13, none⟩ = some (.int .u32 q.dlo) ∧ w'.cell? ⟨w.heap.size, 14, none⟩ = some (.int .u32 q.dhi)
theorem WT.s9 {w W : World} {q : Q} (H : WT w q W) : S9 w q W := ⟨H.c1, H.c2, H.c4, H.rule⟩
theorem wpAnyH_strong {P : Program} {ops : Array Oper} {Q : Exit → Act → World → Prop} {md : Region.Mode} {S S' : World → Prop} (h : ∀ w, S' w → S w) : ∀ (fuel : Nat) (listed : Array Bool) (a : Act) (w : World), wpAnyH P md ops Q S' fuel listed a w → wpAnyH P md ops Q S fuel listed a w
  | 0, _, _, _, H => H
  | fuel + 1, _, _, _, H => ⟨H.1, fun i hi => wpOp_mono (fun a' w' h' => ⟨h _ h'.1, wpAnyH_strong h fuel _ a' w' h'.2⟩) (H.2 i hi)⟩
theorem write_k1 (q : Q) (hk : q.kind = 1) (ok : q.Ok) (sm : q.Sm) (he : 1 ≤ q.en ∧ q.en ≤ 7) (w : World) : Calls Tryz.prog 11 #[.agg q.cells] w fun e w' => e = .returned (.string ⟨(wrT q).toArray⟩) ∧ Below w.heap.size w w' := by
  have hw : wrT q = [114, 101, 97, 99, 104] ++ (32 :: q.dev.data.toList ++ (32 :: q.ifc.data.toList ++ (32 :: (wordL endsL q.en).data.toList ++ pt5 q))) := by
    rw [wrT, if_neg (by omega), if_pos (by omega), if_neg (by omega), hk]
    rfl
  have HW := Lib.hid hw
  have HK := Lib.hid hk
  have H := WT.start w q
  have sd := sm.d
  have si := sm.i
  have sv := sm.v
  have c0 := H.k0 HK.out
  generalize wrT q = T at *
  generalize hA : q.cells = A at *
  clear hk hw hA
  go_enter Tryz.func11, Tryz.ntmps11
  go_upto_region 3 with (fail)
  go_cut [3] (fun v wx => v = .string ⟨#[114, 101, 97, 99, 104]⟩ ∧ WT w q wx)
  case first =>
    have H0 := H.below ⟨rfl, rfl, rfl, Nat.le_refl _, fun _ _ => rfl⟩ (W1 := (w.alloc (.cells A 41)).drew)
    go_region_with (go_at_call 28; refine (kinds28_at _).mono ?_; rintro e w1 ⟨g, rfl, hg, hb1, hc1⟩; have H1 := H0.below hb1; have hcK := hc1 0 _ rfl; have c1 := H1.k0 HK.out)
    all_goals (go_wp2_with (fail); go_meet; exact ⟨rfl, H1⟩)
  case rest =>
  obtain ⟨rfl, H1⟩ := hcut
  clear H c0
  have c0 := H1.k0 HK.out
  have c4 := H1.c4
  obtain ⟨e0, e1⟩ := he
  have e2 : ¬ q.en < 1 := by omega
  have e3 : ¬ q.en > 7 := by omega
  have e4 : IntKind.u8.wrap (q.en - 1) = q.en - 1 := by rw [IntKind.wrap_u8]; omega
  have e5 : 0 ≤ q.en - 1 := by omega
  have e6 : q.en - 1 < 7 := by omega
  have hX := wordL_at (l := endsL) (k := q.en) ⟨e0, e1⟩
  rw [show (q.en - 1).toNat = q.en.toNat - 1 by omega] at hX
  have hXl := wordL_size q.en
  generalize wordL endsL q.en = X at hX hXl HW
  have HX := Lib.hid hX
  clear hX
  obtain ⟨-, -, -, -, hl⟩ := pt_len q ok
  have n0 : ¬ 9223372036854775807 < 5 + 1 := by omega
  have n1 : ¬ 9223372036854775807 < 5 + 1 + q.dev.size := by omega
  have n2 : ¬ 9223372036854775807 < 5 + 1 + q.dev.size + 1 := by omega
  have n3 : ¬ 9223372036854775807 < 5 + 1 + q.dev.size + 1 + q.ifc.size := by omega
  have n4 : ¬ 9223372036854775807 < 5 + 1 + q.dev.size + 1 + q.ifc.size + 1 := by omega
  have n5 : ¬ 9223372036854775807 < 5 + 1 + q.dev.size + 1 + q.ifc.size + 1 + X.size := by omega
  have n6 : ¬ 9223372036854775807 < 5 + 1 + q.dev.size + 1 + q.ifc.size + 1 + X.size + (pt5 q).length := by omega
  have hpa := fun w => parts_any q ok w
  unfold Q.heads at hpa
  go_upto_region 9 with (fail)
  have H2 := H1.drew
  clear H1
  refine wp_region_held_drew (S := S9 w q) (by kernel_rfl) H2.s9 (fun hHeld => ?_)
  refine wpAnyH_take (i := 0) (oi := _) (v := ?_) rfl (by kernel_rfl) (by kernel_rfl) (by kernel_rfl) (fun _ _ _ h => h) (Or.inl ⟨by rfl, ?_⟩) (by assumption) ?_
  rotate_left
  · (intro w' hSw; obtain ⟨x1, x2, x4, x5, x6, x7, x8, x9, x10, x11, x12, x13, x14⟩ := hSw; go_simp; (try with_reducible rfl))
  try simp only [Act.put, List.setIfInBounds_toArray, List.set_cons_zero, List.set_cons_succ]
  refine wpAnyH_take (i := 1) (oi := _) (v := ?_) rfl (by kernel_rfl) (by kernel_rfl) (by kernel_rfl) (fun _ _ _ h => h) (Or.inl ⟨by rfl, ?_⟩) (by assumption) ?_
  rotate_left
  · (intro w' hSw; obtain ⟨x1, x2, x4, x5, x6, x7, x8, x9, x10, x11, x12, x13, x14⟩ := hSw; go_simp; (try with_reducible rfl))
  try simp only [Act.put, List.setIfInBounds_toArray, List.set_cons_zero, List.set_cons_succ]
  refine wpAnyH_take (i := 2) (oi := _) (v := ?_) rfl (by kernel_rfl) (by kernel_rfl) (by kernel_rfl) (fun _ _ _ h => h) (Or.inl ⟨by rfl, ?_⟩) (by assumption) ?_
  rotate_left
  · (intro w' hSw; obtain ⟨x1, x2, x4, x5, x6, x7, x8, x9, x10, x11, x12, x13, x14⟩ := hSw; go_simp; (try with_reducible rfl))
  try simp only [Act.put, List.setIfInBounds_toArray, List.set_cons_zero, List.set_cons_succ]
  refine wpAnyH_take (i := 3) (oi := _) (v := ?_) rfl (by kernel_rfl) (by kernel_rfl) (by kernel_rfl) (fun _ _ _ h => h) (Or.inl ⟨by rfl, ?_⟩) (by assumption) ?_
  rotate_left
  · (intro w' hSw; obtain ⟨x1, x2, x4, x5, x6, x7, x8, x9, x10, x11, x12, x13, x14⟩ := hSw; go_simp; (try with_reducible rfl))
  try simp only [Act.put, List.setIfInBounds_toArray, List.set_cons_zero, List.set_cons_succ]
  refine wpAnyH_take (i := 4) (oi := _) (v := ?_) rfl (by kernel_rfl) (by kernel_rfl) (by kernel_rfl) (fun _ _ _ h => h) (Or.inl ⟨by rfl, ?_⟩) (by assumption) ?_
  rotate_left
  · (intro w' hSw; obtain ⟨x1, x2, x4, x5, x6, x7, x8, x9, x10, x11, x12, x13, x14⟩ := hSw; go_simp; (try with_reducible rfl))
  try simp only [Act.put, List.setIfInBounds_toArray, List.set_cons_zero, List.set_cons_succ]
  refine wpAnyH_take (i := 5) (oi := _) (v := ?_) rfl (by kernel_rfl) (by kernel_rfl) (by kernel_rfl) (fun _ _ _ h => h) (Or.inl ⟨by rfl, ?_⟩) (by assumption) ?_
  rotate_left
  · (intro w' hSw; obtain ⟨x1, x2, x4, x5, x6, x7, x8, x9, x10, x11, x12, x13, x14⟩ := hSw; go_simp; (try with_reducible rfl))
  try simp only [Act.put, List.setIfInBounds_toArray, List.set_cons_zero, List.set_cons_succ]
  refine wpAnyH_take (i := 6) (oi := _) (v := ?_) rfl (by kernel_rfl) (by kernel_rfl) (by kernel_rfl) (fun _ _ _ h => h) (Or.inl ⟨by rfl, ?_⟩) (by assumption) ?_
  rotate_left
  · (intro w' hSw; obtain ⟨x1, x2, x4, x5, x6, x7, x8, x9, x10, x11, x12, x13, x14⟩ := hSw; go_simp; (try with_reducible rfl))
  try simp only [Act.put, List.setIfInBounds_toArray, List.set_cons_zero, List.set_cons_succ]
  refine wpAnyH_take (i := 7) (oi := _) (v := ?_) rfl (by kernel_rfl) (by kernel_rfl) (by kernel_rfl) (fun _ _ _ h => h) (Or.inl ⟨by rfl, ?_⟩) (by assumption) ?_
  rotate_left
  · (intro w' hSw; obtain ⟨x1, x2, x4, x5, x6, x7, x8, x9, x10, x11, x12, x13, x14⟩ := hSw; go_simp; (try with_reducible rfl))
  try simp only [Act.put, List.setIfInBounds_toArray, List.set_cons_zero, List.set_cons_succ]
  refine wpAnyH_take (i := 8) (oi := _) (v := ?_) rfl (by kernel_rfl) (by kernel_rfl) (by kernel_rfl) (fun _ _ _ h => h) (Or.inl ⟨by rfl, ?_⟩) (by assumption) ?_
  rotate_left
  · (intro w' hSw; obtain ⟨x1, x2, x4, x5, x6, x7, x8, x9, x10, x11, x12, x13, x14⟩ := hSw; go_simp; (try with_reducible rfl))
  try simp only [Act.put, List.setIfInBounds_toArray, List.set_cons_zero, List.set_cons_succ]
  refine wpAnyH_take (i := 9) (oi := _) (v := ?_) rfl (by kernel_rfl) (by kernel_rfl) (by kernel_rfl) (fun _ _ _ h => h) (Or.inl ⟨by rfl, ?_⟩) (by assumption) ?_
  rotate_left
  · (intro w' hSw; obtain ⟨x1, x2, x4, x5, x6, x7, x8, x9, x10, x11, x12, x13, x14⟩ := hSw; go_simp; (try with_reducible rfl))
  try simp only [Act.put, List.setIfInBounds_toArray, List.set_cons_zero, List.set_cons_succ]
  refine wpAnyH_take (i := 11) (oi := _) (v := ?_) rfl (by kernel_rfl) (by kernel_rfl) (by kernel_rfl) (fun _ _ _ h => h) (Or.inl ⟨by rfl, ?_⟩) (by assumption) ?_
  rotate_left
  · (intro w' hSw; obtain ⟨x1, x2, x4, x5, x6, x7, x8, x9, x10, x11, x12, x13, x14⟩ := hSw; go_simp; (try with_reducible rfl))
  try simp only [Act.put, List.setIfInBounds_toArray, List.set_cons_zero, List.set_cons_succ]
  refine wpAnyH_take (i := 12) (oi := _) (v := ?_) rfl (by kernel_rfl) (by kernel_rfl) (by kernel_rfl) (fun _ _ _ h => h) (Or.inl ⟨by rfl, ?_⟩) (by assumption) ?_
  rotate_left
  · (intro w' hSw; obtain ⟨x1, x2, x4, x5, x6, x7, x8, x9, x10, x11, x12, x13, x14⟩ := hSw; go_simp; (try with_reducible rfl))
  try simp only [Act.put, List.setIfInBounds_toArray, List.set_cons_zero, List.set_cons_succ]
  refine wpAnyH_take (i := 13) (oi := _) (v := ?_) rfl (by kernel_rfl) (by kernel_rfl) (by kernel_rfl) (fun _ _ _ h => h) (Or.inl ⟨by rfl, ?_⟩) (by assumption) ?_
  rotate_left
  · (intro w' hSw; obtain ⟨x1, x2, x4, x5, x6, x7, x8, x9, x10, x11, x12, x13, x14⟩ := hSw; go_simp; (try with_reducible rfl))
  try simp only [Act.put, List.setIfInBounds_toArray, List.set_cons_zero, List.set_cons_succ]
  refine wpAnyH_take (i := 17) (oi := _) (v := ?_) rfl (by kernel_rfl) (by kernel_rfl) (by kernel_rfl) (fun _ _ _ h => h) (Or.inl ⟨by rfl, ?_⟩) (by assumption) ?_
  rotate_left
  · (intro w' hSw; obtain ⟨x1, x2, x4, x5, x6, x7, x8, x9, x10, x11, x12, x13, x14⟩ := hSw; go_simp; (try with_reducible rfl))
  try simp only [Act.put, List.setIfInBounds_toArray, List.set_cons_zero, List.set_cons_succ]
  refine wpAnyH_take (i := 18) (oi := _) (v := ?_) rfl (by kernel_rfl) (by kernel_rfl) (by kernel_rfl) (fun _ _ _ h => h) (Or.inl ⟨by rfl, ?_⟩) (by assumption) ?_
  rotate_left
  · (intro w' hSw; obtain ⟨x1, x2, x4, x5, x6, x7, x8, x9, x10, x11, x12, x13, x14⟩ := hSw; go_simp; (try with_reducible rfl))
  try simp only [Act.put, List.setIfInBounds_toArray, List.set_cons_zero, List.set_cons_succ]
  refine wpAnyH_ready (rs := [10]) (by kernel_rfl) (by simp) ?_
  refine AllReadyH.cons rfl (fun K hK => ?_) AllReadyH.nil
  go_simp
  (go_at_call 29; refine (ends29_at _).mono ?_; rintro e w3 ⟨g, rfl, hg, hb3, hc3⟩)
  have H3 := H2.below hb3
  have hg9 := hc3 _ _ HX.out
  refine hK.out _ _ H3.s9 (fun hHeld2 => ?_)
  clear hK K hHeld hc3
  try simp only [Act.put, List.setIfInBounds_toArray, List.set_cons_zero, List.set_cons_succ]
  refine wpAnyH_strong (S' := fun w' => S9 w q w' ∧ w'.cell? ⟨g, q.en.toNat - 1, none⟩ = some (.string X)) (fun _ h => h.1) _ _ _ _ ?_
  have hHeld3 : S9 w q w3 ∧ w3.cell? ⟨g, q.en.toNat - 1, none⟩ = some (.string X) := ⟨hHeld2, hg9⟩
  refine wpAnyH_take (i := 14) (oi := _) (v := ?_) rfl (by kernel_rfl) (by kernel_rfl) (by kernel_rfl) (fun _ _ _ h => h) (Or.inl ⟨by rfl, ?_⟩) (by assumption) ?_
  rotate_left
  · (intro w' hSw; obtain ⟨hSw, hg9⟩ := hSw; obtain ⟨x1, x2, x4, x5, x6, x7, x8, x9, x10, x11, x12, x13, x14⟩ := hSw; go_simp; (try with_reducible rfl))
  try simp only [Act.put, List.setIfInBounds_toArray, List.set_cons_zero, List.set_cons_succ]
  refine wpAnyH_take (i := 15) (oi := _) (v := ?_) rfl (by kernel_rfl) (by kernel_rfl) (by kernel_rfl) (fun _ _ _ h => h) (Or.inl ⟨by rfl, ?_⟩) (by assumption) ?_
  rotate_left
  · (intro w' hSw; obtain ⟨hSw, hg9⟩ := hSw; obtain ⟨x1, x2, x4, x5, x6, x7, x8, x9, x10, x11, x12, x13, x14⟩ := hSw; go_simp; (try with_reducible rfl))
  try simp only [Act.put, List.setIfInBounds_toArray, List.set_cons_zero, List.set_cons_succ]
  refine wpAnyH_take (i := 16) (oi := _) (v := ?_) rfl (by kernel_rfl) (by kernel_rfl) (by kernel_rfl) (fun _ _ _ h => h) (Or.inl ⟨by rfl, ?_⟩) (by assumption) ?_
  rotate_left
  · (intro w' hSw; obtain ⟨hSw, hg9⟩ := hSw; obtain ⟨x1, x2, x4, x5, x6, x7, x8, x9, x10, x11, x12, x13, x14⟩ := hSw; go_simp; (try with_reducible rfl))
  try simp only [Act.put, List.setIfInBounds_toArray, List.set_cons_zero, List.set_cons_succ]
  refine wpAnyH_ready (rs := [19]) (by kernel_rfl) (by simp) ?_
  refine AllReadyH.cons rfl (fun K hK => ?_) AllReadyH.nil
  go_simp
  (go_at_call 46; refine (hpa _).mono ?_; rintro e w4 ⟨rfl, hb4⟩)
  have H4 := H3.below hb4
  have hg10 : w4.cell? ⟨g, q.en.toNat - 1, none⟩ = some (.string X) := (hb4.cell (p := ⟨g, q.en.toNat - 1, none⟩) hg).trans hg9
  refine hK.out _ _ ⟨H4.s9, hg10⟩ (fun hHeld4 => ?_)
  clear hK K hHeld3 hHeld2
  try simp only [Act.put, List.setIfInBounds_toArray, List.set_cons_zero, List.set_cons_succ]
  refine wpAnyH_take (i := 20) (oi := _) (v := ?_) rfl (by kernel_rfl) (by kernel_rfl) (by kernel_rfl) (fun _ _ _ h => h) (Or.inl ⟨by rfl, ?_⟩) (by assumption) ?_
  rotate_left
  · (intro w' hSw; obtain ⟨hSw, hg9⟩ := hSw; obtain ⟨x1, x2, x4, x5, x6, x7, x8, x9, x10, x11, x12, x13, x14⟩ := hSw; go_simp; (try with_reducible rfl))
  try simp only [Act.put, List.setIfInBounds_toArray, List.set_cons_zero, List.set_cons_succ]
  refine wpAnyH_take (i := 21) (oi := _) (v := ?_) rfl (by kernel_rfl) (by kernel_rfl) (by kernel_rfl) (fun _ _ _ h => h) (Or.inl ⟨by rfl, ?_⟩) (by assumption) ?_
  rotate_left
  · (intro w' hSw; obtain ⟨hSw, hg9⟩ := hSw; obtain ⟨x1, x2, x4, x5, x6, x7, x8, x9, x10, x11, x12, x13, x14⟩ := hSw; go_simp; (try with_reducible rfl))
  try simp only [Act.put, List.setIfInBounds_toArray, List.set_cons_zero, List.set_cons_succ]
  refine wpAnyH_done (by kernel_rfl) ?_ _
  go_wp2
  go_ret
  exact ⟨ret_str (by rw [HW.out]; simp), H4.bel⟩
theorem write_k1b0 (q : Q) (hk : q.kind = 1) (ok : q.Ok) (sm : q.Sm) (he : q.en < 1) (w : World) : Calls Tryz.prog 11 #[.agg q.cells] w fun e w' => e = .returned (.string ⟨(wrT q).toArray⟩) ∧ Below w.heap.size w w' := by
  have hw : wrT q = [] := by
    rw [wrT, if_neg (by omega), if_pos (by omega), if_pos (by omega)]
  have HW := Lib.hid hw
  have HK := Lib.hid hk
  have H := WT.start w q
  have sd := sm.d
  have si := sm.i
  have sv := sm.v
  have c0 := H.k0 HK.out
  generalize wrT q = T at *
  generalize hA : q.cells = A at *
  clear hk hw hA
  go_enter Tryz.func11, Tryz.ntmps11
  go_upto_region 3 with (fail)
  go_cut [3] (fun v wx => v = .string ⟨#[114, 101, 97, 99, 104]⟩ ∧ WT w q wx)
  case first =>
    have H0 := H.below ⟨rfl, rfl, rfl, Nat.le_refl _, fun _ _ => rfl⟩ (W1 := (w.alloc (.cells A 41)).drew)
    go_region_with (go_at_call 28; refine (kinds28_at _).mono ?_; rintro e w1 ⟨g, rfl, hg, hb1, hc1⟩; have H1 := H0.below hb1; have hcK := hc1 0 _ rfl; have c1 := H1.k0 HK.out)
    all_goals (go_wp2_with (fail); go_meet; exact ⟨rfl, H1⟩)
  case rest =>
  obtain ⟨rfl, H1⟩ := hcut
  clear H c0
  have c0 := H1.k0 HK.out
  have c4 := H1.c4
  have hB := H1.bel
  have e0 := ok.e0
  have e1 := ok.e1
  have e3 : q.en < 1 := he
  go_wp2
  go_ret
  exact ⟨ret_str (by rw [HW.out]), hB⟩
theorem write_k1b1 (q : Q) (hk : q.kind = 1) (ok : q.Ok) (sm : q.Sm) (he : 7 < q.en) (w : World) : Calls Tryz.prog 11 #[.agg q.cells] w fun e w' => e = .returned (.string ⟨(wrT q).toArray⟩) ∧ Below w.heap.size w w' := by
  have hw : wrT q = [] := by
    rw [wrT, if_neg (by omega), if_pos (by omega), if_pos (by omega)]
  have HW := Lib.hid hw
  have HK := Lib.hid hk
  have H := WT.start w q
  have sd := sm.d
  have si := sm.i
  have sv := sm.v
  have c0 := H.k0 HK.out
  generalize wrT q = T at *
  generalize hA : q.cells = A at *
  clear hk hw hA
  go_enter Tryz.func11, Tryz.ntmps11
  go_upto_region 3 with (fail)
  go_cut [3] (fun v wx => v = .string ⟨#[114, 101, 97, 99, 104]⟩ ∧ WT w q wx)
  case first =>
    have H0 := H.below ⟨rfl, rfl, rfl, Nat.le_refl _, fun _ _ => rfl⟩ (W1 := (w.alloc (.cells A 41)).drew)
    go_region_with (go_at_call 28; refine (kinds28_at _).mono ?_; rintro e w1 ⟨g, rfl, hg, hb1, hc1⟩; have H1 := H0.below hb1; have hcK := hc1 0 _ rfl; have c1 := H1.k0 HK.out)
    all_goals (go_wp2_with (fail); go_meet; exact ⟨rfl, H1⟩)
  case rest =>
  obtain ⟨rfl, H1⟩ := hcut
  clear H c0
  have c0 := H1.k0 HK.out
  have c4 := H1.c4
  have hB := H1.bel
  have e0 := ok.e0
  have e1 := ok.e1
  have e2 : ¬ q.en < 1 := by omega
  have e3 : q.en > 7 := he
  go_wp2
  go_ret
  exact ⟨ret_str (by rw [HW.out]), hB⟩
end Go.Proofs.YtopccnoinngmbaaGreatDoor
