/-
  The reference's Parse walked: the kind 1
  The reference's Parse walked: the kind 2
-/
import Derived.Test.YtopccnoinngmbaaGreatDoorA36

/- The reference's Parse walked: the kind 1 -/
namespace Go.Proofs.YtopccnoinngmbaaGreatDoor
open Go.RowKit
set_option maxRecDepth 100000
set_option maxHeartbeats 16000000
set_option linter.unusedVariables false
set_option linter.unusedSimpArgs false

theorem rparse_k1 {u1 u7 u8 u9 u10 u11 u12 u13 u14 u15 u16 u17 u18 u19 u20 u21 u22 u23 u24 u25 u26 u27 u28 u29 u30 u31 u32 u33 u34 u35 u36 u37 u38 u39 u40 u41 u42 u43 u44 u45 u46 u47 u48 u49 u50 u51 u52 u53 u54 u55 u56 u57 u58 u59 u60 u61 u62 u63 u64 u65 u66 u67 u68 u69 u70 u71 u72 u73 u74 u75 u76 u77 u78 u79 u80 u81 u82 u83 u84 u85 u86 u87 u88 u89 u90 u91 u92 u93 u94 u95 u96 u97 u98 u99 u100 u101 u102 u103 u104 u105 u106 u107 u108 u109 u110 u111 u112 u113 u114 u115 u116 u117 u118 u119 u120 u121 u122 u123 u124 u125 u126 u127 u128 u129 u130 u131 u132 u133 u134 u135 u136 u137 u138 u139 u140 u141 u142 u143 u144 u145 u146 u147 u148 u149 u150 u151 u152 u153 u154 u155 u156 u157 u158 u159 u160 u161 u162 u163 u164 u165 u166 u167 u168 u169 u170 u171 u172 u173 u174 u175 u176 u177 u178 u179 u180 u181 u182 u183 u184 u185 u186 u187 u188 u189 u190 u191 u192 u193 u194 u195 u196 u197 u198 u199 u200 u201 u202 u203 u204 u205 u206 u207 u208 u209 u210 u211 u212 u213 u214 u215 u216 u217 u218 u219 u220 u221 u222 u223 u224 u225 u226 u227 u228 u229 u230 u231 u232 u233 u234 : Value} {s : ByteArray} {w wx : World} {b o qa n c : Nat} {ws : List ByteArray} {q : Q} {out : Value} {K1 : Act → World → Prop} (HK : Hid (∀ a w', Code.wp Tryz.prog cREnd (bodyPost Tryz.prog Tryz.f5 (Rq w out)) a w' → K1 a w')) (H : RI w b o ws qa q wx)
    (hz : Hid (q = { Q.zero with kind := 1 })) (hn : ws.length = n) (hm : n ≤ 4194305) (hsm : Hid (∀ x ∈ ws, x.size ≤ 4194304)) (HO : Hid ((if n < 4 then Value.tuple #[.agg Q.zero.cells, .int .i64 4] else outR (rTail (decide (0 < pl endsL (ws.getD 3 ⟨#[]⟩))) ws 4 { Q.zero with kind := 1, dev := ws.getD 1 ⟨#[]⟩, ifc := ws.getD 2 ⟨#[]⟩, en := pl endsL (ws.getD 3 ⟨#[]⟩), permit := true, proto := -1, src := 0, sbits := 0, dst := 0, dbits := 0, slo := 0, shi := 65535, dlo := 0, dhi := 65535 }).2 (rTail (decide (0 < pl endsL (ws.getD 3 ⟨#[]⟩))) ws 4 { Q.zero with kind := 1, dev := ws.getD 1 ⟨#[]⟩, ifc := ws.getD 2 ⟨#[]⟩, en := pl endsL (ws.getD 3 ⟨#[]⟩), permit := true, proto := -1, src := 0, sbits := 0, dst := 0, dbits := 0, slo := 0, shi := 65535, dlo := 0, dhi := 65535 }).1 s) = out)) :
    Code.wp Tryz.prog cRBlock (Exit.then K1 (bodyPost Tryz.prog Tryz.f5 (Rq w out))) ⟨#[.string s, u1, .pointer (some ⟨w.heap.size, 0, none⟩), .int .i64 0, .slice (some ⟨b, o, none⟩) n c, .pointer (some ⟨qa, 0, none⟩), .bool true, u7, u8, u9, u10, u11, u12, u13, u14, u15, u16, u17, u18, u19, u20, u21, u22, u23, u24, u25, u26, u27, u28, u29, u30, u31, u32, u33, u34, u35, u36, u37, u38, u39, u40, u41, u42, u43, u44, u45, u46, u47, u48, u49, u50, u51, u52, u53, u54, u55, u56, u57, u58, u59, u60, u61, u62, u63, u64, u65, u66, u67, u68, u69, u70, u71, u72, u73, u74, u75, u76, u77, u78, u79, u80, u81, u82, u83, u84, u85, u86, u87, u88, u89, u90, u91, u92, u93, u94, u95, u96, u97, u98, u99, u100, u101, u102, u103, u104, u105, u106, u107, u108, u109, u110, u111, u112, u113, u114, u115, u116, u117, u118, u119, u120, u121, u122, u123, u124, u125, u126, u127, u128, u129, u130, u131, u132, u133, u134, u135, u136, u137, u138, u139, u140, u141, u142, u143, u144, u145, u146, u147, u148, u149, u150, u151, u152, u153, u154, u155, u156, u157, u158, u159, u160, u161, u162, u163, u164, u165, u166, u167, u168, u169, u170, u171, u172, u173, u174, u175, u176, u177, u178, u179, u180, u181, u182, u183, u184, u185, u186, u187, u188, u189, u190, u191, u192, u193, u194, u195, u196, u197, u198, u199, u200, u201, u202, u203, u204, u205, u206, u207, u208, u209, u210, u211, u212, u213, u214, u215, u216, u217, u218, u219, u220, u221, u222, u223, u224, u225, u226, u227, u228, u229, u230, u231, u232, u233, u234], []⟩ wx := by
  unfold cRBlock
  conv => arg 2; whnf
  have HN := Lib.hid hn
  have c0 := H.k0 (κ := 1) (by rw [hz.out])
  clear hn
  by_cases hnm : n < 4
  · replace HO := Lib.hid ((if_pos hnm).symm.trans HO.out)
    have hl : (n : Int) < 4 := by omega
    go_upto_region 10 with ((with_reducible refine wpList_is (o := ⟨none, .store 29 (.tmp 36) (.tmp 35), _, _, _, _⟩) ?_); refine wp_setRule5 rfl (.tmp 36) (.tmp 35) rfl rfl rfl rfl H ?_; intro w7 H7; have c0 := H7.k0 (κ := 1) (by rw [hz.out]); have c1 := H7.c1; have f1 := H7.free 1; have c2 := H7.c2; have f2 := H7.free 2; have hlt := lt_of_block H7.q)
    have hlt := lt_of_block H7.q
    go_wp2_with ((with_reducible refine wpList_is (o := ⟨none, .store 41 (.tmp 2) (.tmp 44), _, _, _, _⟩) ?_); refine wpList_store_row (P := Tryz.prog) rfl 41 (.tmp 2) (.tmp 44) rfl w.heap.size Q.zero.cells rfl rfl 41 Q.zero.cells H7.res (by kernel_rfl) rfl (Q.one Q.zero) ?_; dsimp only [Act.put])
    have hr := fun (tm : Array Value) h2 h3 => results5_row (tmps := tm) (e := 4) h2 h3 (H7.res_row Q.zero.cells) rfl
    refine bodyPost_ret (hr _ rfl rfl) rfl ?_
    exact ⟨congrArg _ HO.out, H7.res_bel _⟩
  · replace HO := Lib.hid ((if_neg hnm).symm.trans HO.out)
    have hl : ¬ ((n : Int) < 4) := by omega
    obtain ⟨x1, hx1⟩ : ∃ x, ws[1]? = some x := ⟨ws[1]'(by have := HN.out; omega), by simp⟩
    have w1 := H.word hx1
    have z1 := hsm.out x1 (List.mem_of_getElem? hx1)
    have X1 := Lib.hid hx1
    clear hx1
    obtain ⟨x2, hx2⟩ : ∃ x, ws[2]? = some x := ⟨ws[2]'(by have := HN.out; omega), by simp⟩
    have w2 := H.word hx2
    have z2 := hsm.out x2 (List.mem_of_getElem? hx2)
    have X2 := Lib.hid hx2
    clear hx2
    obtain ⟨x3, hx3⟩ : ∃ x, ws[3]? = some x := ⟨ws[3]'(by have := HN.out; omega), by simp⟩
    have w3 := H.word hx3
    have z3 := hsm.out x3 (List.mem_of_getElem? hx3)
    have X3 := Lib.hid hx3
    clear hx3
    rw [show ws.getD 1 ⟨#[]⟩ = x1 by simp [List.getD_eq_getElem?_getD, X1.out], show ws.getD 2 ⟨#[]⟩ = x2 by simp [List.getD_eq_getElem?_getD, X2.out], show ws.getD 3 ⟨#[]⟩ = x3 by simp [List.getD_eq_getElem?_getD, X3.out]] at HO
    obtain ⟨v, hv⟩ : ∃ v, pl endsL x3 = v := ⟨_, rfl⟩
    have v0 := (pl_bounds endsL x3).1
    have v1 := pl_le7 endsL x3
    rw [hv] at HO v0 v1
    have v2 : v ≤ 7 := v1
    clear v1
    have HV := Lib.hid hv
    clear hv
    go_upto_region 14 with ((with_reducible refine wpList_is (o := ⟨none, .store 29 (.tmp 36) (.tmp 35), _, _, _, _⟩) ?_); refine wp_setRule5 rfl (.tmp 36) (.tmp 35) rfl rfl rfl rfl H ?_; intro w7 H7; have c0 := H7.k0 (κ := 1) (by rw [hz.out]); have c1 := H7.c1; have f1 := H7.free 1; have c2 := H7.c2; have f2 := H7.free 2; have hlt := lt_of_block H7.q; have w1 := H7.word X1.out; have w2 := H7.word X2.out)
    have H8 := (H7.set (q' := { q with dev := x1, permit := true, proto := -1, src := 0, sbits := 0, dst := 0, dbits := 0, slo := 0, shi := 65535, dlo := 0, dhi := 65535 }) 1 (.string x1) rfl).set (q' := { q with dev := x1, ifc := x2, permit := true, proto := -1, src := 0, sbits := 0, dst := 0, dbits := 0, slo := 0, shi := 65535, dlo := 0, dhi := 65535 }) 2 (.string x2) rfl
    rw [hz.out] at H8
    generalize World.setCell _ ⟨qa, 2, none⟩ _ = w8 at H8 ⊢
    clear H7 H c0 c1 f1 c2 f2 w1 w2 w3 hlt
    go_cut [] (fun wx => RI w b o ws qa ({ Q.zero with kind := 1, dev := x1, ifc := x2, en := v, permit := true, proto := -1, src := 0, sbits := 0, dst := 0, dbits := 0, slo := 0, shi := 65535, dlo := 0, dhi := 65535 }) wx)
    case first =>
      have hea := ends29_any
      have h3n : (3 : Int) < n := by omega
      have hlt := lt_of_block H8.q
      have HD8 := H8.drew
      generalize hwd : w8.drew = wd8 at HD8
      have HN8 := HD8.new (.cells ((strs endsL).map Value.string).toArray 9)
      have w3n := HN8.word X3.out
      have c4n := HN8.c4
      have f4n := HN8.free 4
      have ss1 := ss_new endsL wd8
      generalize ((strs endsL).map Value.string).toArray = EA at HN8 w3n c4n f4n ss1 hea
      have S0 : wd8.cell? ⟨b, o + 3, none⟩ = some (.string x3) := HD8.word X3.out
      refine wp_region_held_drew (S := fun w' => w'.cell? ⟨b, o + 3, none⟩ = some (.string x3)) (by kernel_rfl) (by rw [hwd]; exact S0) (fun _ => ?_)
      rw [hwd]

      refine wpAnyH_take (i := 1) (oi := _) (v := ?_) rfl (by kernel_rfl) (by kernel_rfl) (by kernel_rfl) (fun _ _ _ h => h) (Or.inl ⟨by rfl, ?_⟩) (by assumption) ?_
      rotate_left
      · (intro w' hSw; (try dsimp only at hSw); go_simp; (try with_reducible rfl))
      try simp only [Act.put, List.setIfInBounds_toArray, List.set_cons_zero, List.set_cons_succ]
      refine wpAnyH_take (i := 2) (oi := _) (v := ?_) rfl (by kernel_rfl) (by kernel_rfl) (by kernel_rfl) (fun _ _ _ h => h) (Or.inl ⟨by rfl, ?_⟩) (by assumption) ?_
      rotate_left
      · (intro w' hSw; (try dsimp only at hSw); go_simp; (try with_reducible rfl))
      try simp only [Act.put, List.setIfInBounds_toArray, List.set_cons_zero, List.set_cons_succ]
      refine wpAnyH_take (i := 3) (oi := _) (v := ?_) rfl (by kernel_rfl) (by kernel_rfl) (by kernel_rfl) (fun _ _ _ h => h) (Or.inl ⟨by rfl, ?_⟩) (by assumption) ?_
      rotate_left
      · (intro w' hSw; (try dsimp only at hSw); go_simp; (try with_reducible rfl))
      try simp only [Act.put, List.setIfInBounds_toArray, List.set_cons_zero, List.set_cons_succ]
      refine wpAnyH_ready (rs := [0]) (by kernel_rfl) (by simp) ?_
      refine AllReadyH.cons rfl (fun K hK => ?_) AllReadyH.nil
      go_simp
      (go_at_call 29; refine (hea _).mono ?_; rintro e w5 ⟨rfl, rfl⟩)
      refine hK.out _ _ w3n (fun hHeld2 => ?_)
      clear hK K
      try simp only [Act.put, List.setIfInBounds_toArray, List.set_cons_zero, List.set_cons_succ]
      refine wpAnyH_ready (rs := [4]) (by kernel_rfl) (by simp) ?_
      refine AllReadyH.cons rfl (fun K hK => ?_) AllReadyH.nil
      go_simp
      (go_at_call 27; refine (at_as (c := 7) (n := 7) HV.out rfl ss1).mono ?_; rintro e w6 ⟨rfl, rfl⟩)
      refine hK.out _ _ w3n (fun hHeld3 => ?_)
      clear hK K
      try simp only [Act.put, List.setIfInBounds_toArray, List.set_cons_zero, List.set_cons_succ]
      refine wpAnyH_take (i := 5) (oi := _) (v := ?_) rfl (by kernel_rfl) (by kernel_rfl) (by kernel_rfl) (fun _ _ _ h => h) (Or.inl ⟨by rfl, ?_⟩) (by assumption) ?_
      rotate_left
      · (intro w' hSw; (try dsimp only at hSw); go_simp; (try with_reducible rfl))
      try simp only [Act.put, List.setIfInBounds_toArray, List.set_cons_zero, List.set_cons_succ]
      refine wpAnyH_ready (rs := [6]) (by kernel_rfl) (by simp) ?_
      refine AllReadyH.cons rfl (fun K hK => ?_) AllReadyH.nil
      go_simp
      have HF := HN8.set (q' := { Q.zero with kind := 1, dev := x1, ifc := x2, en := v, permit := true, proto := -1, src := 0, sbits := 0, dst := 0, dbits := 0, slo := 0, shi := 65535, dlo := 0, dhi := 65535 }) 4 (.int .u8 v) rfl
      refine hK.out _ _ (HF.word X3.out) (fun hHeld4 => ?_)
      clear hK K
      try simp only [Act.put, List.setIfInBounds_toArray, List.set_cons_zero, List.set_cons_succ]
      refine wpAnyH_done (by kernel_rfl) ?_ _
      go_wp2_with (fail)
      go_meet
      exact HF
    case rest =>
    have H10 := hcut
    clear hcut H8
    obtain ⟨okE, hokE⟩ : ∃ okE, decide (0 < v) = okE := ⟨_, rfl⟩
    rw [hokE] at HO
    have HE := Lib.hid hokE
    clear hokE
    have c4 := H10.c4
    replace c4 : World.cell? _ ⟨qa, 4, none⟩ = some (Value.int .u8 v) := c4
    go_upto_region 15 with (fail)
    go_cut [6] (fun r wx' => r = .bool okE ∧ RI w b o ws qa ({ Q.zero with kind := 1, dev := x1, ifc := x2, en := v, permit := true, proto := -1, src := 0, sbits := 0, dst := 0, dbits := 0, slo := 0, shi := 65535, dlo := 0, dhi := 65535 }) wx')
    case first =>
      go_wp2
      go_meet
      exact ⟨congrArg Value.bool HE.out, H10⟩
    case rest =>
    clear H10
    obtain ⟨rfl, H10⟩ := hcut
    try apply_assumption
    exact rparse_tail (m := 4) HK H10 (Q.okh 1 v (by decide) (by decide) v0 (by omega) x1 x2) ⟨z1, z2, Nat.zero_le _⟩ HN hm (by omega) hsm HO
end Go.Proofs.YtopccnoinngmbaaGreatDoor

/- The reference's Parse walked: the kind 2 -/
namespace Go.Proofs.YtopccnoinngmbaaGreatDoor
open Go.RowKit
set_option maxRecDepth 100000
set_option maxHeartbeats 16000000
set_option linter.unusedVariables false
set_option linter.unusedSimpArgs false

theorem rparse_k2 {u1 u7 u8 u9 u10 u11 u12 u13 u14 u15 u16 u17 u18 u19 u20 u21 u22 u23 u24 u25 u26 u27 u28 u29 u30 u31 u32 u33 u34 u35 u36 u37 u38 u39 u40 u41 u42 u43 u44 u45 u46 u47 u48 u49 u50 u51 u52 u53 u54 u55 u56 u57 u58 u59 u60 u61 u62 u63 u64 u65 u66 u67 u68 u69 u70 u71 u72 u73 u74 u75 u76 u77 u78 u79 u80 u81 u82 u83 u84 u85 u86 u87 u88 u89 u90 u91 u92 u93 u94 u95 u96 u97 u98 u99 u100 u101 u102 u103 u104 u105 u106 u107 u108 u109 u110 u111 u112 u113 u114 u115 u116 u117 u118 u119 u120 u121 u122 u123 u124 u125 u126 u127 u128 u129 u130 u131 u132 u133 u134 u135 u136 u137 u138 u139 u140 u141 u142 u143 u144 u145 u146 u147 u148 u149 u150 u151 u152 u153 u154 u155 u156 u157 u158 u159 u160 u161 u162 u163 u164 u165 u166 u167 u168 u169 u170 u171 u172 u173 u174 u175 u176 u177 u178 u179 u180 u181 u182 u183 u184 u185 u186 u187 u188 u189 u190 u191 u192 u193 u194 u195 u196 u197 u198 u199 u200 u201 u202 u203 u204 u205 u206 u207 u208 u209 u210 u211 u212 u213 u214 u215 u216 u217 u218 u219 u220 u221 u222 u223 u224 u225 u226 u227 u228 u229 u230 u231 u232 u233 u234 : Value} {s : ByteArray} {w wx : World} {b o qa n c : Nat} {ws : List ByteArray} {q : Q} {out : Value} {K1 : Act → World → Prop} (HK : Hid (∀ a w', Code.wp Tryz.prog cREnd (bodyPost Tryz.prog Tryz.f5 (Rq w out)) a w' → K1 a w')) (H : RI w b o ws qa q wx)
    (hz : Hid (q = { Q.zero with kind := 2 })) (hn : ws.length = n) (hm : n ≤ 4194305) (hsm : Hid (∀ x ∈ ws, x.size ≤ 4194304)) (HO : Hid ((if n < 4 then Value.tuple #[.agg Q.zero.cells, .int .i64 4] else outR (rTail (decide (0 < pl endsL (ws.getD 3 ⟨#[]⟩))) ws 4 { Q.zero with kind := 2, dev := ws.getD 1 ⟨#[]⟩, ifc := ws.getD 2 ⟨#[]⟩, en := pl endsL (ws.getD 3 ⟨#[]⟩), permit := true, proto := -1, src := 0, sbits := 0, dst := 0, dbits := 0, slo := 0, shi := 65535, dlo := 0, dhi := 65535 }).2 (rTail (decide (0 < pl endsL (ws.getD 3 ⟨#[]⟩))) ws 4 { Q.zero with kind := 2, dev := ws.getD 1 ⟨#[]⟩, ifc := ws.getD 2 ⟨#[]⟩, en := pl endsL (ws.getD 3 ⟨#[]⟩), permit := true, proto := -1, src := 0, sbits := 0, dst := 0, dbits := 0, slo := 0, shi := 65535, dlo := 0, dhi := 65535 }).1 s) = out)) :
    Code.wp Tryz.prog cRBlock (Exit.then K1 (bodyPost Tryz.prog Tryz.f5 (Rq w out))) ⟨#[.string s, u1, .pointer (some ⟨w.heap.size, 0, none⟩), .int .i64 0, .slice (some ⟨b, o, none⟩) n c, .pointer (some ⟨qa, 0, none⟩), .bool true, u7, u8, u9, u10, u11, u12, u13, u14, u15, u16, u17, u18, u19, u20, u21, u22, u23, u24, u25, u26, u27, u28, u29, u30, u31, u32, u33, u34, u35, u36, u37, u38, u39, u40, u41, u42, u43, u44, u45, u46, u47, u48, u49, u50, u51, u52, u53, u54, u55, u56, u57, u58, u59, u60, u61, u62, u63, u64, u65, u66, u67, u68, u69, u70, u71, u72, u73, u74, u75, u76, u77, u78, u79, u80, u81, u82, u83, u84, u85, u86, u87, u88, u89, u90, u91, u92, u93, u94, u95, u96, u97, u98, u99, u100, u101, u102, u103, u104, u105, u106, u107, u108, u109, u110, u111, u112, u113, u114, u115, u116, u117, u118, u119, u120, u121, u122, u123, u124, u125, u126, u127, u128, u129, u130, u131, u132, u133, u134, u135, u136, u137, u138, u139, u140, u141, u142, u143, u144, u145, u146, u147, u148, u149, u150, u151, u152, u153, u154, u155, u156, u157, u158, u159, u160, u161, u162, u163, u164, u165, u166, u167, u168, u169, u170, u171, u172, u173, u174, u175, u176, u177, u178, u179, u180, u181, u182, u183, u184, u185, u186, u187, u188, u189, u190, u191, u192, u193, u194, u195, u196, u197, u198, u199, u200, u201, u202, u203, u204, u205, u206, u207, u208, u209, u210, u211, u212, u213, u214, u215, u216, u217, u218, u219, u220, u221, u222, u223, u224, u225, u226, u227, u228, u229, u230, u231, u232, u233, u234], []⟩ wx := by
  unfold cRBlock
  conv => arg 2; whnf
  have HN := Lib.hid hn
  have c0 := H.k0 (κ := 2) (by rw [hz.out])
  clear hn
  by_cases hnm : n < 4
  · replace HO := Lib.hid ((if_pos hnm).symm.trans HO.out)
    have hl : (n : Int) < 4 := by omega
    go_upto_region 10 with ((with_reducible refine wpList_is (o := ⟨none, .store 29 (.tmp 36) (.tmp 35), _, _, _, _⟩) ?_); refine wp_setRule5 rfl (.tmp 36) (.tmp 35) rfl rfl rfl rfl H ?_; intro w7 H7; have c0 := H7.k0 (κ := 2) (by rw [hz.out]); have c1 := H7.c1; have f1 := H7.free 1; have c2 := H7.c2; have f2 := H7.free 2; have hlt := lt_of_block H7.q)
    have hlt := lt_of_block H7.q
    go_wp2_with ((with_reducible refine wpList_is (o := ⟨none, .store 41 (.tmp 2) (.tmp 44), _, _, _, _⟩) ?_); refine wpList_store_row (P := Tryz.prog) rfl 41 (.tmp 2) (.tmp 44) rfl w.heap.size Q.zero.cells rfl rfl 41 Q.zero.cells H7.res (by kernel_rfl) rfl (Q.one Q.zero) ?_; dsimp only [Act.put])
    have hr := fun (tm : Array Value) h2 h3 => results5_row (tmps := tm) (e := 4) h2 h3 (H7.res_row Q.zero.cells) rfl
    refine bodyPost_ret (hr _ rfl rfl) rfl ?_
    exact ⟨congrArg _ HO.out, H7.res_bel _⟩
  · replace HO := Lib.hid ((if_neg hnm).symm.trans HO.out)
    have hl : ¬ ((n : Int) < 4) := by omega
    obtain ⟨x1, hx1⟩ : ∃ x, ws[1]? = some x := ⟨ws[1]'(by have := HN.out; omega), by simp⟩
    have w1 := H.word hx1
    have z1 := hsm.out x1 (List.mem_of_getElem? hx1)
    have X1 := Lib.hid hx1
    clear hx1
    obtain ⟨x2, hx2⟩ : ∃ x, ws[2]? = some x := ⟨ws[2]'(by have := HN.out; omega), by simp⟩
    have w2 := H.word hx2
    have z2 := hsm.out x2 (List.mem_of_getElem? hx2)
    have X2 := Lib.hid hx2
    clear hx2
    obtain ⟨x3, hx3⟩ : ∃ x, ws[3]? = some x := ⟨ws[3]'(by have := HN.out; omega), by simp⟩
    have w3 := H.word hx3
    have z3 := hsm.out x3 (List.mem_of_getElem? hx3)
    have X3 := Lib.hid hx3
    clear hx3
    rw [show ws.getD 1 ⟨#[]⟩ = x1 by simp [List.getD_eq_getElem?_getD, X1.out], show ws.getD 2 ⟨#[]⟩ = x2 by simp [List.getD_eq_getElem?_getD, X2.out], show ws.getD 3 ⟨#[]⟩ = x3 by simp [List.getD_eq_getElem?_getD, X3.out]] at HO
    obtain ⟨v, hv⟩ : ∃ v, pl endsL x3 = v := ⟨_, rfl⟩
    have v0 := (pl_bounds endsL x3).1
    have v1 := pl_le7 endsL x3
    rw [hv] at HO v0 v1
    have v2 : v ≤ 7 := v1
    clear v1
    have HV := Lib.hid hv
    clear hv
    go_upto_region 14 with ((with_reducible refine wpList_is (o := ⟨none, .store 29 (.tmp 36) (.tmp 35), _, _, _, _⟩) ?_); refine wp_setRule5 rfl (.tmp 36) (.tmp 35) rfl rfl rfl rfl H ?_; intro w7 H7; have c0 := H7.k0 (κ := 2) (by rw [hz.out]); have c1 := H7.c1; have f1 := H7.free 1; have c2 := H7.c2; have f2 := H7.free 2; have hlt := lt_of_block H7.q; have w1 := H7.word X1.out; have w2 := H7.word X2.out)
    have H8 := (H7.set (q' := { q with dev := x1, permit := true, proto := -1, src := 0, sbits := 0, dst := 0, dbits := 0, slo := 0, shi := 65535, dlo := 0, dhi := 65535 }) 1 (.string x1) rfl).set (q' := { q with dev := x1, ifc := x2, permit := true, proto := -1, src := 0, sbits := 0, dst := 0, dbits := 0, slo := 0, shi := 65535, dlo := 0, dhi := 65535 }) 2 (.string x2) rfl
    rw [hz.out] at H8
    generalize World.setCell _ ⟨qa, 2, none⟩ _ = w8 at H8 ⊢
    clear H7 H c0 c1 f1 c2 f2 w1 w2 w3 hlt
    go_cut [] (fun wx => RI w b o ws qa ({ Q.zero with kind := 2, dev := x1, ifc := x2, en := v, permit := true, proto := -1, src := 0, sbits := 0, dst := 0, dbits := 0, slo := 0, shi := 65535, dlo := 0, dhi := 65535 }) wx)
    case first =>
      have hea := ends29_any
      have h3n : (3 : Int) < n := by omega
      have hlt := lt_of_block H8.q
      have HD8 := H8.drew
      generalize hwd : w8.drew = wd8 at HD8
      have HN8 := HD8.new (.cells ((strs endsL).map Value.string).toArray 9)
      have w3n := HN8.word X3.out
      have c4n := HN8.c4
      have f4n := HN8.free 4
      have ss1 := ss_new endsL wd8
      generalize ((strs endsL).map Value.string).toArray = EA at HN8 w3n c4n f4n ss1 hea
      have S0 : wd8.cell? ⟨b, o + 3, none⟩ = some (.string x3) := HD8.word X3.out
      refine wp_region_held_drew (S := fun w' => w'.cell? ⟨b, o + 3, none⟩ = some (.string x3)) (by kernel_rfl) (by rw [hwd]; exact S0) (fun _ => ?_)
      rw [hwd]

      refine wpAnyH_take (i := 1) (oi := _) (v := ?_) rfl (by kernel_rfl) (by kernel_rfl) (by kernel_rfl) (fun _ _ _ h => h) (Or.inl ⟨by rfl, ?_⟩) (by assumption) ?_
      rotate_left
      · (intro w' hSw; (try dsimp only at hSw); go_simp; (try with_reducible rfl))
      try simp only [Act.put, List.setIfInBounds_toArray, List.set_cons_zero, List.set_cons_succ]
      refine wpAnyH_take (i := 2) (oi := _) (v := ?_) rfl (by kernel_rfl) (by kernel_rfl) (by kernel_rfl) (fun _ _ _ h => h) (Or.inl ⟨by rfl, ?_⟩) (by assumption) ?_
      rotate_left
      · (intro w' hSw; (try dsimp only at hSw); go_simp; (try with_reducible rfl))
      try simp only [Act.put, List.setIfInBounds_toArray, List.set_cons_zero, List.set_cons_succ]
      refine wpAnyH_take (i := 3) (oi := _) (v := ?_) rfl (by kernel_rfl) (by kernel_rfl) (by kernel_rfl) (fun _ _ _ h => h) (Or.inl ⟨by rfl, ?_⟩) (by assumption) ?_
      rotate_left
      · (intro w' hSw; (try dsimp only at hSw); go_simp; (try with_reducible rfl))
      try simp only [Act.put, List.setIfInBounds_toArray, List.set_cons_zero, List.set_cons_succ]
      refine wpAnyH_ready (rs := [0]) (by kernel_rfl) (by simp) ?_
      refine AllReadyH.cons rfl (fun K hK => ?_) AllReadyH.nil
      go_simp
      (go_at_call 29; refine (hea _).mono ?_; rintro e w5 ⟨rfl, rfl⟩)
      refine hK.out _ _ w3n (fun hHeld2 => ?_)
      clear hK K
      try simp only [Act.put, List.setIfInBounds_toArray, List.set_cons_zero, List.set_cons_succ]
      refine wpAnyH_ready (rs := [4]) (by kernel_rfl) (by simp) ?_
      refine AllReadyH.cons rfl (fun K hK => ?_) AllReadyH.nil
      go_simp
      (go_at_call 27; refine (at_as (c := 7) (n := 7) HV.out rfl ss1).mono ?_; rintro e w6 ⟨rfl, rfl⟩)
      refine hK.out _ _ w3n (fun hHeld3 => ?_)
      clear hK K
      try simp only [Act.put, List.setIfInBounds_toArray, List.set_cons_zero, List.set_cons_succ]
      refine wpAnyH_take (i := 5) (oi := _) (v := ?_) rfl (by kernel_rfl) (by kernel_rfl) (by kernel_rfl) (fun _ _ _ h => h) (Or.inl ⟨by rfl, ?_⟩) (by assumption) ?_
      rotate_left
      · (intro w' hSw; (try dsimp only at hSw); go_simp; (try with_reducible rfl))
      try simp only [Act.put, List.setIfInBounds_toArray, List.set_cons_zero, List.set_cons_succ]
      refine wpAnyH_ready (rs := [6]) (by kernel_rfl) (by simp) ?_
      refine AllReadyH.cons rfl (fun K hK => ?_) AllReadyH.nil
      go_simp
      have HF := HN8.set (q' := { Q.zero with kind := 2, dev := x1, ifc := x2, en := v, permit := true, proto := -1, src := 0, sbits := 0, dst := 0, dbits := 0, slo := 0, shi := 65535, dlo := 0, dhi := 65535 }) 4 (.int .u8 v) rfl
      refine hK.out _ _ (HF.word X3.out) (fun hHeld4 => ?_)
      clear hK K
      try simp only [Act.put, List.setIfInBounds_toArray, List.set_cons_zero, List.set_cons_succ]
      refine wpAnyH_done (by kernel_rfl) ?_ _
      go_wp2_with (fail)
      go_meet
      exact HF
    case rest =>
    have H10 := hcut
    clear hcut H8
    obtain ⟨okE, hokE⟩ : ∃ okE, decide (0 < v) = okE := ⟨_, rfl⟩
    rw [hokE] at HO
    have HE := Lib.hid hokE
    clear hokE
    have c4 := H10.c4
    replace c4 : World.cell? _ ⟨qa, 4, none⟩ = some (Value.int .u8 v) := c4
    go_upto_region 15 with (fail)
    go_cut [6] (fun r wx' => r = .bool okE ∧ RI w b o ws qa ({ Q.zero with kind := 2, dev := x1, ifc := x2, en := v, permit := true, proto := -1, src := 0, sbits := 0, dst := 0, dbits := 0, slo := 0, shi := 65535, dlo := 0, dhi := 65535 }) wx')
    case first =>
      go_wp2
      go_meet
      exact ⟨congrArg Value.bool HE.out, H10⟩
    case rest =>
    clear H10
    obtain ⟨rfl, H10⟩ := hcut
    try apply_assumption
    exact rparse_tail (m := 4) HK H10 (Q.okh 2 v (by decide) (by decide) v0 (by omega) x1 x2) ⟨z1, z2, Nat.zero_le _⟩ HN hm (by omega) hsm HO
end Go.Proofs.YtopccnoinngmbaaGreatDoor
