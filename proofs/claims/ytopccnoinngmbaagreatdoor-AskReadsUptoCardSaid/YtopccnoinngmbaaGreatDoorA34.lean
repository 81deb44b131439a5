/-
  The reference's Parse walked: the kinds 5 and 6
-/
import Derived.Test.YtopccnoinngmbaaGreatDoorA33
namespace Go.Proofs.YtopccnoinngmbaaGreatDoor
open Go.RowKit
set_option maxRecDepth 100000
set_option maxHeartbeats 16000000
set_option linter.unusedVariables false
set_option linter.unusedSimpArgs false

theorem Q.okn (k : Int) (h0 : 0 ≤ k) (h1 : k < 256) (x y z : ByteArray) : ({ Q.zero with kind := k, dev := x, ifc := y, vrf := z } : Q).Ok := { Q.zok with k0 := h0, k1 := h1 }
theorem rparse_k5 {u1 u7 u8 u9 u10 u11 u12 u13 u14 u15 u16 u17 u18 u19 u20 u21 u22 u23 u24 u25 u26 u27 u28 u29 u30 u31 u32 u33 u34 u35 u36 u37 u38 u39 u40 u41 u42 u43 u44 u45 u46 u47 u48 u49 u50 u51 u52 u53 u54 u55 u56 u57 u58 u59 u60 u61 u62 u63 u64 u65 u66 u67 u68 u69 u70 u71 u72 u73 u74 u75 u76 u77 u78 u79 u80 u81 u82 u83 u84 u85 u86 u87 u88 u89 u90 u91 u92 u93 u94 u95 u96 u97 u98 u99 u100 u101 u102 u103 u104 u105 u106 u107 u108 u109 u110 u111 u112 u113 u114 u115 u116 u117 u118 u119 u120 u121 u122 u123 u124 u125 u126 u127 u128 u129 u130 u131 u132 u133 u134 u135 u136 u137 u138 u139 u140 u141 u142 u143 u144 u145 u146 u147 u148 u149 u150 u151 u152 u153 u154 u155 u156 u157 u158 u159 u160 u161 u162 u163 u164 u165 u166 u167 u168 u169 u170 u171 u172 u173 u174 u175 u176 u177 u178 u179 u180 u181 u182 u183 u184 u185 u186 u187 u188 u189 u190 u191 u192 u193 u194 u195 u196 u197 u198 u199 u200 u201 u202 u203 u204 u205 u206 u207 u208 u209 u210 u211 u212 u213 u214 u215 u216 u217 u218 u219 u220 u221 u222 u223 u224 u225 u226 u227 u228 u229 u230 u231 u232 u233 u234 : Value} {s : ByteArray} {w wx : World} {b o qa n c : Nat} {ws : List ByteArray} {q : Q} {out : Value} {K1 : Act → World → Prop} (HK : Hid (∀ a w', Code.wp Tryz.prog cREnd (bodyPost Tryz.prog Tryz.f5 (Rq w out)) a w' → K1 a w')) (H : RI w b o ws qa q wx)
    (hz : Hid (q = { Q.zero with kind := 5 })) (hn : ws.length = n) (hm : n ≤ 4194305) (hsm : Hid (∀ x ∈ ws, x.size ≤ 4194304)) (HO : Hid ((if n = 2 then outR true { Q.zero with kind := 5, dev := ws.getD 1 ⟨#[]⟩ } s else if n = 4 ∧ ws.getD 2 ⟨#[]⟩ = wVrf then outR (isName (ws.getD 3 ⟨#[]⟩).data.toList) { Q.zero with kind := 5, dev := ws.getD 1 ⟨#[]⟩, vrf := ws.getD 3 ⟨#[]⟩ } s else Value.tuple #[.agg Q.zero.cells, .int .i64 4]) = out)) :
    Code.wp Tryz.prog cRBlock (Exit.then K1 (bodyPost Tryz.prog Tryz.f5 (Rq w out))) ⟨#[.string s, u1, .pointer (some ⟨w.heap.size, 0, none⟩), .int .i64 0, .slice (some ⟨b, o, none⟩) n c, .pointer (some ⟨qa, 0, none⟩), .bool true, u7, u8, u9, u10, u11, u12, u13, u14, u15, u16, u17, u18, u19, u20, u21, u22, u23, u24, u25, u26, u27, u28, u29, u30, u31, u32, u33, u34, u35, u36, u37, u38, u39, u40, u41, u42, u43, u44, u45, u46, u47, u48, u49, u50, u51, u52, u53, u54, u55, u56, u57, u58, u59, u60, u61, u62, u63, u64, u65, u66, u67, u68, u69, u70, u71, u72, u73, u74, u75, u76, u77, u78, u79, u80, u81, u82, u83, u84, u85, u86, u87, u88, u89, u90, u91, u92, u93, u94, u95, u96, u97, u98, u99, u100, u101, u102, u103, u104, u105, u106, u107, u108, u109, u110, u111, u112, u113, u114, u115, u116, u117, u118, u119, u120, u121, u122, u123, u124, u125, u126, u127, u128, u129, u130, u131, u132, u133, u134, u135, u136, u137, u138, u139, u140, u141, u142, u143, u144, u145, u146, u147, u148, u149, u150, u151, u152, u153, u154, u155, u156, u157, u158, u159, u160, u161, u162, u163, u164, u165, u166, u167, u168, u169, u170, u171, u172, u173, u174, u175, u176, u177, u178, u179, u180, u181, u182, u183, u184, u185, u186, u187, u188, u189, u190, u191, u192, u193, u194, u195, u196, u197, u198, u199, u200, u201, u202, u203, u204, u205, u206, u207, u208, u209, u210, u211, u212, u213, u214, u215, u216, u217, u218, u219, u220, u221, u222, u223, u224, u225, u226, u227, u228, u229, u230, u231, u232, u233, u234], []⟩ wx := by
  unfold cRBlock
  conv => arg 2; whnf
  have HN := Lib.hid hn
  have c0 := H.k0 (κ := 5) (by rw [hz.out])
  clear hn
  have c1 := H.c1
  have f1 := H.free 1
  have c3 := H.c3
  have f3 := H.free 3
  have hlt := lt_of_block H.q
  by_cases h2 : n = 2
  · subst h2
    replace HO := Lib.hid ((if_pos rfl).symm.trans HO.out)
    obtain ⟨x1, hx1⟩ : ∃ x, ws[1]? = some x := ⟨ws[1]'(by have := HN.out; omega), by simp⟩
    have w1 := H.word hx1
    have z1 := hsm.out x1 (List.mem_of_getElem? hx1)
    have X1 := Lib.hid hx1
    clear hx1
    rw [show ws.getD 1 ⟨#[]⟩ = x1 by simp [List.getD_eq_getElem?_getD, X1.out]] at HO
    go_wp2
    have H2 := H.set (q' := { q with dev := x1 }) 1 (.string x1) rfl
    rw [hz.out] at H2
    exact HK.out _ _ (rparse_end H2 (fun _ => Q.okn 5 (by decide) (by decide) x1 ⟨#[]⟩ ⟨#[]⟩) ⟨z1, Nat.zero_le _, Nat.zero_le _⟩ HO)
  · replace HO := Lib.hid ((if_neg h2).symm.trans HO.out)
    have h3 : ((n : Int) != 2) = true := by simp; omega
    by_cases h4 : n = 4 ∧ ws.getD 2 ⟨#[]⟩ = wVrf
    · obtain ⟨h4, hv⟩ := h4
      subst h4
      replace HO := Lib.hid ((if_pos ⟨rfl, hv⟩).symm.trans HO.out)
      obtain ⟨x1, hx1⟩ : ∃ x, ws[1]? = some x := ⟨ws[1]'(by have := HN.out; omega), by simp⟩
      have w1 := H.word hx1
      have z1 := hsm.out x1 (List.mem_of_getElem? hx1)
      have X1 := Lib.hid hx1
      clear hx1
      obtain ⟨x2, hx2⟩ : ∃ x, ws[2]? = some x := ⟨ws[2]'(by have := HN.out; omega), by simp⟩
      have w2 := H.word hx2
      have z2 := hsm.out x2 (List.mem_of_getElem? hx2)
      have X2 := Lib.hid hx2
      clear hx2
      obtain ⟨x3, hx3⟩ : ∃ x, ws[3]? = some x := ⟨ws[3]'(by have := HN.out; omega), by simp⟩
      have w3 := H.word hx3
      have z3 := hsm.out x3 (List.mem_of_getElem? hx3)
      have X3 := Lib.hid hx3
      clear hx3
      rw [show ws.getD 2 ⟨#[]⟩ = x2 by simp [List.getD_eq_getElem?_getD, X2.out]] at hv
      subst hv
      unfold wVrf at w2
      rw [show ws.getD 1 ⟨#[]⟩ = x1 by simp [List.getD_eq_getElem?_getD, X1.out], show ws.getD 3 ⟨#[]⟩ = x3 by simp [List.getD_eq_getElem?_getD, X3.out]] at HO
      obtain ⟨r, hr⟩ : ∃ r, isName x3.data.toList = r := ⟨_, rfl⟩
      rw [hr] at HO
      have HR := Lib.hid hr
      clear hr h2
      go_wp2_with (go_at_call 33; refine (name_as HR.out z3 _).mono ?_; rintro e w1 ⟨rfl, rfl⟩)
      have H2 := (H.set (q' := { q with dev := x1 }) 1 (.string x1) rfl).set (q' := { q with dev := x1, vrf := x3 }) 3 (.string x3) rfl
      rw [hz.out] at H2
      exact HK.out _ _ (rparse_end H2 (fun _ => Q.okn 5 (by decide) (by decide) x1 ⟨#[]⟩ x3) ⟨z1, Nat.zero_le _, z3⟩ HO)
    · replace HO := Lib.hid ((if_neg h4).symm.trans HO.out)
      by_cases h5 : n = 4
      · subst h5
        have hv : ws.getD 2 ⟨#[]⟩ ≠ wVrf := fun h => h4 ⟨rfl, h⟩
        clear h4
        obtain ⟨x2, hx2⟩ : ∃ x, ws[2]? = some x := ⟨ws[2]'(by have := HN.out; omega), by simp⟩
        have w2 := H.word hx2
        have z2 := hsm.out x2 (List.mem_of_getElem? hx2)
        have X2 := Lib.hid hx2
        clear hx2
        rw [show ws.getD 2 ⟨#[]⟩ = x2 by simp [List.getD_eq_getElem?_getD, X2.out]] at hv
        have g1 : (x2.toList == [118, 114, 102]) = false := lit_ne hv
        have g2 : (x2.toList != [118, 114, 102]) = true := by rw [bne, g1]; rfl
        clear hv h2
        go_wp2_with ((with_reducible refine wpList_is (o := ⟨none, .store 41 (.tmp 2) (.tmp 169), _, _, _, _⟩) ?_); refine wpList_store_row (P := Tryz.prog) rfl 41 (.tmp 2) (.tmp 169) rfl w.heap.size Q.zero.cells rfl rfl 41 Q.zero.cells H.res (by kernel_rfl) rfl (Q.one Q.zero) ?_; dsimp only [Act.put])
        have hr := fun (tm : Array Value) h2 h3 => results5_row (tmps := tm) (e := 4) h2 h3 (H.res_row Q.zero.cells) rfl
        refine bodyPost_ret (hr _ rfl rfl) rfl ?_
        exact ⟨congrArg _ HO.out, H.res_bel _⟩
      · have h6 : ((n : Int) != 4) = true := by simp; omega
        clear h2 h4 h5
        go_wp2_with ((with_reducible refine wpList_is (o := ⟨none, .store 41 (.tmp 2) (.tmp 169), _, _, _, _⟩) ?_); refine wpList_store_row (P := Tryz.prog) rfl 41 (.tmp 2) (.tmp 169) rfl w.heap.size Q.zero.cells rfl rfl 41 Q.zero.cells H.res (by kernel_rfl) rfl (Q.one Q.zero) ?_; dsimp only [Act.put])
        have hr := fun (tm : Array Value) h2 h3 => results5_row (tmps := tm) (e := 4) h2 h3 (H.res_row Q.zero.cells) rfl
        refine bodyPost_ret (hr _ rfl rfl) rfl ?_
        exact ⟨congrArg _ HO.out, H.res_bel _⟩
theorem rparse_k6 {u1 u7 u8 u9 u10 u11 u12 u13 u14 u15 u16 u17 u18 u19 u20 u21 u22 u23 u24 u25 u26 u27 u28 u29 u30 u31 u32 u33 u34 u35 u36 u37 u38 u39 u40 u41 u42 u43 u44 u45 u46 u47 u48 u49 u50 u51 u52 u53 u54 u55 u56 u57 u58 u59 u60 u61 u62 u63 u64 u65 u66 u67 u68 u69 u70 u71 u72 u73 u74 u75 u76 u77 u78 u79 u80 u81 u82 u83 u84 u85 u86 u87 u88 u89 u90 u91 u92 u93 u94 u95 u96 u97 u98 u99 u100 u101 u102 u103 u104 u105 u106 u107 u108 u109 u110 u111 u112 u113 u114 u115 u116 u117 u118 u119 u120 u121 u122 u123 u124 u125 u126 u127 u128 u129 u130 u131 u132 u133 u134 u135 u136 u137 u138 u139 u140 u141 u142 u143 u144 u145 u146 u147 u148 u149 u150 u151 u152 u153 u154 u155 u156 u157 u158 u159 u160 u161 u162 u163 u164 u165 u166 u167 u168 u169 u170 u171 u172 u173 u174 u175 u176 u177 u178 u179 u180 u181 u182 u183 u184 u185 u186 u187 u188 u189 u190 u191 u192 u193 u194 u195 u196 u197 u198 u199 u200 u201 u202 u203 u204 u205 u206 u207 u208 u209 u210 u211 u212 u213 u214 u215 u216 u217 u218 u219 u220 u221 u222 u223 u224 u225 u226 u227 u228 u229 u230 u231 u232 u233 u234 : Value} {s : ByteArray} {w wx : World} {b o qa n c : Nat} {ws : List ByteArray} {q : Q} {out : Value} {K1 : Act → World → Prop} (HK : Hid (∀ a w', Code.wp Tryz.prog cREnd (bodyPost Tryz.prog Tryz.f5 (Rq w out)) a w' → K1 a w')) (H : RI w b o ws qa q wx)
    (hz : Hid (q = { Q.zero with kind := 6 })) (hn : ws.length = n) (hm : n ≤ 4194305) (hsm : Hid (∀ x ∈ ws, x.size ≤ 4194304)) (HO : Hid ((if n = 2 then outR true { Q.zero with kind := 6, dev := ws.getD 1 ⟨#[]⟩ } s else if n = 4 ∧ ws.getD 2 ⟨#[]⟩ = wVrf then outR (isName (ws.getD 3 ⟨#[]⟩).data.toList) { Q.zero with kind := 6, dev := ws.getD 1 ⟨#[]⟩, vrf := ws.getD 3 ⟨#[]⟩ } s else Value.tuple #[.agg Q.zero.cells, .int .i64 4]) = out)) :
    Code.wp Tryz.prog cRBlock (Exit.then K1 (bodyPost Tryz.prog Tryz.f5 (Rq w out))) ⟨#[.string s, u1, .pointer (some ⟨w.heap.size, 0, none⟩), .int .i64 0, .slice (some ⟨b, o, none⟩) n c, .pointer (some ⟨qa, 0, none⟩), .bool true, u7, u8, u9, u10, u11, u12, u13, u14, u15, u16, u17, u18, u19, u20, u21, u22, u23, u24, u25, u26, u27, u28, u29, u30, u31, u32, u33, u34, u35, u36, u37, u38, u39, u40, u41, u42, u43, u44, u45, u46, u47, u48, u49, u50, u51, u52, u53, u54, u55, u56, u57, u58, u59, u60, u61, u62, u63, u64, u65, u66, u67, u68, u69, u70, u71, u72, u73, u74, u75, u76, u77, u78, u79, u80, u81, u82, u83, u84, u85, u86, u87, u88, u89, u90, u91, u92, u93, u94, u95, u96, u97, u98, u99, u100, u101, u102, u103, u104, u105, u106, u107, u108, u109, u110, u111, u112, u113, u114, u115, u116, u117, u118, u119, u120, u121, u122, u123, u124, u125, u126, u127, u128, u129, u130, u131, u132, u133, u134, u135, u136, u137, u138, u139, u140, u141, u142, u143, u144, u145, u146, u147, u148, u149, u150, u151, u152, u153, u154, u155, u156, u157, u158, u159, u160, u161, u162, u163, u164, u165, u166, u167, u168, u169, u170, u171, u172, u173, u174, u175, u176, u177, u178, u179, u180, u181, u182, u183, u184, u185, u186, u187, u188, u189, u190, u191, u192, u193, u194, u195, u196, u197, u198, u199, u200, u201, u202, u203, u204, u205, u206, u207, u208, u209, u210, u211, u212, u213, u214, u215, u216, u217, u218, u219, u220, u221, u222, u223, u224, u225, u226, u227, u228, u229, u230, u231, u232, u233, u234], []⟩ wx := by
  unfold cRBlock
  conv => arg 2; whnf
  have HN := Lib.hid hn
  have c0 := H.k0 (κ := 6) (by rw [hz.out])
  clear hn
  have c1 := H.c1
  have f1 := H.free 1
  have c3 := H.c3
  have f3 := H.free 3
  have hlt := lt_of_block H.q
  by_cases h2 : n = 2
  · subst h2
    replace HO := Lib.hid ((if_pos rfl).symm.trans HO.out)
    obtain ⟨x1, hx1⟩ : ∃ x, ws[1]? = some x := ⟨ws[1]'(by have := HN.out; omega), by simp⟩
    have w1 := H.word hx1
    have z1 := hsm.out x1 (List.mem_of_getElem? hx1)
    have X1 := Lib.hid hx1
    clear hx1
    rw [show ws.getD 1 ⟨#[]⟩ = x1 by simp [List.getD_eq_getElem?_getD, X1.out]] at HO
    go_wp2
    have H2 := H.set (q' := { q with dev := x1 }) 1 (.string x1) rfl
    rw [hz.out] at H2
    exact HK.out _ _ (rparse_end H2 (fun _ => Q.okn 6 (by decide) (by decide) x1 ⟨#[]⟩ ⟨#[]⟩) ⟨z1, Nat.zero_le _, Nat.zero_le _⟩ HO)
  · replace HO := Lib.hid ((if_neg h2).symm.trans HO.out)
    have h3 : ((n : Int) != 2) = true := by simp; omega
    by_cases h4 : n = 4 ∧ ws.getD 2 ⟨#[]⟩ = wVrf
    · obtain ⟨h4, hv⟩ := h4
      subst h4
      replace HO := Lib.hid ((if_pos ⟨rfl, hv⟩).symm.trans HO.out)
      obtain ⟨x1, hx1⟩ : ∃ x, ws[1]? = some x := ⟨ws[1]'(by have := HN.out; omega), by simp⟩
      have w1 := H.word hx1
      have z1 := hsm.out x1 (List.mem_of_getElem? hx1)
      have X1 := Lib.hid hx1
      clear hx1
      obtain ⟨x2, hx2⟩ : ∃ x, ws[2]? = some x := ⟨ws[2]'(by have := HN.out; omega), by simp⟩
      have w2 := H.word hx2
      have z2 := hsm.out x2 (List.mem_of_getElem? hx2)
      have X2 := Lib.hid hx2
      clear hx2
      obtain ⟨x3, hx3⟩ : ∃ x, ws[3]? = some x := ⟨ws[3]'(by have := HN.out; omega), by simp⟩
      have w3 := H.word hx3
      have z3 := hsm.out x3 (List.mem_of_getElem? hx3)
      have X3 := Lib.hid hx3
      clear hx3
      rw [show ws.getD 2 ⟨#[]⟩ = x2 by simp [List.getD_eq_getElem?_getD, X2.out]] at hv
      subst hv
      unfold wVrf at w2
      rw [show ws.getD 1 ⟨#[]⟩ = x1 by simp [List.getD_eq_getElem?_getD, X1.out], show ws.getD 3 ⟨#[]⟩ = x3 by simp [List.getD_eq_getElem?_getD, X3.out]] at HO
      obtain ⟨r, hr⟩ : ∃ r, isName x3.data.toList = r := ⟨_, rfl⟩
      rw [hr] at HO
      have HR := Lib.hid hr
      clear hr h2
      go_wp2_with (go_at_call 33; refine (name_as HR.out z3 _).mono ?_; rintro e w1 ⟨rfl, rfl⟩)
      have H2 := (H.set (q' := { q with dev := x1 }) 1 (.string x1) rfl).set (q' := { q with dev := x1, vrf := x3 }) 3 (.string x3) rfl
      rw [hz.out] at H2
      exact HK.out _ _ (rparse_end H2 (fun _ => Q.okn 6 (by decide) (by decide) x1 ⟨#[]⟩ x3) ⟨z1, Nat.zero_le _, z3⟩ HO)
    · replace HO := Lib.hid ((if_neg h4).symm.trans HO.out)
      by_cases h5 : n = 4
      · subst h5
        have hv : ws.getD 2 ⟨#[]⟩ ≠ wVrf := fun h => h4 ⟨rfl, h⟩
        clear h4
        obtain ⟨x2, hx2⟩ : ∃ x, ws[2]? = some x := ⟨ws[2]'(by have := HN.out; omega), by simp⟩
        have w2 := H.word hx2
        have z2 := hsm.out x2 (List.mem_of_getElem? hx2)
        have X2 := Lib.hid hx2
        clear hx2
        rw [show ws.getD 2 ⟨#[]⟩ = x2 by simp [List.getD_eq_getElem?_getD, X2.out]] at hv
        have g1 : (x2.toList == [118, 114, 102]) = false := lit_ne hv
        have g2 : (x2.toList != [118, 114, 102]) = true := by rw [bne, g1]; rfl
        clear hv h2
        go_wp2_with ((with_reducible refine wpList_is (o := ⟨none, .store 41 (.tmp 2) (.tmp 169), _, _, _, _⟩) ?_); refine wpList_store_row (P := Tryz.prog) rfl 41 (.tmp 2) (.tmp 169) rfl w.heap.size Q.zero.cells rfl rfl 41 Q.zero.cells H.res (by kernel_rfl) rfl (Q.one Q.zero) ?_; dsimp only [Act.put])
        have hr := fun (tm : Array Value) h2 h3 => results5_row (tmps := tm) (e := 4) h2 h3 (H.res_row Q.zero.cells) rfl
        refine bodyPost_ret (hr _ rfl rfl) rfl ?_
        exact ⟨congrArg _ HO.out, H.res_bel _⟩
      · have h6 : ((n : Int) != 4) = true := by simp; omega
        clear h2 h4 h5
        go_wp2_with ((with_reducible refine wpList_is (o := ⟨none, .store 41 (.tmp 2) (.tmp 169), _, _, _, _⟩) ?_); refine wpList_store_row (P := Tryz.prog) rfl 41 (.tmp 2) (.tmp 169) rfl w.heap.size Q.zero.cells rfl rfl 41 Q.zero.cells H.res (by kernel_rfl) rfl (Q.one Q.zero) ?_; dsimp only [Act.put])
        have hr := fun (tm : Array Value) h2 h3 => results5_row (tmps := tm) (e := 4) h2 h3 (H.res_row Q.zero.cells) rfl
        refine bodyPost_ret (hr _ rfl rfl) rfl ?_
        exact ⟨congrArg _ HO.out, H.res_bel _⟩
end Go.Proofs.YtopccnoinngmbaaGreatDoor
