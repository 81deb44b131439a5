/-
  ask.Parse walked: its end
  ask.Parse walked: its tail behind the end (kinds 1 to 3)
  ask.Parse walked: its first statements
-/
import Derived.Test.YtopccnoinngmbaaGreatDoorA16

/- ask.Parse walked: its end -/
namespace Go.Proofs.YtopccnoinngmbaaGreatDoor
open Go.RowKit
set_option maxRecDepth 100000
set_option maxHeartbeats 16000000
set_option linter.unusedVariables false
set_option linter.unusedSimpArgs false

set_option maxHeartbeats 4000000 in
theorem parse_end {u1 u11 u12 u13 u14 u15 u16 u17 u18 u19 u20 u21 u22 u23 u24 u25 u26 u27 u28 u29 u30 u31 u32 u33 u34 u35 u36 u37 u38 u39 u40 u41 u42 u43 u44 u45 u46 u47 u48 u49 u50 u51 u52 u53 u54 u55 u56 u57 u58 u59 u60 u61 u62 u63 u64 u65 u66 u67 u68 u69 u70 u71 u72 u73 u74 u75 u76 u77 u78 u79 u80 u81 u82 u83 u84 u85 u86 u87 u88 u89 u90 u91 u92 u93 u94 u95 u96 u97 u98 u99 u100 u101 u102 u103 u104 u105 u106 u107 u108 u109 u110 u111 u112 u113 u114 u115 u116 u117 u118 u119 u120 u121 u122 u123 u124 u125 u126 u127 u128 u129 u130 u131 u132 u133 u134 u135 u136 u137 u138 u139 u140 u141 u142 u143 u144 u145 u146 u147 u148 u149 u150 u151 u152 u153 u154 u155 u156 u157 u158 u159 u160 u161 u162 u163 u164 u165 u166 u167 u168 u169 u170 u171 u172 u173 u174 u175 u176 u177 u178 u179 u180 u181 u182 u183 u184 : Value} {s : ByteArray} {w wx : World} {qa : Nat} {s6 : St} {q6 : Q} {out : Value} (E : Env w) (H : QI w qa s6 q6 wx) (HO : Hid (outQ s6 q6 = out)) :
    Code.wp Tryz.prog cEnd (bodyPost Tryz.prog Tryz.f4 (Rq w out)) ⟨#[.string s, u1, .pointer (some ⟨w.heap.size, 0, none⟩), .int .i64 0, .pointer (some ⟨w.heap.size + 1 + 1, 0, none⟩), .pointer (some ⟨w.heap.size + 1 + 1 + 1, 0, none⟩), .pointer (some ⟨w.heap.size + 1 + 1 + 1 + 1, 0, none⟩), .func (.func 14) #[] #[.pointer (some ⟨w.heap.size + 1 + 1 + 1 + 1, 0, none⟩), .pointer (some ⟨w.heap.size + 1 + 1 + 1, 0, none⟩)], .pointer (some ⟨w.heap.size + 1 + 1 + 1 + 1 + 1, 0, none⟩), .func (.func 17) #[] #[.pointer (some ⟨w.heap.size + 1 + 1 + 1 + 1 + 1, 0, none⟩), .pointer (some ⟨w.heap.size + 1 + 1 + 1 + 1, 0, none⟩), .pointer (some ⟨w.heap.size + 1 + 1 + 1, 0, none⟩)], .pointer (some ⟨qa, 0, none⟩), u11, u12, u13, u14, u15, u16, u17, u18, u19, u20, u21, u22, u23, u24, u25, u26, u27, u28, u29, u30, u31, u32, u33, u34, u35, u36, u37, u38, u39, u40, u41, u42, u43, u44, u45, u46, u47, u48, u49, u50, u51, u52, u53, u54, u55, u56, u57, u58, u59, u60, u61, u62, u63, u64, u65, u66, u67, u68, u69, u70, u71, u72, u73, u74, u75, u76, u77, u78, u79, u80, u81, u82, u83, u84, u85, u86, u87, u88, u89, u90, u91, u92, u93, u94, u95, u96, u97, u98, u99, u100, u101, u102, u103, u104, u105, u106, u107, u108, u109, u110, u111, u112, u113, u114, u115, u116, u117, u118, u119, u120, u121, u122, u123, u124, u125, u126, u127, u128, u129, u130, u131, u132, u133, u134, u135, u136, u137, u138, u139, u140, u141, u142, u143, u144, u145, u146, u147, u148, u149, u150, u151, u152, u153, u154, u155, u156, u157, u158, u159, u160, u161, u162, u163, u164, u165, u166, u167, u168, u169, u170, u171, u172, u173, u174, u175, u176, u177, u178, u179, u180, u181, u182, u183, u184], []⟩ wx := by
  have n1 := H.ne
  unfold cEnd
  conv => arg 2; whnf
  generalize hQ : (bodyPost Tryz.prog Tryz.f4 (Rq w out)) = Qf
  have cB := H.cellB
  obtain ⟨A, c, cR, -, -, -, -⟩ := H.cellR
  cases hb : s6.2 with
  | true =>
    rw [hb] at cB
    have ho := HO.out
    rw [outQ_bad _ hb] at ho
    go_wp2_with (refine wpList_store_row (P := Tryz.prog) rfl 34 (.tmp 2) (.tmp 183) rfl w.heap.size Q.zero.cells rfl rfl 34 Q.zero.cells H.res (by kernel_rfl) rfl (Q.one Q.zero) ?_; dsimp only [Act.put])
    subst hQ; exact bodyPost_ret (results4_row rfl rfl (H.res_row _) rfl) rfl ⟨congrArg _ ho, H.res_bel _⟩
  | false =>
    rw [hb] at cB
    by_cases hl : 0 < s6.1.length
    · have ho := HO.out
      rw [outQ_left _ hl] at ho
      generalize s6.1.length = m at hl cR
      have hl' : (0 : Int) < m := by omega
      go_wp2_with (refine wpList_store_row (P := Tryz.prog) rfl 34 (.tmp 2) (.tmp 183) rfl w.heap.size Q.zero.cells rfl rfl 34 Q.zero.cells H.res (by kernel_rfl) rfl (Q.one Q.zero) ?_; dsimp only [Act.put])
      subst hQ; exact bodyPost_ret (results4_row rfl rfl (H.res_row _) rfl) rfl ⟨congrArg _ ho, H.res_bel _⟩
    · have hl0 : s6.1.length = 0 := by omega
      have ho := HO.out
      rw [outQ_ok _ hb hl0] at ho
      rw [hl0] at cR
      go_wp2_with (first | (refine wpList_load_row (P := Tryz.prog) rfl 34 (.tmp 10) rfl qa rfl 34 q6.cells (0, 0) _ H.q rfl rfl (by kernel_rfl) ?_; dsimp only [Act.put]) | (refine wpList_store_row (P := Tryz.prog) rfl 34 (.tmp 2) (.tmp 184) rfl w.heap.size q6.cells rfl rfl 34 Q.zero.cells H.res (by kernel_rfl) rfl (Q.one q6) ?_; dsimp only [Act.put]))
      subst hQ; exact bodyPost_ret (results4_row rfl rfl (H.res_row _) rfl) rfl ⟨congrArg _ ho, H.res_bel _⟩
end Go.Proofs.YtopccnoinngmbaaGreatDoor

/- ask.Parse walked: its tail behind the end (kinds 1 to 3) -/
namespace Go.Proofs.YtopccnoinngmbaaGreatDoor
open Go.RowKit
set_option maxRecDepth 100000
set_option maxHeartbeats 16000000
set_option linter.unusedVariables false
set_option linter.unusedSimpArgs false

theorem parse_tail {u1 u11 u12 u13 u14 u15 u16 u17 u18 u19 u20 u21 u22 u23 u24 u25 u26 u27 u28 u29 u30 u31 u32 u33 u34 u35 u36 u37 u38 u39 u40 u41 u42 u43 u44 u45 u46 u47 u48 u49 u50 u51 u52 u53 u54 u55 u56 u57 u58 u59 u60 u61 u62 u63 u64 u65 u66 u67 u68 u69 u70 u71 u72 u73 u74 u75 u76 u77 u78 u79 u80 u81 u82 u83 u84 u85 u86 u87 u88 u89 u90 u91 u92 u93 u94 u95 u96 u97 u98 u99 u100 u101 u102 u103 u104 u105 u106 u107 u108 u109 u110 u111 u112 u113 u114 u115 u116 u117 u118 u119 u120 u121 u122 u123 u124 u125 u126 u127 u128 u129 u130 u131 u132 u133 u134 u135 u136 u137 u138 u139 u140 u141 u142 u143 u144 u145 u146 u147 u148 u149 u150 u151 u152 u153 u154 u155 u156 u157 u158 u159 u160 u161 u162 u163 u164 u165 u166 u167 u168 u169 u170 u171 u172 u173 u174 u175 u176 u177 u178 u179 u180 u181 u182 u183 u184 : Value} {s : ByteArray} {w wx : World} {qa : Nat} {s1 : St} {q1 : Q} {out : Value} {K1 : Act → World → Prop} (HK : Hid (∀ a w', Code.wp Tryz.prog cEnd (bodyPost Tryz.prog Tryz.f4 (Rq w out)) a w' → K1 a w')) (E : Env w) (H11 : QI w qa s1 q1 wx)
    (HO : Hid (run3 s1 q1 = out)) :
    Code.wp Tryz.prog cTail (Exit.inBlock 0 (Exit.then K1 (bodyPost Tryz.prog Tryz.f4 (Rq w out)))) ⟨#[.string s, u1, .pointer (some ⟨w.heap.size, 0, none⟩), .int .i64 0, .pointer (some ⟨w.heap.size + 1 + 1, 0, none⟩), .pointer (some ⟨w.heap.size + 1 + 1 + 1, 0, none⟩), .pointer (some ⟨w.heap.size + 1 + 1 + 1 + 1, 0, none⟩), .func (.func 14) #[] #[.pointer (some ⟨w.heap.size + 1 + 1 + 1 + 1, 0, none⟩), .pointer (some ⟨w.heap.size + 1 + 1 + 1, 0, none⟩)], .pointer (some ⟨w.heap.size + 1 + 1 + 1 + 1 + 1, 0, none⟩), .func (.func 17) #[] #[.pointer (some ⟨w.heap.size + 1 + 1 + 1 + 1 + 1, 0, none⟩), .pointer (some ⟨w.heap.size + 1 + 1 + 1 + 1, 0, none⟩), .pointer (some ⟨w.heap.size + 1 + 1 + 1, 0, none⟩)], .pointer (some ⟨qa, 0, none⟩), u11, u12, u13, u14, u15, u16, u17, u18, u19, u20, u21, u22, u23, u24, u25, u26, u27, u28, u29, u30, u31, u32, u33, u34, u35, u36, u37, u38, u39, u40, u41, u42, u43, u44, u45, u46, u47, u48, u49, u50, u51, u52, u53, u54, u55, u56, u57, u58, u59, u60, u61, u62, u63, u64, u65, u66, u67, u68, u69, u70, u71, u72, u73, u74, u75, u76, u77, u78, u79, u80, u81, u82, u83, u84, u85, u86, u87, u88, u89, u90, u91, u92, u93, u94, u95, u96, u97, u98, u99, u100, u101, u102, u103, u104, u105, u106, u107, u108, u109, u110, u111, u112, u113, u114, u115, u116, u117, u118, u119, u120, u121, u122, u123, u124, u125, u126, u127, u128, u129, u130, u131, u132, u133, u134, u135, u136, u137, u138, u139, u140, u141, u142, u143, u144, u145, u146, u147, u148, u149, u150, u151, u152, u153, u154, u155, u156, u157, u158, u159, u160, u161, u162, u163, u164, u165, u166, u167, u168, u169, u170, u171, u172, u173, u174, u175, u176, u177, u178, u179, u180, u181, u182, u183, u184], []⟩ wx := by
  unfold cTail
  conv => arg 2; whnf
  unfold run3 at HO
  have E11 := H11.env E
  have cI := H11.cellI
  go_upto_if 71 with (first | (go_at_call 17; (with_reducible refine (H11.prefixFrom E).mono ?_); rintro e w12 ⟨rfl, H12⟩) | (go_at_call 17; (with_reducible refine (H12.prefixTo E).mono ?_); rintro e w13 ⟨rfl, H13⟩; have c7 := H13.cSrc; have c8 := H13.cSb; have c9 := H13.cDst; have c10 := H13.cDb; have f7 := H13.free 7; have f8 := H13.free 8; have f9 := H13.free 9; have f10 := H13.free 10; have cI13 := H13.cellI; have n13 := H13.ne; have cI14 := (H13.setPres (s1.preV wFrom).1 (s1.preV wFrom).2 ((s1.pre wFrom).preV wTo).1 ((s1.pre wFrom).preV wTo).2).cellI) | (go_at_call 16; (with_reducible refine (H13.setPres _ _ _ _).isProto.mono ?_); rintro e w14 ⟨rfl, H14⟩))
  have HA : QI w qa ((stA3 s1).after wProto) (qA3 s1 q1) w14 := H14
  rw [show (s1.pre wFrom).pre wTo = stA3 s1 from rfl]
  generalize stA3 s1 = s3 at HA HO ⊢
  generalize qA3 s1 q1 = q3 at HA HO ⊢
  clear H14 H13 H12 H11 c7 c8 c9 c10 f7 f8 f9 f10 cI13 cI cI14 n13 E11
  go_cut [] (fun wx => QI w qa (stA4 s3) (qA4 s3 q3) wx)
  case first =>
    cases hW : s3.isW wProto with
    | false =>
      rw [after_no hW] at HA
      go_wp2
      go_meet
      rw [stA4_no hW, qA4_no hW]
      exact HA
    | true =>
      have hx := HA.small
      obtain ⟨v, hv⟩ : ∃ v, (num (s3.after wProto).head 255).getD 0 = v := ⟨_, rfl⟩
      obtain ⟨ok, hk⟩ : ∃ ok, (num (s3.after wProto).head 255).isSome = ok := ⟨_, rfl⟩
      have A1 := Lib.hid hv
      have A2 := Lib.hid hk
      clear hv hk
      have AW := Lib.hid hW
      clear hW
      have cW := HA.cellW
      go_wp2_with (first | (go_at_call 13; (with_reducible refine HA.word.mono ?_); rintro e w16 ⟨rfl, H16⟩; have E16 := H16.env E) | (go_at_call 21; (with_reducible refine (number_as A1.out A2.out hx E16).mono ?_); rintro e w17 ⟨rfl, hb17⟩; have H17 := H16.below hb17; have c6 := H17.cProto; have f6 := H17.free 6; have cB := H17.cellB; have fB := H17.freeB; have ne := H17.ne))
      · rename_i hB
        go_meet
        rw [stA4_yes AW.out A2.out, qA4_yes AW.out A1.out]
        exact (H17.setProto v).or1 hB _
      · rename_i hB
        go_meet
        rw [stA4_yes AW.out A2.out, qA4_yes AW.out A1.out]
        exact (H17.setProto v).or0 hB _
  case rest =>
  have HB := hcut
  clear hcut
  clear HA
  generalize stA4 s3 = s4 at HB HO ⊢
  generalize qA4 s3 q3 = q4 at HB HO ⊢
  have cI := HB.cellI
  go_upto_if 87 with (go_at_call 16; (with_reducible refine HB.isSports.mono ?_); rintro e w14 ⟨rfl, HB'⟩)
  clear HB cI
  go_cut [] (fun wx => QI w qa (stA5 s4) (qA5 s4 q4) wx)
  case first =>
    cases hW : s4.isW wSports with
    | false =>
      rw [after_no hW] at HB'
      go_wp2
      go_meet
      rw [stA5_no hW, qA5_no hW]
      exact HB'
    | true =>
      have hx := HB'.small
      obtain ⟨a, b, hv⟩ : ∃ a b, portV (s4.after wSports).head = (a, b) := ⟨_, _, rfl⟩
      obtain ⟨ok, hk⟩ : ∃ ok, (pPorts (s4.after wSports).head).isSome = ok := ⟨_, rfl⟩
      have A1 := Lib.hid hv
      have A2 := Lib.hid hk
      clear hv hk
      have AW := Lib.hid hW
      clear hW
      have cW := HB'.cellW
      go_wp2_with (first | (go_at_call 13; (with_reducible refine HB'.word.mono ?_); rintro e w16 ⟨rfl, H16⟩; have E16 := H16.env E) | (go_at_call 22; (with_reducible refine (ports_as A1.out A2.out hx E16).mono ?_); rintro e w17 ⟨rfl, hb17⟩; have H17 := H16.below hb17; have c11 := H17.cSlo; have f11 := H17.free 11; have c12 := H17.cShi; have f12 := H17.free 12; have cB := H17.cellB; have fB := H17.freeB; have ne := H17.ne; have lt := H17.lt))
      · rename_i hB
        go_meet
        rw [stA5_yes AW.out A2.out, qA5_yes AW.out A1.out]
        exact ((H17.setSports a b).or1 hB _).alloc _
      · rename_i hB
        go_meet
        rw [stA5_yes AW.out A2.out, qA5_yes AW.out A1.out]
        exact ((H17.setSports a b).or0 hB _).alloc _
  case rest =>
  have HC := hcut
  clear hcut
  clear HB'
  generalize stA5 s4 = s5 at HC HO ⊢
  generalize qA5 s4 q4 = q5 at HC HO ⊢
  have cI := HC.cellI
  go_upto_if 103 with (go_at_call 16; (with_reducible refine HC.isDports.mono ?_); rintro e w14 ⟨rfl, HC'⟩)
  clear HC cI
  cases hW : s5.isW wDports with
  | false =>
    rw [after_no hW] at HC'
    rw [stA6_no hW, qA6_no hW] at HO
    go_wp2
    exact HK.out _ _ (parse_end E HC' HO)
  | true =>
    have hx := HC'.small
    obtain ⟨a, b, hv⟩ : ∃ a b, portV (s5.after wDports).head = (a, b) := ⟨_, _, rfl⟩
    obtain ⟨ok, hk⟩ : ∃ ok, (pPorts (s5.after wDports).head).isSome = ok := ⟨_, rfl⟩
    rw [stA6_yes hW hk, qA6_yes hW hv] at HO
    have A1 := Lib.hid hv
    have A2 := Lib.hid hk
    clear hv hk hW
    have cW := HC'.cellW
    have EC := HC'.env E
    go_wp2_with (first | (go_at_call 13; (with_reducible refine HC'.word.mono ?_); rintro e w16 ⟨rfl, H16⟩; have E16 := H16.env E) | (go_at_call 22; (with_reducible refine (ports_as A1.out A2.out hx E16).mono ?_); rintro e w17 ⟨rfl, hb17⟩; have H17 := H16.below hb17; have c13 := H17.cDlo; have f13 := H17.free 13; have c14 := H17.cDhi; have f14 := H17.free 14; have cB := H17.cellB; have fB := H17.freeB; have ne := H17.ne; have lt := H17.lt))
    · rename_i hB
      exact HK.out _ _ (parse_end E (((H17.setDports a b).or1 hB (!ok)).alloc _) HO)
    · rename_i hB
      exact HK.out _ _ (parse_end E (((H17.setDports a b).or0 hB (!ok)).alloc _) HO)
end Go.Proofs.YtopccnoinngmbaaGreatDoor

/- ask.Parse walked: its first statements -/
namespace Go.Proofs.YtopccnoinngmbaaGreatDoor
open Go.RowKit
set_option maxRecDepth 100000
set_option maxHeartbeats 16000000
set_option linter.unusedVariables false
set_option linter.unusedSimpArgs false

theorem parse_start (s : ByteArray) (ws : List ByteArray) (n : Nat) (hw : spl 32 s = ws) (hn : ws.length = n) (hs : s.size ≤ 4194304) {out : Value} {w : World} (E : Env w)
    (rest : ∀ (qa : Nat) (κ : Int) (wx : World) (K1 : Act → World → Prop), pl kindsL (ws.headD ⟨#[]⟩) = κ → Hid (∀ a w', Code.wp Tryz.prog cEnd (bodyPost Tryz.prog Tryz.f4 (Rq w out)) a w' → K1 a w') → QI w qa (St.word (ws, false)) { Q.zero with kind := κ } wx →
      ∀ u1 u11 u12 u13 u14 u15 u16 u17 u18 u19 u20 u21 u22 u23 u24 u25 u26 u27 u28 u29 u30 u31 u32 u33 u34 u36 u37 u38 u39 u40 u41 u42 u43 u44 u45 u46 u47 u48 u49 u50 u51 u52 u53 u54 u55 u56 u57 u58 u59 u60 u61 u62 u63 u64 u65 u66 u67 u68 u69 u70 u71 u72 u73 u74 u75 u76 u77 u78 u79 u80 u81 u82 u83 u84 u85 u86 u87 u88 u89 u90 u91 u92 u93 u94 u95 u96 u97 u98 u99 u100 u101 u102 u103 u104 u105 u106 u107 u108 u109 u110 u111 u112 u113 u114 u115 u116 u117 u118 u119 u120 u121 u122 u123 u124 u125 u126 u127 u128 u129 u130 u131 u132 u133 u134 u135 u136 u137 u138 u139 u140 u141 u142 u143 u144 u145 u146 u147 u148 u149 u150 u151 u152 u153 u154 u155 u156 u157 u158 u159 u160 u161 u162 u163 u164 u165 u166 u167 u168 u169 u170 u171 u172 u173 u174 u175 u176 u177 u178 u179 u180 u181 u182 u183 u184 : Value, Code.wp Tryz.prog cBlock (Exit.then K1 (bodyPost Tryz.prog Tryz.f4 (Rq w out))) ⟨#[.string s, u1, .pointer (some ⟨w.heap.size, 0, none⟩), .int .i64 0, .pointer (some ⟨w.heap.size + 1 + 1, 0, none⟩), .pointer (some ⟨w.heap.size + 1 + 1 + 1, 0, none⟩), .pointer (some ⟨w.heap.size + 1 + 1 + 1 + 1, 0, none⟩), .func (.func 14) #[] #[.pointer (some ⟨w.heap.size + 1 + 1 + 1 + 1, 0, none⟩), .pointer (some ⟨w.heap.size + 1 + 1 + 1, 0, none⟩)], .pointer (some ⟨w.heap.size + 1 + 1 + 1 + 1 + 1, 0, none⟩), .func (.func 17) #[] #[.pointer (some ⟨w.heap.size + 1 + 1 + 1 + 1 + 1, 0, none⟩), .pointer (some ⟨w.heap.size + 1 + 1 + 1 + 1, 0, none⟩), .pointer (some ⟨w.heap.size + 1 + 1 + 1, 0, none⟩)], .pointer (some ⟨qa, 0, none⟩), u11, u12, u13, u14, u15, u16, u17, u18, u19, u20, u21, u22, u23, u24, u25, u26, u27, u28, u29, u30, u31, u32, u33, u34, .int .u8 κ, u36, u37, u38, u39, u40, u41, u42, u43, u44, u45, u46, u47, u48, u49, u50, u51, u52, u53, u54, u55, u56, u57, u58, u59, u60, u61, u62, u63, u64, u65, u66, u67, u68, u69, u70, u71, u72, u73, u74, u75, u76, u77, u78, u79, u80, u81, u82, u83, u84, u85, u86, u87, u88, u89, u90, u91, u92, u93, u94, u95, u96, u97, u98, u99, u100, u101, u102, u103, u104, u105, u106, u107, u108, u109, u110, u111, u112, u113, u114, u115, u116, u117, u118, u119, u120, u121, u122, u123, u124, u125, u126, u127, u128, u129, u130, u131, u132, u133, u134, u135, u136, u137, u138, u139, u140, u141, u142, u143, u144, u145, u146, u147, u148, u149, u150, u151, u152, u153, u154, u155, u156, u157, u158, u159, u160, u161, u162, u163, u164, u165, u166, u167, u168, u169, u170, u171, u172, u173, u174, u175, u176, u177, u178, u179, u180, u181, u182, u183, u184], []⟩ wx) :
    Calls Tryz.prog 4 #[.string s] w (Rq w out) := by
  have EW : Env (w.alloc (.cells Q.zero.cells 34)) := E.next (below_new w _)
  have hn0 : n ≤ 1099511627776 := by have := spl_count s hs; rw [hw, hn] at this; exact this
  have HW := Lib.hid hw
  have HN := Lib.hid hn
  have EP : Env (WP w ws n) := E.next (WP_below w ws n)
  have hp0 := WP_st w ws n hn hn0 (fun x hx => by have := spl_small (c := 32) (s := s) (by rw [hw]; exact hx); omega)
  have hwd := word_any hp0
  have h13 : 13 ≤ w.heap.size := E.many
  have hkd := fun (W : World) (e : Env W) => kind_any (ws.headD ⟨#[]⟩) e
  have hk0 := (pl_bounds kindsL (ws.headD ⟨#[]⟩)).1
  have hk1 : pl kindsL (ws.headD ⟨#[]⟩) ≤ 8 := (pl_bounds kindsL (ws.headD ⟨#[]⟩)).2
  have HR : Hid (∀ (qa : Nat) (wx : World) (K1 : Act → World → Prop), Hid (∀ a w', Code.wp Tryz.prog cEnd (bodyPost Tryz.prog Tryz.f4 (Rq w out)) a w' → K1 a w') → QI w qa (St.word (ws, false)) { Q.zero with kind := pl kindsL (ws.headD ⟨#[]⟩) } wx →
      ∀ u1 u11 u12 u13 u14 u15 u16 u17 u18 u19 u20 u21 u22 u23 u24 u25 u26 u27 u28 u29 u30 u31 u32 u33 u34 u36 u37 u38 u39 u40 u41 u42 u43 u44 u45 u46 u47 u48 u49 u50 u51 u52 u53 u54 u55 u56 u57 u58 u59 u60 u61 u62 u63 u64 u65 u66 u67 u68 u69 u70 u71 u72 u73 u74 u75 u76 u77 u78 u79 u80 u81 u82 u83 u84 u85 u86 u87 u88 u89 u90 u91 u92 u93 u94 u95 u96 u97 u98 u99 u100 u101 u102 u103 u104 u105 u106 u107 u108 u109 u110 u111 u112 u113 u114 u115 u116 u117 u118 u119 u120 u121 u122 u123 u124 u125 u126 u127 u128 u129 u130 u131 u132 u133 u134 u135 u136 u137 u138 u139 u140 u141 u142 u143 u144 u145 u146 u147 u148 u149 u150 u151 u152 u153 u154 u155 u156 u157 u158 u159 u160 u161 u162 u163 u164 u165 u166 u167 u168 u169 u170 u171 u172 u173 u174 u175 u176 u177 u178 u179 u180 u181 u182 u183 u184 : Value, Code.wp Tryz.prog cBlock (Exit.then K1 (bodyPost Tryz.prog Tryz.f4 (Rq w out))) ⟨#[.string s, u1, .pointer (some ⟨w.heap.size, 0, none⟩), .int .i64 0, .pointer (some ⟨w.heap.size + 1 + 1, 0, none⟩), .pointer (some ⟨w.heap.size + 1 + 1 + 1, 0, none⟩), .pointer (some ⟨w.heap.size + 1 + 1 + 1 + 1, 0, none⟩), .func (.func 14) #[] #[.pointer (some ⟨w.heap.size + 1 + 1 + 1 + 1, 0, none⟩), .pointer (some ⟨w.heap.size + 1 + 1 + 1, 0, none⟩)], .pointer (some ⟨w.heap.size + 1 + 1 + 1 + 1 + 1, 0, none⟩), .func (.func 17) #[] #[.pointer (some ⟨w.heap.size + 1 + 1 + 1 + 1 + 1, 0, none⟩), .pointer (some ⟨w.heap.size + 1 + 1 + 1 + 1, 0, none⟩), .pointer (some ⟨w.heap.size + 1 + 1 + 1, 0, none⟩)], .pointer (some ⟨qa, 0, none⟩), u11, u12, u13, u14, u15, u16, u17, u18, u19, u20, u21, u22, u23, u24, u25, u26, u27, u28, u29, u30, u31, u32, u33, u34, .int .u8 (pl kindsL (ws.headD ⟨#[]⟩)), u36, u37, u38, u39, u40, u41, u42, u43, u44, u45, u46, u47, u48, u49, u50, u51, u52, u53, u54, u55, u56, u57, u58, u59, u60, u61, u62, u63, u64, u65, u66, u67, u68, u69, u70, u71, u72, u73, u74, u75, u76, u77, u78, u79, u80, u81, u82, u83, u84, u85, u86, u87, u88, u89, u90, u91, u92, u93, u94, u95, u96, u97, u98, u99, u100, u101, u102, u103, u104, u105, u106, u107, u108, u109, u110, u111, u112, u113, u114, u115, u116, u117, u118, u119, u120, u121, u122, u123, u124, u125, u126, u127, u128, u129, u130, u131, u132, u133, u134, u135, u136, u137, u138, u139, u140, u141, u142, u143, u144, u145, u146, u147, u148, u149, u150, u151, u152, u153, u154, u155, u156, u157, u158, u159, u160, u161, u162, u163, u164, u165, u166, u167, u168, u169, u170, u171, u172, u173, u174, u175, u176, u177, u178, u179, u180, u181, u182, u183, u184], []⟩ wx) := Lib.hid (fun qa wx K1 => rest qa _ wx K1 rfl)
  clear rest
  generalize pl kindsL (ws.headD ⟨#[]⟩) = κ at hk0 hk1 hkd HR
  have hst : ((ws.tail, false || ws.isEmpty) : St) = St.word (ws, false) := rfl
  generalize St.word (ws, false) = s0 at hst HR ⊢
  rw [show ws.tail = s0.1 from congrArg Prod.fst hst, show (false || ws.isEmpty) = s0.2 from congrArg Prod.snd hst] at hwd
  generalize ws.headD ⟨#[]⟩ = x0 at hwd hkd
  have next : ∀ {w2 w3 : World}, PSt w2 (w.heap.size + 1 + 1) (w.heap.size + 1 + 1 + 1) (w.heap.size + 1 + 1 + 1 + 1) (w.heap.size + 1 + 1 + 1 + 1 + 1) s0.1 s0.2 → Fr (RB (w.heap.size + 1 + 1) (w.heap.size + 1 + 1 + 1)) (WP w ws n) w2 → Below w2.heap.size w2 w3 → _ := fun {w2 w3} => @QI_start w w2 w3 ws n s0 κ
  unfold WP at hwd
  unfold kindsT at hkd
  clear hw hn hst
  go_enter Tryz.func4, Tryz.ntmps4
  go_upto_region 7 with (first | (go_at_call 12; refine (split_as 32 s HW.out HN.out (by omega) EW).mono ?_; rintro e w1 ⟨rfl, rfl⟩) | (go_at_call 13; refine hwd.mono ?_; rintro e w2 ⟨rfl, hp2, hf2⟩; have E2 := EP.fr hf2 (fun k hk => by rcases hk with e | e <;> omega)) | (go_at_call 19; refine (hkd _ E2).mono ?_; rintro e w3 ⟨rfl, hb3⟩; have H3 := next hp2 hf2 hb3; have lq := H3.lt.1) | (refine wpList_store_row (P := Tryz.prog) rfl 34 (.tmp 10) (.tmp 33) rfl w3.heap.size #[.int .u8 κ, .string ⟨#[]⟩, .string ⟨#[]⟩, .string ⟨#[]⟩, .int .u8 0, .bool false, .int .i64 0, .int .u32 0, .int .i64 0, .int .u32 0, .int .i64 0, .int .u32 0, .int .u32 0, .int .u32 0, .int .u32 0, .int .u32 0, .int .u32 0, .int .u8 0, .int .u16 0, .int .u16 0, .int .i64 0, .int .u32 0] rfl rfl 34 Q.zero.cells (heap_alloc_new _ _) (by kernel_rfl) rfl (Q.one { Q.zero with kind := κ }) ?_; dsimp only [Act.put]))
  have c0 := H3.cKind
  go_cut [10, 35] (fun s10 s35 wx => ∃ qa : Nat, s10 = .pointer (some ⟨qa, 0, none⟩) ∧ s35 = .int .u8 κ ∧ QI w qa s0 { Q.zero with kind := κ } wx)
  case first =>
    go_wp2
    go_meet
    exact ⟨_, rfl, rfl, H3⟩
  case rest =>
  obtain ⟨qa, rfl, rfl, H3⟩ := hcut
  apply_assumption
  apply HR.out
  · exact Lib.hid (fun a w' h => by apply_assumption; exact h)
  · exact H3
end Go.Proofs.YtopccnoinngmbaaGreatDoor
