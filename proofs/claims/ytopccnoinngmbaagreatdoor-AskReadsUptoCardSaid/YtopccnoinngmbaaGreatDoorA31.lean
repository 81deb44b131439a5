/-
  The reference's Parse walked: its end
  The reference's Parse walked: its end
  The reference's Parse walked: its end
-/
import Derived.Test.YtopccnoinngmbaaGreatDoorA29
import Derived.Test.YtopccnoinngmbaaGreatDoorA30

/- The reference's Parse walked: its end -/
namespace Go.Proofs.YtopccnoinngmbaaGreatDoor
open Go.RowKit
set_option maxRecDepth 100000
set_option maxHeartbeats 16000000
set_option linter.unusedVariables false
set_option linter.unusedSimpArgs false

theorem rparse_end_mid {u1 u4 u7 u8 u9 u10 u11 u12 u13 u14 u15 u16 u17 u18 u19 u20 u21 u22 u23 u24 u25 u26 u27 u28 u29 u30 u31 u32 u33 u34 u35 u36 u37 u38 u39 u40 u41 u42 u43 u44 u45 u46 u47 u48 u49 u50 u51 u52 u53 u54 u55 u56 u57 u58 u59 u60 u61 u62 u63 u64 u65 u66 u67 u68 u69 u70 u71 u72 u73 u74 u75 u76 u77 u78 u79 u80 u81 u82 u83 u84 u85 u86 u87 u88 u89 u90 u91 u92 u93 u94 u95 u96 u97 u98 u99 u100 u101 u102 u103 u104 u105 u106 u107 u108 u109 u110 u111 u112 u113 u114 u115 u116 u117 u118 u119 u120 u121 u122 u123 u124 u125 u126 u127 u128 u129 u130 u131 u132 u133 u134 u135 u136 u137 u138 u139 u140 u141 u142 u143 u144 u145 u146 u147 u148 u149 u150 u151 u152 u153 u154 u155 u156 u157 u158 u159 u160 u161 u162 u163 u164 u165 u166 u167 u168 u169 u170 u171 u172 u173 u174 u175 u176 u177 u178 u179 u180 u181 u182 u183 u184 u185 u186 u187 u188 u189 u190 u191 u192 u193 u194 u195 u196 u197 u198 u199 u200 u201 u202 u203 u204 u205 u206 u207 u208 u209 u210 u211 u212 u213 u214 u215 u216 u217 u218 u219 u220 u221 u222 u223 u224 u225 u226 u227 u228 u229 u230 u231 u232 u233 u234 : Value} {s : ByteArray} {w wx : World} {b o qa : Nat} {ws : List ByteArray} {q : Q} {out : Value} (H : RI w b o ws qa q wx) (hq : q.Ok) (sm : q.Sm) (hk : 5 ≤ q.kind ∧ q.kind < 7) (HO : Hid (outR true q s = out)) :
    Code.wp Tryz.prog cREnd (bodyPost Tryz.prog Tryz.f5 (Rq w out)) ⟨#[.string s, u1, .pointer (some ⟨w.heap.size, 0, none⟩), .int .i64 0, u4, .pointer (some ⟨qa, 0, none⟩), .bool true, u7, u8, u9, u10, u11, u12, u13, u14, u15, u16, u17, u18, u19, u20, u21, u22, u23, u24, u25, u26, u27, u28, u29, u30, u31, u32, u33, u34, u35, u36, u37, u38, u39, u40, u41, u42, u43, u44, u45, u46, u47, u48, u49, u50, u51, u52, u53, u54, u55, u56, u57, u58, u59, u60, u61, u62, u63, u64, u65, u66, u67, u68, u69, u70, u71, u72, u73, u74, u75, u76, u77, u78, u79, u80, u81, u82, u83, u84, u85, u86, u87, u88, u89, u90, u91, u92, u93, u94, u95, u96, u97, u98, u99, u100, u101, u102, u103, u104, u105, u106, u107, u108, u109, u110, u111, u112, u113, u114, u115, u116, u117, u118, u119, u120, u121, u122, u123, u124, u125, u126, u127, u128, u129, u130, u131, u132, u133, u134, u135, u136, u137, u138, u139, u140, u141, u142, u143, u144, u145, u146, u147, u148, u149, u150, u151, u152, u153, u154, u155, u156, u157, u158, u159, u160, u161, u162, u163, u164, u165, u166, u167, u168, u169, u170, u171, u172, u173, u174, u175, u176, u177, u178, u179, u180, u181, u182, u183, u184, u185, u186, u187, u188, u189, u190, u191, u192, u193, u194, u195, u196, u197, u198, u199, u200, u201, u202, u203, u204, u205, u206, u207, u208, u209, u210, u211, u212, u213, u214, u215, u216, u217, u218, u219, u220, u221, u222, u223, u224, u225, u226, u227, u228, u229, u230, u231, u232, u233, u234], []⟩ wx := by
  unfold cREnd
  conv => arg 2; whnf
  generalize hQ : (bodyPost Tryz.prog Tryz.f5 (Rq w out)) = Qf
  have sd := sm.d
  have si := sm.i
  have c0 := H.c0
  have c1 := H.c1
  have c2 := H.c2
  have k0 := hq.k0
  have k1 := hq.k1
  obtain ⟨hk0, hk1⟩ := hk
  have hk2 : ¬ q.kind < 5 := by omega
  obtain ⟨nd, hnd⟩ : ∃ nd, isName q.dev.data.toList = nd := ⟨_, rfl⟩
  have HD := Lib.hid hnd
  cases nd with
  | false =>
    have HO2 : Hid (Value.tuple #[.agg Q.zero.cells, .int .i64 4] = out) := Lib.hid (by
      have hbad : rBad true q s = true := by unfold rBad; simp [hk1, hnd]
      have ho := HO.out
      rw [outR, hbad] at ho
      exact ho)
    clear hnd
    go_wp2_with (first | (go_at_call 33; (with_reducible refine (name_as HD.out sd _).mono ?_); rintro e w1 ⟨rfl, rfl⟩) | ((with_reducible refine wpList_is (o := ⟨none, .store 41 (.tmp 2) (.tmp 233), _, _, _, _⟩) ?_); refine wpList_store_row (P := Tryz.prog) rfl 41 (.tmp 2) (.tmp 233) rfl w.heap.size Q.zero.cells rfl rfl 41 Q.zero.cells H.res (by kernel_rfl) rfl (Q.one Q.zero) ?_; dsimp only [Act.put]))
    subst hQ
    have hr := fun (tm : Array Value) h2 h3 => results5_row (tmps := tm) (e := 4) h2 h3 (H.res_row Q.zero.cells) rfl
    refine bodyPost_ret (hr _ rfl rfl) rfl ?_
    exact ⟨congrArg _ HO2.out, H.res_bel _⟩
  | true =>
    by_cases hw : wrT q = s.data.toList
    · have hw2 : (wrT q == s.toList) = true := by rw [ByteArray.toList_eq]; simp [hw]
      have HO2 : Hid (Value.tuple #[.agg q.cells, .int .i64 0] = out) := Lib.hid (by
        have hbad : rBad true q s = false := by unfold rBad; simp [hk1, hk2, hnd, hw]
        have ho := HO.out
        rw [outR, hbad] at ho
        exact ho)
      have hw3 : (wrT q != s.toList) = false := by rw [bne, hw2]; rfl
      clear hw hnd
      go_wp2_with (first | (go_at_call 33; (with_reducible refine (name_as HD.out sd _).mono ?_); rintro e w1 ⟨rfl, rfl⟩) | ((with_reducible refine wpList_is (o := ⟨some 228, .load 41 (.tmp 5), _, _, _, _⟩) ?_); refine wpList_load_row_r (P := Tryz.prog) 41 (.tmp 5) rfl rfl qa rfl 41 q.cells (0, 0) _ H.q rfl rfl (by kernel_rfl) ?_; dsimp only [Act.put]) | (go_at_call 11; refine (write_any q hq sm _).mono ?_; rintro e w2 ⟨rfl, hb2⟩; have H2 := H.below hb2) | ((with_reducible refine wpList_is (o := ⟨some 234, .load 41 (.tmp 5), _, _, _, _⟩) ?_); refine wpList_load_row_r (P := Tryz.prog) 41 (.tmp 5) rfl rfl qa rfl 41 q.cells (0, 0) _ H2.q rfl rfl (by kernel_rfl) ?_; dsimp only [Act.put]) | ((with_reducible refine wpList_is (o := ⟨none, .store 41 (.tmp 2) (.tmp 234), _, _, _, _⟩) ?_); refine wpList_store_row (P := Tryz.prog) rfl 41 (.tmp 2) (.tmp 234) rfl w.heap.size q.cells rfl rfl 41 Q.zero.cells H2.res (by kernel_rfl) rfl (Q.one q) ?_; dsimp only [Act.put]))
      subst hQ
      have hr := fun (tm : Array Value) h2 h3 => results5_row (tmps := tm) (e := 0) h2 h3 (H2.res_row q.cells) rfl
      refine bodyPost_ret (hr _ rfl rfl) rfl ?_
      exact ⟨congrArg _ HO2.out, H2.res_bel _⟩
    · have hw2 : (wrT q == s.toList) = false := by rw [ByteArray.toList_eq]; simp [hw]
      have HO2 : Hid (Value.tuple #[.agg Q.zero.cells, .int .i64 4] = out) := Lib.hid (by
        have hbad : rBad true q s = true := by unfold rBad; simp [hk1, hk2, hnd, hw]
        have ho := HO.out
        rw [outR, hbad] at ho
        exact ho)
      have hw3 : (wrT q != s.toList) = true := by rw [bne, hw2]; rfl
      clear hw hnd
      go_wp2_with (first | (go_at_call 33; (with_reducible refine (name_as HD.out sd _).mono ?_); rintro e w1 ⟨rfl, rfl⟩) | ((with_reducible refine wpList_is (o := ⟨some 228, .load 41 (.tmp 5), _, _, _, _⟩) ?_); refine wpList_load_row_r (P := Tryz.prog) 41 (.tmp 5) rfl rfl qa rfl 41 q.cells (0, 0) _ H.q rfl rfl (by kernel_rfl) ?_; dsimp only [Act.put]) | (go_at_call 11; refine (write_any q hq sm _).mono ?_; rintro e w2 ⟨rfl, hb2⟩; have H2 := H.below hb2) | ((with_reducible refine wpList_is (o := ⟨none, .store 41 (.tmp 2) (.tmp 233), _, _, _, _⟩) ?_); refine wpList_store_row (P := Tryz.prog) rfl 41 (.tmp 2) (.tmp 233) rfl w.heap.size Q.zero.cells rfl rfl 41 Q.zero.cells H2.res (by kernel_rfl) rfl (Q.one Q.zero) ?_; dsimp only [Act.put]))
      subst hQ
      have hr := fun (tm : Array Value) h2 h3 => results5_row (tmps := tm) (e := 4) h2 h3 (H2.res_row Q.zero.cells) rfl
      refine bodyPost_ret (hr _ rfl rfl) rfl ?_
      exact ⟨congrArg _ HO2.out, H2.res_bel _⟩
end Go.Proofs.YtopccnoinngmbaaGreatDoor

/- The reference's Parse walked: its end -/
namespace Go.Proofs.YtopccnoinngmbaaGreatDoor
open Go.RowKit
set_option maxRecDepth 100000
set_option maxHeartbeats 16000000
set_option linter.unusedVariables false
set_option linter.unusedSimpArgs false

theorem rparse_end_lo {u1 u4 u7 u8 u9 u10 u11 u12 u13 u14 u15 u16 u17 u18 u19 u20 u21 u22 u23 u24 u25 u26 u27 u28 u29 u30 u31 u32 u33 u34 u35 u36 u37 u38 u39 u40 u41 u42 u43 u44 u45 u46 u47 u48 u49 u50 u51 u52 u53 u54 u55 u56 u57 u58 u59 u60 u61 u62 u63 u64 u65 u66 u67 u68 u69 u70 u71 u72 u73 u74 u75 u76 u77 u78 u79 u80 u81 u82 u83 u84 u85 u86 u87 u88 u89 u90 u91 u92 u93 u94 u95 u96 u97 u98 u99 u100 u101 u102 u103 u104 u105 u106 u107 u108 u109 u110 u111 u112 u113 u114 u115 u116 u117 u118 u119 u120 u121 u122 u123 u124 u125 u126 u127 u128 u129 u130 u131 u132 u133 u134 u135 u136 u137 u138 u139 u140 u141 u142 u143 u144 u145 u146 u147 u148 u149 u150 u151 u152 u153 u154 u155 u156 u157 u158 u159 u160 u161 u162 u163 u164 u165 u166 u167 u168 u169 u170 u171 u172 u173 u174 u175 u176 u177 u178 u179 u180 u181 u182 u183 u184 u185 u186 u187 u188 u189 u190 u191 u192 u193 u194 u195 u196 u197 u198 u199 u200 u201 u202 u203 u204 u205 u206 u207 u208 u209 u210 u211 u212 u213 u214 u215 u216 u217 u218 u219 u220 u221 u222 u223 u224 u225 u226 u227 u228 u229 u230 u231 u232 u233 u234 : Value} {s : ByteArray} {w wx : World} {b o qa : Nat} {ws : List ByteArray} {q : Q} {out : Value} (H : RI w b o ws qa q wx) (hq : q.Ok) (sm : q.Sm) (hk : q.kind < 5) (HO : Hid (outR true q s = out)) :
    Code.wp Tryz.prog cREnd (bodyPost Tryz.prog Tryz.f5 (Rq w out)) ⟨#[.string s, u1, .pointer (some ⟨w.heap.size, 0, none⟩), .int .i64 0, u4, .pointer (some ⟨qa, 0, none⟩), .bool true, u7, u8, u9, u10, u11, u12, u13, u14, u15, u16, u17, u18, u19, u20, u21, u22, u23, u24, u25, u26, u27, u28, u29, u30, u31, u32, u33, u34, u35, u36, u37, u38, u39, u40, u41, u42, u43, u44, u45, u46, u47, u48, u49, u50, u51, u52, u53, u54, u55, u56, u57, u58, u59, u60, u61, u62, u63, u64, u65, u66, u67, u68, u69, u70, u71, u72, u73, u74, u75, u76, u77, u78, u79, u80, u81, u82, u83, u84, u85, u86, u87, u88, u89, u90, u91, u92, u93, u94, u95, u96, u97, u98, u99, u100, u101, u102, u103, u104, u105, u106, u107, u108, u109, u110, u111, u112, u113, u114, u115, u116, u117, u118, u119, u120, u121, u122, u123, u124, u125, u126, u127, u128, u129, u130, u131, u132, u133, u134, u135, u136, u137, u138, u139, u140, u141, u142, u143, u144, u145, u146, u147, u148, u149, u150, u151, u152, u153, u154, u155, u156, u157, u158, u159, u160, u161, u162, u163, u164, u165, u166, u167, u168, u169, u170, u171, u172, u173, u174, u175, u176, u177, u178, u179, u180, u181, u182, u183, u184, u185, u186, u187, u188, u189, u190, u191, u192, u193, u194, u195, u196, u197, u198, u199, u200, u201, u202, u203, u204, u205, u206, u207, u208, u209, u210, u211, u212, u213, u214, u215, u216, u217, u218, u219, u220, u221, u222, u223, u224, u225, u226, u227, u228, u229, u230, u231, u232, u233, u234], []⟩ wx := by
  unfold cREnd
  conv => arg 2; whnf
  generalize hQ : (bodyPost Tryz.prog Tryz.f5 (Rq w out)) = Qf
  have sd := sm.d
  have si := sm.i
  have c0 := H.c0
  have c1 := H.c1
  have c2 := H.c2
  have k0 := hq.k0
  have k1 := hq.k1
  have hk1 : q.kind < 7 := by omega
  obtain ⟨nd, hnd⟩ : ∃ nd, isName q.dev.data.toList = nd := ⟨_, rfl⟩
  have HD := Lib.hid hnd
  obtain ⟨ni, hni⟩ : ∃ ni, isName q.ifc.data.toList = ni := ⟨_, rfl⟩
  have HI := Lib.hid hni
  cases nd with
  | false =>
    have HO2 : Hid (Value.tuple #[.agg Q.zero.cells, .int .i64 4] = out) := Lib.hid (by
      have hbad : rBad true q s = true := by unfold rBad; simp [hk1, hnd]
      have ho := HO.out
      rw [outR, hbad] at ho
      exact ho)
    clear hnd hni
    go_wp2_with (first | (go_at_call 33; (with_reducible refine (name_as HD.out sd _).mono ?_); rintro e w1 ⟨rfl, rfl⟩) | ((with_reducible refine wpList_is (o := ⟨none, .store 41 (.tmp 2) (.tmp 233), _, _, _, _⟩) ?_); refine wpList_store_row (P := Tryz.prog) rfl 41 (.tmp 2) (.tmp 233) rfl w.heap.size Q.zero.cells rfl rfl 41 Q.zero.cells H.res (by kernel_rfl) rfl (Q.one Q.zero) ?_; dsimp only [Act.put]))
    subst hQ
    have hr := fun (tm : Array Value) h2 h3 => results5_row (tmps := tm) (e := 4) h2 h3 (H.res_row Q.zero.cells) rfl
    refine bodyPost_ret (hr _ rfl rfl) rfl ?_
    exact ⟨congrArg _ HO2.out, H.res_bel _⟩
  | true =>
    cases ni with
    | false =>
      have HO2 : Hid (Value.tuple #[.agg Q.zero.cells, .int .i64 4] = out) := Lib.hid (by
        have hbad : rBad true q s = true := by unfold rBad; simp [hk1, hk, hnd, hni]
        have ho := HO.out
        rw [outR, hbad] at ho
        exact ho)
      clear hnd hni
      go_wp2_with (first | (go_at_call 33; (with_reducible refine (name_as HD.out sd _).mono ?_); rintro e w1 ⟨rfl, rfl⟩) | (go_at_call 33; (with_reducible refine (name_as HI.out si _).mono ?_); rintro e w1 ⟨rfl, rfl⟩) | ((with_reducible refine wpList_is (o := ⟨none, .store 41 (.tmp 2) (.tmp 233), _, _, _, _⟩) ?_); refine wpList_store_row (P := Tryz.prog) rfl 41 (.tmp 2) (.tmp 233) rfl w.heap.size Q.zero.cells rfl rfl 41 Q.zero.cells H.res (by kernel_rfl) rfl (Q.one Q.zero) ?_; dsimp only [Act.put]))
      subst hQ
      have hr := fun (tm : Array Value) h2 h3 => results5_row (tmps := tm) (e := 4) h2 h3 (H.res_row Q.zero.cells) rfl
      refine bodyPost_ret (hr _ rfl rfl) rfl ?_
      exact ⟨congrArg _ HO2.out, H.res_bel _⟩
    | true =>
      by_cases hw : wrT q = s.data.toList
      · have hw2 : (wrT q == s.toList) = true := by rw [ByteArray.toList_eq]; simp [hw]
        have HO2 : Hid (Value.tuple #[.agg q.cells, .int .i64 0] = out) := Lib.hid (by
          have hbad : rBad true q s = false := by unfold rBad; simp [hk1, hk, hnd, hni, hw]
          have ho := HO.out
          rw [outR, hbad] at ho
          exact ho)
        have hw3 : (wrT q != s.toList) = false := by rw [bne, hw2]; rfl
        clear hw hnd hni
        go_wp2_with (first | (go_at_call 33; (with_reducible refine (name_as HD.out sd _).mono ?_); rintro e w1 ⟨rfl, rfl⟩) | (go_at_call 33; (with_reducible refine (name_as HI.out si _).mono ?_); rintro e w1 ⟨rfl, rfl⟩) | ((with_reducible refine wpList_is (o := ⟨some 228, .load 41 (.tmp 5), _, _, _, _⟩) ?_); refine wpList_load_row_r (P := Tryz.prog) 41 (.tmp 5) rfl rfl qa rfl 41 q.cells (0, 0) _ H.q rfl rfl (by kernel_rfl) ?_; dsimp only [Act.put]) | (go_at_call 11; refine (write_any q hq sm _).mono ?_; rintro e w2 ⟨rfl, hb2⟩; have H2 := H.below hb2) | ((with_reducible refine wpList_is (o := ⟨some 234, .load 41 (.tmp 5), _, _, _, _⟩) ?_); refine wpList_load_row_r (P := Tryz.prog) 41 (.tmp 5) rfl rfl qa rfl 41 q.cells (0, 0) _ H2.q rfl rfl (by kernel_rfl) ?_; dsimp only [Act.put]) | ((with_reducible refine wpList_is (o := ⟨none, .store 41 (.tmp 2) (.tmp 234), _, _, _, _⟩) ?_); refine wpList_store_row (P := Tryz.prog) rfl 41 (.tmp 2) (.tmp 234) rfl w.heap.size q.cells rfl rfl 41 Q.zero.cells H2.res (by kernel_rfl) rfl (Q.one q) ?_; dsimp only [Act.put]))
        subst hQ
        have hr := fun (tm : Array Value) h2 h3 => results5_row (tmps := tm) (e := 0) h2 h3 (H2.res_row q.cells) rfl
        refine bodyPost_ret (hr _ rfl rfl) rfl ?_
        exact ⟨congrArg _ HO2.out, H2.res_bel _⟩
      · have hw2 : (wrT q == s.toList) = false := by rw [ByteArray.toList_eq]; simp [hw]
        have HO2 : Hid (Value.tuple #[.agg Q.zero.cells, .int .i64 4] = out) := Lib.hid (by
          have hbad : rBad true q s = true := by unfold rBad; simp [hk1, hk, hnd, hni, hw]
          have ho := HO.out
          rw [outR, hbad] at ho
          exact ho)
        have hw3 : (wrT q != s.toList) = true := by rw [bne, hw2]; rfl
        clear hw hnd hni
        go_wp2_with (first | (go_at_call 33; (with_reducible refine (name_as HD.out sd _).mono ?_); rintro e w1 ⟨rfl, rfl⟩) | (go_at_call 33; (with_reducible refine (name_as HI.out si _).mono ?_); rintro e w1 ⟨rfl, rfl⟩) | ((with_reducible refine wpList_is (o := ⟨some 228, .load 41 (.tmp 5), _, _, _, _⟩) ?_); refine wpList_load_row_r (P := Tryz.prog) 41 (.tmp 5) rfl rfl qa rfl 41 q.cells (0, 0) _ H.q rfl rfl (by kernel_rfl) ?_; dsimp only [Act.put]) | (go_at_call 11; refine (write_any q hq sm _).mono ?_; rintro e w2 ⟨rfl, hb2⟩; have H2 := H.below hb2) | ((with_reducible refine wpList_is (o := ⟨none, .store 41 (.tmp 2) (.tmp 233), _, _, _, _⟩) ?_); refine wpList_store_row (P := Tryz.prog) rfl 41 (.tmp 2) (.tmp 233) rfl w.heap.size Q.zero.cells rfl rfl 41 Q.zero.cells H2.res (by kernel_rfl) rfl (Q.one Q.zero) ?_; dsimp only [Act.put]))
        subst hQ
        have hr := fun (tm : Array Value) h2 h3 => results5_row (tmps := tm) (e := 4) h2 h3 (H2.res_row Q.zero.cells) rfl
        refine bodyPost_ret (hr _ rfl rfl) rfl ?_
        exact ⟨congrArg _ HO2.out, H2.res_bel _⟩
end Go.Proofs.YtopccnoinngmbaaGreatDoor

/- The reference's Parse walked: its end -/
namespace Go.Proofs.YtopccnoinngmbaaGreatDoor
open Go.RowKit
set_option maxRecDepth 100000
set_option maxHeartbeats 16000000
set_option linter.unusedVariables false
set_option linter.unusedSimpArgs false

theorem rparse_end {u1 u4 u7 u8 u9 u10 u11 u12 u13 u14 u15 u16 u17 u18 u19 u20 u21 u22 u23 u24 u25 u26 u27 u28 u29 u30 u31 u32 u33 u34 u35 u36 u37 u38 u39 u40 u41 u42 u43 u44 u45 u46 u47 u48 u49 u50 u51 u52 u53 u54 u55 u56 u57 u58 u59 u60 u61 u62 u63 u64 u65 u66 u67 u68 u69 u70 u71 u72 u73 u74 u75 u76 u77 u78 u79 u80 u81 u82 u83 u84 u85 u86 u87 u88 u89 u90 u91 u92 u93 u94 u95 u96 u97 u98 u99 u100 u101 u102 u103 u104 u105 u106 u107 u108 u109 u110 u111 u112 u113 u114 u115 u116 u117 u118 u119 u120 u121 u122 u123 u124 u125 u126 u127 u128 u129 u130 u131 u132 u133 u134 u135 u136 u137 u138 u139 u140 u141 u142 u143 u144 u145 u146 u147 u148 u149 u150 u151 u152 u153 u154 u155 u156 u157 u158 u159 u160 u161 u162 u163 u164 u165 u166 u167 u168 u169 u170 u171 u172 u173 u174 u175 u176 u177 u178 u179 u180 u181 u182 u183 u184 u185 u186 u187 u188 u189 u190 u191 u192 u193 u194 u195 u196 u197 u198 u199 u200 u201 u202 u203 u204 u205 u206 u207 u208 u209 u210 u211 u212 u213 u214 u215 u216 u217 u218 u219 u220 u221 u222 u223 u224 u225 u226 u227 u228 u229 u230 u231 u232 u233 u234 : Value} {s : ByteArray} {w wx : World} {b o qa : Nat} {ws : List ByteArray} {q : Q} {ok : Bool} {out : Value} (H : RI w b o ws qa q wx) (hq : ok = true → q.Ok) (sm : q.Sm) (HO : Hid (outR ok q s = out)) :
    Code.wp Tryz.prog cREnd (bodyPost Tryz.prog Tryz.f5 (Rq w out)) ⟨#[.string s, u1, .pointer (some ⟨w.heap.size, 0, none⟩), .int .i64 0, u4, .pointer (some ⟨qa, 0, none⟩), .bool ok, u7, u8, u9, u10, u11, u12, u13, u14, u15, u16, u17, u18, u19, u20, u21, u22, u23, u24, u25, u26, u27, u28, u29, u30, u31, u32, u33, u34, u35, u36, u37, u38, u39, u40, u41, u42, u43, u44, u45, u46, u47, u48, u49, u50, u51, u52, u53, u54, u55, u56, u57, u58, u59, u60, u61, u62, u63, u64, u65, u66, u67, u68, u69, u70, u71, u72, u73, u74, u75, u76, u77, u78, u79, u80, u81, u82, u83, u84, u85, u86, u87, u88, u89, u90, u91, u92, u93, u94, u95, u96, u97, u98, u99, u100, u101, u102, u103, u104, u105, u106, u107, u108, u109, u110, u111, u112, u113, u114, u115, u116, u117, u118, u119, u120, u121, u122, u123, u124, u125, u126, u127, u128, u129, u130, u131, u132, u133, u134, u135, u136, u137, u138, u139, u140, u141, u142, u143, u144, u145, u146, u147, u148, u149, u150, u151, u152, u153, u154, u155, u156, u157, u158, u159, u160, u161, u162, u163, u164, u165, u166, u167, u168, u169, u170, u171, u172, u173, u174, u175, u176, u177, u178, u179, u180, u181, u182, u183, u184, u185, u186, u187, u188, u189, u190, u191, u192, u193, u194, u195, u196, u197, u198, u199, u200, u201, u202, u203, u204, u205, u206, u207, u208, u209, u210, u211, u212, u213, u214, u215, u216, u217, u218, u219, u220, u221, u222, u223, u224, u225, u226, u227, u228, u229, u230, u231, u232, u233, u234], []⟩ wx := by
  cases ok with
  | false => exact rparse_end_no H HO
  | true =>
    by_cases h5 : q.kind < 5
    · exact rparse_end_lo H (hq rfl) sm h5 HO
    by_cases h7 : q.kind < 7
    · exact rparse_end_mid H (hq rfl) sm ⟨by omega, h7⟩ HO
    exact rparse_end_hi H (hq rfl) sm (by omega) HO
end Go.Proofs.YtopccnoinngmbaaGreatDoor
