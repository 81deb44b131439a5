/-
  ask.Parse walked: the kind 3
  ask.Parse walked: the kind 4
  ask.Parse walked: the kind 5
  ask.Parse walked: the kind 6
  ask.Parse walked: the kind 7
-/
import Derived.Test.YtopccnoinngmbaaGreatDoorA17
import Derived.Test.YtopccnoinngmbaaGreatDoorA18
import Derived.BigRegion
import Derived.RegionTactic

/- ask.Parse walked: the kind 3 -/
namespace Go.Proofs.YtopccnoinngmbaaGreatDoor
open Go.RowKit
set_option maxRecDepth 100000
set_option maxHeartbeats 16000000
set_option linter.unusedVariables false
set_option linter.unusedSimpArgs false

theorem parse_kind3 {u1 u11 u12 u13 u14 u15 u16 u17 u18 u19 u20 u21 u22 u23 u24 u25 u26 u27 u28 u29 u30 u31 u32 u33 u34 u36 u37 u38 u39 u40 u41 u42 u43 u44 u45 u46 u47 u48 u49 u50 u51 u52 u53 u54 u55 u56 u57 u58 u59 u60 u61 u62 u63 u64 u65 u66 u67 u68 u69 u70 u71 u72 u73 u74 u75 u76 u77 u78 u79 u80 u81 u82 u83 u84 u85 u86 u87 u88 u89 u90 u91 u92 u93 u94 u95 u96 u97 u98 u99 u100 u101 u102 u103 u104 u105 u106 u107 u108 u109 u110 u111 u112 u113 u114 u115 u116 u117 u118 u119 u120 u121 u122 u123 u124 u125 u126 u127 u128 u129 u130 u131 u132 u133 u134 u135 u136 u137 u138 u139 u140 u141 u142 u143 u144 u145 u146 u147 u148 u149 u150 u151 u152 u153 u154 u155 u156 u157 u158 u159 u160 u161 u162 u163 u164 u165 u166 u167 u168 u169 u170 u171 u172 u173 u174 u175 u176 u177 u178 u179 u180 u181 u182 u183 u184 : Value} {s : ByteArray} {w wx : World} {qa : Nat} {s0 : St} {out : Value} {K1 : Act → World → Prop} (HK : Hid (∀ a w', Code.wp Tryz.prog cEnd (bodyPost Tryz.prog Tryz.f4 (Rq w out)) a w' → K1 a w')) (E : Env w) (H3 : QI w qa s0 { Q.zero with kind := 3 } wx)
    (HO : Hid (run3 (stA1 s0) (qA1 s0 { Q.zero with kind := 3 }) = out)) :
    Code.wp Tryz.prog cBlock (Exit.then K1 (bodyPost Tryz.prog Tryz.f4 (Rq w out))) ⟨#[.string s, u1, .pointer (some ⟨w.heap.size, 0, none⟩), .int .i64 0, .pointer (some ⟨w.heap.size + 1 + 1, 0, none⟩), .pointer (some ⟨w.heap.size + 1 + 1 + 1, 0, none⟩), .pointer (some ⟨w.heap.size + 1 + 1 + 1 + 1, 0, none⟩), .func (.func 14) #[] #[.pointer (some ⟨w.heap.size + 1 + 1 + 1 + 1, 0, none⟩), .pointer (some ⟨w.heap.size + 1 + 1 + 1, 0, none⟩)], .pointer (some ⟨w.heap.size + 1 + 1 + 1 + 1 + 1, 0, none⟩), .func (.func 17) #[] #[.pointer (some ⟨w.heap.size + 1 + 1 + 1 + 1 + 1, 0, none⟩), .pointer (some ⟨w.heap.size + 1 + 1 + 1 + 1, 0, none⟩), .pointer (some ⟨w.heap.size + 1 + 1 + 1, 0, none⟩)], .pointer (some ⟨qa, 0, none⟩), u11, u12, u13, u14, u15, u16, u17, u18, u19, u20, u21, u22, u23, u24, u25, u26, u27, u28, u29, u30, u31, u32, u33, u34, .int .u8 3, u36, u37, u38, u39, u40, u41, u42, u43, u44, u45, u46, u47, u48, u49, u50, u51, u52, u53, u54, u55, u56, u57, u58, u59, u60, u61, u62, u63, u64, u65, u66, u67, u68, u69, u70, u71, u72, u73, u74, u75, u76, u77, u78, u79, u80, u81, u82, u83, u84, u85, u86, u87, u88, u89, u90, u91, u92, u93, u94, u95, u96, u97, u98, u99, u100, u101, u102, u103, u104, u105, u106, u107, u108, u109, u110, u111, u112, u113, u114, u115, u116, u117, u118, u119, u120, u121, u122, u123, u124, u125, u126, u127, u128, u129, u130, u131, u132, u133, u134, u135, u136, u137, u138, u139, u140, u141, u142, u143, u144, u145, u146, u147, u148, u149, u150, u151, u152, u153, u154, u155, u156, u157, u158, u159, u160, u161, u162, u163, u164, u165, u166, u167, u168, u169, u170, u171, u172, u173, u174, u175, u176, u177, u178, u179, u180, u181, u182, u183, u184], []⟩ wx := by
  unfold cBlock
  conv => arg 2; whnf
  have HQ0 := Lib.hid (rfl : ({ Q.zero with kind := 3 } : Q) = { Q.zero with kind := 3 })
  have c0 := H3.cKind
  go_upto_region 13 with (first | (go_at_call 14; (with_reducible refine H3.name.mono ?_); rintro e w4 ⟨rfl, H4⟩) | (go_at_call 14; (with_reducible refine H4.name.mono ?_); rintro e w5 ⟨rfl, H5⟩) | (go_at_call 20; refine (heads_any _).mono ?_; rintro e w6 ⟨rfl, hb6⟩; have H6 := H5.below hb6; have c1 := H6.cDev; have f1 := H6.free 1; have c2 := H6.cIfc; have f2 := H6.free 2) | (refine wp_setRule rfl (.tmp 47) (.tmp 44) rfl rfl rfl rfl (H6.setNames s0.head s0.name.head) ?_; intro w7 H7; obtain ⟨κ, hκ⟩ : ∃ κ : Int, κ = 3 := ⟨3, rfl⟩; have k7 : w7.cell? ⟨qa, 0, none⟩ = some (.int .u8 κ) := hκ ▸ H7.cKind; have HL := Lib.hid hκ; clear hκ))
  go_upto_if 50 with (fail)
  go_cut [] (fun wx => QI w qa (stA1 s0) (qA1 s0 { Q.zero with kind := 3 }) wx)
  case first =>
    have hκ := HL.out
    have hn : ¬ κ < 3 := by omega
    clear hκ
    go_wp2
    go_meet
    exact H7
  case rest =>
  have H11 := hcut
  apply_assumption
  exact parse_tail HK E H11 HO
end Go.Proofs.YtopccnoinngmbaaGreatDoor

/- ask.Parse walked: the kind 4 -/
namespace Go.Proofs.YtopccnoinngmbaaGreatDoor
open Go.RowKit
set_option maxRecDepth 100000
set_option maxHeartbeats 16000000
set_option linter.unusedVariables false
set_option linter.unusedSimpArgs false

theorem parse_kind4 {u1 u11 u12 u13 u14 u15 u16 u17 u18 u19 u20 u21 u22 u23 u24 u25 u26 u27 u28 u29 u30 u31 u32 u33 u34 u36 u37 u38 u39 u40 u41 u42 u43 u44 u45 u46 u47 u48 u49 u50 u51 u52 u53 u54 u55 u56 u57 u58 u59 u60 u61 u62 u63 u64 u65 u66 u67 u68 u69 u70 u71 u72 u73 u74 u75 u76 u77 u78 u79 u80 u81 u82 u83 u84 u85 u86 u87 u88 u89 u90 u91 u92 u93 u94 u95 u96 u97 u98 u99 u100 u101 u102 u103 u104 u105 u106 u107 u108 u109 u110 u111 u112 u113 u114 u115 u116 u117 u118 u119 u120 u121 u122 u123 u124 u125 u126 u127 u128 u129 u130 u131 u132 u133 u134 u135 u136 u137 u138 u139 u140 u141 u142 u143 u144 u145 u146 u147 u148 u149 u150 u151 u152 u153 u154 u155 u156 u157 u158 u159 u160 u161 u162 u163 u164 u165 u166 u167 u168 u169 u170 u171 u172 u173 u174 u175 u176 u177 u178 u179 u180 u181 u182 u183 u184 : Value} {s : ByteArray} {w wx : World} {qa : Nat} {s0 : St} {out : Value} {K1 : Act → World → Prop} (HK : Hid (∀ a w', Code.wp Tryz.prog cEnd (bodyPost Tryz.prog Tryz.f4 (Rq w out)) a w' → K1 a w')) (E : Env w) (H3 : QI w qa s0 { Q.zero with kind := 4 } wx)
    (hj : (joinB (stA1 s0).word.1).size ≤ 16777216) (HO : Hid (outQ (stH (stA1 s0)) (qH (stA1 s0) { Q.zero with kind := 4, dev := s0.head, ifc := s0.name.head }) = out)) :
    Code.wp Tryz.prog cBlock (Exit.then K1 (bodyPost Tryz.prog Tryz.f4 (Rq w out))) ⟨#[.string s, u1, .pointer (some ⟨w.heap.size, 0, none⟩), .int .i64 0, .pointer (some ⟨w.heap.size + 1 + 1, 0, none⟩), .pointer (some ⟨w.heap.size + 1 + 1 + 1, 0, none⟩), .pointer (some ⟨w.heap.size + 1 + 1 + 1 + 1, 0, none⟩), .func (.func 14) #[] #[.pointer (some ⟨w.heap.size + 1 + 1 + 1 + 1, 0, none⟩), .pointer (some ⟨w.heap.size + 1 + 1 + 1, 0, none⟩)], .pointer (some ⟨w.heap.size + 1 + 1 + 1 + 1 + 1, 0, none⟩), .func (.func 17) #[] #[.pointer (some ⟨w.heap.size + 1 + 1 + 1 + 1 + 1, 0, none⟩), .pointer (some ⟨w.heap.size + 1 + 1 + 1 + 1, 0, none⟩), .pointer (some ⟨w.heap.size + 1 + 1 + 1, 0, none⟩)], .pointer (some ⟨qa, 0, none⟩), u11, u12, u13, u14, u15, u16, u17, u18, u19, u20, u21, u22, u23, u24, u25, u26, u27, u28, u29, u30, u31, u32, u33, u34, .int .u8 4, u36, u37, u38, u39, u40, u41, u42, u43, u44, u45, u46, u47, u48, u49, u50, u51, u52, u53, u54, u55, u56, u57, u58, u59, u60, u61, u62, u63, u64, u65, u66, u67, u68, u69, u70, u71, u72, u73, u74, u75, u76, u77, u78, u79, u80, u81, u82, u83, u84, u85, u86, u87, u88, u89, u90, u91, u92, u93, u94, u95, u96, u97, u98, u99, u100, u101, u102, u103, u104, u105, u106, u107, u108, u109, u110, u111, u112, u113, u114, u115, u116, u117, u118, u119, u120, u121, u122, u123, u124, u125, u126, u127, u128, u129, u130, u131, u132, u133, u134, u135, u136, u137, u138, u139, u140, u141, u142, u143, u144, u145, u146, u147, u148, u149, u150, u151, u152, u153, u154, u155, u156, u157, u158, u159, u160, u161, u162, u163, u164, u165, u166, u167, u168, u169, u170, u171, u172, u173, u174, u175, u176, u177, u178, u179, u180, u181, u182, u183, u184], []⟩ wx := by
  unfold cBlock
  conv => arg 2; whnf
  have HQ0 := Lib.hid (rfl : ({ Q.zero with kind := 4 } : Q) = { Q.zero with kind := 4 })
  have c0 := H3.cKind
  have HJ := Lib.hid hj
  clear hj
  go_upto_region 28 with (first | (go_at_call 14; (with_reducible refine H3.name.mono ?_); rintro e w4 ⟨rfl, H4⟩) | (go_at_call 14; (with_reducible refine H4.name.mono ?_); rintro e w5 ⟨rfl, H5⟩; have c1 := H5.cDev; have f1 := H5.free 1; have c2 := H5.cIfc; have f2 := H5.free 2))
  have H6 := H5.setNames s0.head s0.name.head
  generalize World.setCell _ ⟨qa, 2, none⟩ _ = w6 at H6 ⊢
  have H7 : QI w qa (stA1 s0) { Q.zero with kind := 4, dev := s0.head, ifc := s0.name.head } w6 := H6
  generalize stA1 s0 = s1 at H7 HO HJ
  generalize ({ Q.zero with kind := 4, dev := s0.head, ifc := s0.name.head } : Q) = q1 at H7 HO
  clear H6 H5 H4 H3 c1 f1 c2 f2 c0
  have cw7 := H7.cellW
  have hx := H7.small
  obtain ⟨n, hn⟩ : ∃ n, (num s1.head 255).getD 0 = n := ⟨_, rfl⟩
  obtain ⟨ok, hk⟩ : ∃ ok, (num s1.head 255).isSome = ok := ⟨_, rfl⟩
  obtain ⟨h, hh⟩ : ∃ h, headV (pHead (joinB s1.word.1)) = h := ⟨_, rfl⟩
  obtain ⟨c, hc⟩ : ∃ c, errV (pHead (joinB s1.word.1)) = c := ⟨_, rfl⟩
  rw [stH_of hk hc, qH_of hn hh] at HO
  have A1 := Lib.hid hn
  have A2 := Lib.hid hk
  have A3 := Lib.hid hh
  have A4 := Lib.hid hc
  clear hn hk hh hc
  go_upto_region 29 with (first | (go_at_call 13; (with_reducible refine H7.word.mono ?_); rintro e w8 ⟨rfl, H8⟩; have E8 := H8.env E) | (go_at_call 21; refine (number_as A1.out A2.out hx E8).mono ?_; rintro e w9 ⟨rfl, hb9⟩; have H9 := H8.below hb9))
  obtain ⟨A, cp, cR, fR, hc1, hc2, hss⟩ := H9.cellR
  generalize hl : s1.word.1.length = m at cR
  have HL := Lib.hid hl
  have hc1' := Lib.hid hc1
  have hss' := Lib.hid hss
  clear hl hc1 hss
  go_upto_region 30 with (first | (go_at_call 24; refine (join_any HL.out hss'.out (HL.out ▸ hc1'.out) hc2 HJ.out).mono ?_; rintro e w10 ⟨rfl, hb10⟩; have H10 := H9.below hb10; have E10 := H10.env E) | (go_at_call 23; refine (headParse_as A3.out A4.out HJ.out E10).mono ?_; rintro e w11 ⟨rfl, hb11⟩; have H11 := (H10.below hb11).alloc (.cells #[.int .u32 h.src, .int .u32 h.dst, .int .u8 h.proto, .int .u16 h.sport, .int .u16 h.dport] 32); have k0 := heap_alloc_new w11 (.cells #[.int .u32 h.src, .int .u32 h.dst, .int .u8 h.proto, .int .u16 h.sport, .int .u16 h.dport] 32)))
  have hcc : c = 0 ∨ c = 4 := by
    have := A4.out
    cases hp : pHead (joinB s1.word.1) with
    | none => rw [hp] at this; exact .inr this.symm
    | some z => rw [hp] at this; exact .inl this.symm
  generalize w11.alloc _ = w12 at H11 k0 ⊢
  have k1 := lt_of_block k0
  generalize w11.heap.size = hz at k0 k1 ⊢
  have c20 := H11.cHops
  have c15 := H11.cH0
  have c16 := H11.cH1
  have c17 := H11.cH2
  have c18 := H11.cH3
  have c19 := H11.cH4
  have cB := H11.cellB
  have fB := H11.freeB
  obtain ⟨A', cp', cR', fR', -, -, -⟩ := H11.cellR
  generalize s1.word.1.length = m' at cR'
  have ne := H11.ne
  have f20 := H11.free 20
  have f15 := H11.free 15
  have f16 := H11.free 16
  have f17 := H11.free 17
  have f18 := H11.free 18
  have f19 := H11.free 19
  obtain ⟨g0, g1, g2, g3, g4⟩ := five_of k0
  clear k0 A1 A2 A3 A4 HJ HL hc1' hss' cR fR H10 H9 H8 H7 hb9 hb10 hb11 E8 E10 cw7
  cases hb : s1.word.2 with
  | true =>
    rw [hb] at cB HO
    go_region
    exact HK.out _ _ (parse_end E (s6 := ([], true)) (((((H11.setHops n).setHd h.src h.dst h.proto h.sport h.dport).emptied).flag true).drew) HO)
  | false =>
    rw [hb] at cB HO
    cases ok with
    | false =>
      go_region
      exact HK.out _ _ (parse_end E (s6 := ([], true)) (((((H11.setHops n).setHd h.src h.dst h.proto h.sport h.dport).emptied).flag true).drew) HO)
    | true =>
      rcases hcc with rfl | rfl
      · go_region
        exact HK.out _ _ (parse_end E (s6 := ([], false)) (((((H11.setHops n).setHd h.src h.dst h.proto h.sport h.dport).emptied).flag false).drew) HO)
      · go_region
        exact HK.out _ _ (parse_end E (s6 := ([], true)) (((((H11.setHops n).setHd h.src h.dst h.proto h.sport h.dport).emptied).flag true).drew) HO)
end Go.Proofs.YtopccnoinngmbaaGreatDoor

/- ask.Parse walked: the kind 5 -/
namespace Go.Proofs.YtopccnoinngmbaaGreatDoor
open Go.RowKit
set_option maxRecDepth 100000
set_option maxHeartbeats 16000000
set_option linter.unusedVariables false
set_option linter.unusedSimpArgs false

theorem parse_kind5 {u1 u11 u12 u13 u14 u15 u16 u17 u18 u19 u20 u21 u22 u23 u24 u25 u26 u27 u28 u29 u30 u31 u32 u33 u34 u36 u37 u38 u39 u40 u41 u42 u43 u44 u45 u46 u47 u48 u49 u50 u51 u52 u53 u54 u55 u56 u57 u58 u59 u60 u61 u62 u63 u64 u65 u66 u67 u68 u69 u70 u71 u72 u73 u74 u75 u76 u77 u78 u79 u80 u81 u82 u83 u84 u85 u86 u87 u88 u89 u90 u91 u92 u93 u94 u95 u96 u97 u98 u99 u100 u101 u102 u103 u104 u105 u106 u107 u108 u109 u110 u111 u112 u113 u114 u115 u116 u117 u118 u119 u120 u121 u122 u123 u124 u125 u126 u127 u128 u129 u130 u131 u132 u133 u134 u135 u136 u137 u138 u139 u140 u141 u142 u143 u144 u145 u146 u147 u148 u149 u150 u151 u152 u153 u154 u155 u156 u157 u158 u159 u160 u161 u162 u163 u164 u165 u166 u167 u168 u169 u170 u171 u172 u173 u174 u175 u176 u177 u178 u179 u180 u181 u182 u183 u184 : Value} {s : ByteArray} {w wx : World} {qa : Nat} {s0 : St} {out : Value} {K1 : Act → World → Prop} (HK : Hid (∀ a w', Code.wp Tryz.prog cEnd (bodyPost Tryz.prog Tryz.f4 (Rq w out)) a w' → K1 a w')) (E : Env w) (H3 : QI w qa s0 { Q.zero with kind := 5 } wx)
    (HO : Hid (outQ (stV s0.name) (qV s0.name { Q.zero with kind := 5, dev := s0.head }) = out)) :
    Code.wp Tryz.prog cBlock (Exit.then K1 (bodyPost Tryz.prog Tryz.f4 (Rq w out))) ⟨#[.string s, u1, .pointer (some ⟨w.heap.size, 0, none⟩), .int .i64 0, .pointer (some ⟨w.heap.size + 1 + 1, 0, none⟩), .pointer (some ⟨w.heap.size + 1 + 1 + 1, 0, none⟩), .pointer (some ⟨w.heap.size + 1 + 1 + 1 + 1, 0, none⟩), .func (.func 14) #[] #[.pointer (some ⟨w.heap.size + 1 + 1 + 1 + 1, 0, none⟩), .pointer (some ⟨w.heap.size + 1 + 1 + 1, 0, none⟩)], .pointer (some ⟨w.heap.size + 1 + 1 + 1 + 1 + 1, 0, none⟩), .func (.func 17) #[] #[.pointer (some ⟨w.heap.size + 1 + 1 + 1 + 1 + 1, 0, none⟩), .pointer (some ⟨w.heap.size + 1 + 1 + 1 + 1, 0, none⟩), .pointer (some ⟨w.heap.size + 1 + 1 + 1, 0, none⟩)], .pointer (some ⟨qa, 0, none⟩), u11, u12, u13, u14, u15, u16, u17, u18, u19, u20, u21, u22, u23, u24, u25, u26, u27, u28, u29, u30, u31, u32, u33, u34, .int .u8 5, u36, u37, u38, u39, u40, u41, u42, u43, u44, u45, u46, u47, u48, u49, u50, u51, u52, u53, u54, u55, u56, u57, u58, u59, u60, u61, u62, u63, u64, u65, u66, u67, u68, u69, u70, u71, u72, u73, u74, u75, u76, u77, u78, u79, u80, u81, u82, u83, u84, u85, u86, u87, u88, u89, u90, u91, u92, u93, u94, u95, u96, u97, u98, u99, u100, u101, u102, u103, u104, u105, u106, u107, u108, u109, u110, u111, u112, u113, u114, u115, u116, u117, u118, u119, u120, u121, u122, u123, u124, u125, u126, u127, u128, u129, u130, u131, u132, u133, u134, u135, u136, u137, u138, u139, u140, u141, u142, u143, u144, u145, u146, u147, u148, u149, u150, u151, u152, u153, u154, u155, u156, u157, u158, u159, u160, u161, u162, u163, u164, u165, u166, u167, u168, u169, u170, u171, u172, u173, u174, u175, u176, u177, u178, u179, u180, u181, u182, u183, u184], []⟩ wx := by
  unfold cBlock
  conv => arg 2; whnf
  have HQ0 := Lib.hid (rfl : ({ Q.zero with kind := 5 } : Q) = { Q.zero with kind := 5 })
  have c0 := H3.cKind
  go_upto_if 158 with (first | (go_at_call 14; (with_reducible refine H3.name.mono ?_); rintro e w4 ⟨rfl, H4⟩; have c1 := H4.cDev; have f1 := H4.free 1; have H5 := H4.setDev s0.head; have cI := H5.cellI; have ne := H4.ne) | (go_at_call 16; (with_reducible refine H5.isVrf.mono ?_); rintro e w6 ⟨rfl, H6⟩))
  generalize s0.name = s1 at H6 HO ⊢
  have HQ : QI w qa (s1.after wVrf) { Q.zero with kind := 5, dev := s0.head } w6 := H6
  generalize ({ Q.zero with kind := 5, dev := s0.head } : Q) = q1 at HQ HO
  clear H6 H5 H4 H3 c1 f1 cI c0
  cases hW : s1.isW wVrf with
  | false =>
    rw [after_no hW] at HQ
    rw [stV_no hW, qV_no hW] at HO
    go_wp2
    exact HK.out _ _ (parse_end E HQ HO)
  | true =>
    rw [stV_yes hW, qV_yes hW] at HO
    have cW := HQ.cellW
    go_wp2_with (go_at_call 14; (with_reducible refine HQ.name.mono ?_); rintro e w7 ⟨rfl, H7⟩; have c3 := H7.cVrf; have f3 := H7.free 3)
    exact HK.out _ _ (parse_end E (H7.setVrf (s1.after wVrf).head) HO)
end Go.Proofs.YtopccnoinngmbaaGreatDoor

/- ask.Parse walked: the kind 6 -/
namespace Go.Proofs.YtopccnoinngmbaaGreatDoor
open Go.RowKit
set_option maxRecDepth 100000
set_option maxHeartbeats 16000000
set_option linter.unusedVariables false
set_option linter.unusedSimpArgs false

theorem parse_kind6 {u1 u11 u12 u13 u14 u15 u16 u17 u18 u19 u20 u21 u22 u23 u24 u25 u26 u27 u28 u29 u30 u31 u32 u33 u34 u36 u37 u38 u39 u40 u41 u42 u43 u44 u45 u46 u47 u48 u49 u50 u51 u52 u53 u54 u55 u56 u57 u58 u59 u60 u61 u62 u63 u64 u65 u66 u67 u68 u69 u70 u71 u72 u73 u74 u75 u76 u77 u78 u79 u80 u81 u82 u83 u84 u85 u86 u87 u88 u89 u90 u91 u92 u93 u94 u95 u96 u97 u98 u99 u100 u101 u102 u103 u104 u105 u106 u107 u108 u109 u110 u111 u112 u113 u114 u115 u116 u117 u118 u119 u120 u121 u122 u123 u124 u125 u126 u127 u128 u129 u130 u131 u132 u133 u134 u135 u136 u137 u138 u139 u140 u141 u142 u143 u144 u145 u146 u147 u148 u149 u150 u151 u152 u153 u154 u155 u156 u157 u158 u159 u160 u161 u162 u163 u164 u165 u166 u167 u168 u169 u170 u171 u172 u173 u174 u175 u176 u177 u178 u179 u180 u181 u182 u183 u184 : Value} {s : ByteArray} {w wx : World} {qa : Nat} {s0 : St} {out : Value} {K1 : Act → World → Prop} (HK : Hid (∀ a w', Code.wp Tryz.prog cEnd (bodyPost Tryz.prog Tryz.f4 (Rq w out)) a w' → K1 a w')) (E : Env w) (H3 : QI w qa s0 { Q.zero with kind := 6 } wx)
    (HO : Hid (outQ (stV s0.name) (qV s0.name { Q.zero with kind := 6, dev := s0.head }) = out)) :
    Code.wp Tryz.prog cBlock (Exit.then K1 (bodyPost Tryz.prog Tryz.f4 (Rq w out))) ⟨#[.string s, u1, .pointer (some ⟨w.heap.size, 0, none⟩), .int .i64 0, .pointer (some ⟨w.heap.size + 1 + 1, 0, none⟩), .pointer (some ⟨w.heap.size + 1 + 1 + 1, 0, none⟩), .pointer (some ⟨w.heap.size + 1 + 1 + 1 + 1, 0, none⟩), .func (.func 14) #[] #[.pointer (some ⟨w.heap.size + 1 + 1 + 1 + 1, 0, none⟩), .pointer (some ⟨w.heap.size + 1 + 1 + 1, 0, none⟩)], .pointer (some ⟨w.heap.size + 1 + 1 + 1 + 1 + 1, 0, none⟩), .func (.func 17) #[] #[.pointer (some ⟨w.heap.size + 1 + 1 + 1 + 1 + 1, 0, none⟩), .pointer (some ⟨w.heap.size + 1 + 1 + 1 + 1, 0, none⟩), .pointer (some ⟨w.heap.size + 1 + 1 + 1, 0, none⟩)], .pointer (some ⟨qa, 0, none⟩), u11, u12, u13, u14, u15, u16, u17, u18, u19, u20, u21, u22, u23, u24, u25, u26, u27, u28, u29, u30, u31, u32, u33, u34, .int .u8 6, u36, u37, u38, u39, u40, u41, u42, u43, u44, u45, u46, u47, u48, u49, u50, u51, u52, u53, u54, u55, u56, u57, u58, u59, u60, u61, u62, u63, u64, u65, u66, u67, u68, u69, u70, u71, u72, u73, u74, u75, u76, u77, u78, u79, u80, u81, u82, u83, u84, u85, u86, u87, u88, u89, u90, u91, u92, u93, u94, u95, u96, u97, u98, u99, u100, u101, u102, u103, u104, u105, u106, u107, u108, u109, u110, u111, u112, u113, u114, u115, u116, u117, u118, u119, u120, u121, u122, u123, u124, u125, u126, u127, u128, u129, u130, u131, u132, u133, u134, u135, u136, u137, u138, u139, u140, u141, u142, u143, u144, u145, u146, u147, u148, u149, u150, u151, u152, u153, u154, u155, u156, u157, u158, u159, u160, u161, u162, u163, u164, u165, u166, u167, u168, u169, u170, u171, u172, u173, u174, u175, u176, u177, u178, u179, u180, u181, u182, u183, u184], []⟩ wx := by
  unfold cBlock
  conv => arg 2; whnf
  have HQ0 := Lib.hid (rfl : ({ Q.zero with kind := 6 } : Q) = { Q.zero with kind := 6 })
  have c0 := H3.cKind
  go_upto_if 158 with (first | (go_at_call 14; (with_reducible refine H3.name.mono ?_); rintro e w4 ⟨rfl, H4⟩; have c1 := H4.cDev; have f1 := H4.free 1; have H5 := H4.setDev s0.head; have cI := H5.cellI; have ne := H4.ne) | (go_at_call 16; (with_reducible refine H5.isVrf.mono ?_); rintro e w6 ⟨rfl, H6⟩))
  generalize s0.name = s1 at H6 HO ⊢
  have HQ : QI w qa (s1.after wVrf) { Q.zero with kind := 6, dev := s0.head } w6 := H6
  generalize ({ Q.zero with kind := 6, dev := s0.head } : Q) = q1 at HQ HO
  clear H6 H5 H4 H3 c1 f1 cI c0
  cases hW : s1.isW wVrf with
  | false =>
    rw [after_no hW] at HQ
    rw [stV_no hW, qV_no hW] at HO
    go_wp2
    exact HK.out _ _ (parse_end E HQ HO)
  | true =>
    rw [stV_yes hW, qV_yes hW] at HO
    have cW := HQ.cellW
    go_wp2_with (go_at_call 14; (with_reducible refine HQ.name.mono ?_); rintro e w7 ⟨rfl, H7⟩; have c3 := H7.cVrf; have f3 := H7.free 3)
    exact HK.out _ _ (parse_end E (H7.setVrf (s1.after wVrf).head) HO)
end Go.Proofs.YtopccnoinngmbaaGreatDoor

/- ask.Parse walked: the kind 7 -/
namespace Go.Proofs.YtopccnoinngmbaaGreatDoor
open Go.RowKit
set_option maxRecDepth 100000
set_option maxHeartbeats 16000000
set_option linter.unusedVariables false
set_option linter.unusedSimpArgs false

theorem parse_kind7 {u1 u11 u12 u13 u14 u15 u16 u17 u18 u19 u20 u21 u22 u23 u24 u25 u26 u27 u28 u29 u30 u31 u32 u33 u34 u36 u37 u38 u39 u40 u41 u42 u43 u44 u45 u46 u47 u48 u49 u50 u51 u52 u53 u54 u55 u56 u57 u58 u59 u60 u61 u62 u63 u64 u65 u66 u67 u68 u69 u70 u71 u72 u73 u74 u75 u76 u77 u78 u79 u80 u81 u82 u83 u84 u85 u86 u87 u88 u89 u90 u91 u92 u93 u94 u95 u96 u97 u98 u99 u100 u101 u102 u103 u104 u105 u106 u107 u108 u109 u110 u111 u112 u113 u114 u115 u116 u117 u118 u119 u120 u121 u122 u123 u124 u125 u126 u127 u128 u129 u130 u131 u132 u133 u134 u135 u136 u137 u138 u139 u140 u141 u142 u143 u144 u145 u146 u147 u148 u149 u150 u151 u152 u153 u154 u155 u156 u157 u158 u159 u160 u161 u162 u163 u164 u165 u166 u167 u168 u169 u170 u171 u172 u173 u174 u175 u176 u177 u178 u179 u180 u181 u182 u183 u184 : Value} {s : ByteArray} {w wx : World} {qa : Nat} {s0 : St} {out : Value} {K1 : Act → World → Prop} (HK : Hid (∀ a w', Code.wp Tryz.prog cEnd (bodyPost Tryz.prog Tryz.f4 (Rq w out)) a w' → K1 a w')) (E : Env w) (H3 : QI w qa s0 { Q.zero with kind := 7 } wx)
    (HO : Hid (outQ (stO s0) (qO s0 { Q.zero with kind := 7 }) = out)) :
    Code.wp Tryz.prog cBlock (Exit.then K1 (bodyPost Tryz.prog Tryz.f4 (Rq w out))) ⟨#[.string s, u1, .pointer (some ⟨w.heap.size, 0, none⟩), .int .i64 0, .pointer (some ⟨w.heap.size + 1 + 1, 0, none⟩), .pointer (some ⟨w.heap.size + 1 + 1 + 1, 0, none⟩), .pointer (some ⟨w.heap.size + 1 + 1 + 1 + 1, 0, none⟩), .func (.func 14) #[] #[.pointer (some ⟨w.heap.size + 1 + 1 + 1 + 1, 0, none⟩), .pointer (some ⟨w.heap.size + 1 + 1 + 1, 0, none⟩)], .pointer (some ⟨w.heap.size + 1 + 1 + 1 + 1 + 1, 0, none⟩), .func (.func 17) #[] #[.pointer (some ⟨w.heap.size + 1 + 1 + 1 + 1 + 1, 0, none⟩), .pointer (some ⟨w.heap.size + 1 + 1 + 1 + 1, 0, none⟩), .pointer (some ⟨w.heap.size + 1 + 1 + 1, 0, none⟩)], .pointer (some ⟨qa, 0, none⟩), u11, u12, u13, u14, u15, u16, u17, u18, u19, u20, u21, u22, u23, u24, u25, u26, u27, u28, u29, u30, u31, u32, u33, u34, .int .u8 7, u36, u37, u38, u39, u40, u41, u42, u43, u44, u45, u46, u47, u48, u49, u50, u51, u52, u53, u54, u55, u56, u57, u58, u59, u60, u61, u62, u63, u64, u65, u66, u67, u68, u69, u70, u71, u72, u73, u74, u75, u76, u77, u78, u79, u80, u81, u82, u83, u84, u85, u86, u87, u88, u89, u90, u91, u92, u93, u94, u95, u96, u97, u98, u99, u100, u101, u102, u103, u104, u105, u106, u107, u108, u109, u110, u111, u112, u113, u114, u115, u116, u117, u118, u119, u120, u121, u122, u123, u124, u125, u126, u127, u128, u129, u130, u131, u132, u133, u134, u135, u136, u137, u138, u139, u140, u141, u142, u143, u144, u145, u146, u147, u148, u149, u150, u151, u152, u153, u154, u155, u156, u157, u158, u159, u160, u161, u162, u163, u164, u165, u166, u167, u168, u169, u170, u171, u172, u173, u174, u175, u176, u177, u178, u179, u180, u181, u182, u183, u184], []⟩ wx := by
  unfold cBlock
  conv => arg 2; whnf
  have HQ0 := Lib.hid (rfl : ({ Q.zero with kind := 7 } : Q) = { Q.zero with kind := 7 })
  have c0 := H3.cKind
  have hx := H3.small
  have cw := H3.cellW
  obtain ⟨a, ha⟩ : ∃ a, (pAddr s0.head).getD 0 = a := ⟨_, rfl⟩
  obtain ⟨c, hc⟩ : ∃ c, errV (pAddr s0.head) = c := ⟨_, rfl⟩
  rw [stO_of hc, show qO s0 { Q.zero with kind := 7 } = ({ Q.zero with kind := 7, addr := a } : Q) by unfold qO; rw [ha]] at HO
  have A1 := Lib.hid ha
  have A2 := Lib.hid hc
  clear ha hc
  go_wp2_with (first | (go_at_call 13; (with_reducible refine H3.word.mono ?_); rintro e w4 ⟨rfl, H4⟩; have E4 := H4.env E) | (go_at_call 25; refine (addr_as A1.out A2.out hx E4).mono ?_; rintro e w5 ⟨rfl, hb5⟩; have H5 := H4.below hb5; have c21 := H5.cAddr; have f21 := H5.free 21; have cB := H5.cellB; have fB := H5.freeB; have ne := H5.ne))
  · rename_i hB
    exact HK.out _ _ (parse_end E ((H5.setAddr a).or1 hB _) HO)
  · rename_i hB
    exact HK.out _ _ (parse_end E ((H5.setAddr a).or0 hB _) HO)
end Go.Proofs.YtopccnoinngmbaaGreatDoor
