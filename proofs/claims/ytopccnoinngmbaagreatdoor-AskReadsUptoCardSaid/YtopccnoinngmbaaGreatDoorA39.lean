/-
  The reference's Parse walked: the kind 3
  The reference's Parse walked: what it answers
  The law's of, the reference's Is.
-/
import Derived.Test.YtopccnoinngmbaaGreatDoorA36
import Derived.Test.YtopccnoinngmbaaGreatDoorA37
import Derived.Test.YtopccnoinngmbaaGreatDoorA38
import Derived.Test.YtopccnoinngmbaaGreatDoorA35
import Derived.Test.YtopccnoinngmbaaGreatDoorA34
import Derived.Test.YtopccnoinngmbaaGreatDoorA33
import Derived.Test.YtopccnoinngmbaaGreatDoorA24

/- The reference's Parse walked: the kind 3 -/
namespace Go.Proofs.YtopccnoinngmbaaGreatDoor
open Go.RowKit
set_option maxRecDepth 100000
set_option maxHeartbeats 16000000
set_option linter.unusedVariables false
set_option linter.unusedSimpArgs false

theorem rparse_k3 {u1 u7 u8 u9 u10 u11 u12 u13 u14 u15 u16 u17 u18 u19 u20 u21 u22 u23 u24 u25 u26 u27 u28 u29 u30 u31 u32 u33 u34 u35 u36 u37 u38 u39 u40 u41 u42 u43 u44 u45 u46 u47 u48 u49 u50 u51 u52 u53 u54 u55 u56 u57 u58 u59 u60 u61 u62 u63 u64 u65 u66 u67 u68 u69 u70 u71 u72 u73 u74 u75 u76 u77 u78 u79 u80 u81 u82 u83 u84 u85 u86 u87 u88 u89 u90 u91 u92 u93 u94 u95 u96 u97 u98 u99 u100 u101 u102 u103 u104 u105 u106 u107 u108 u109 u110 u111 u112 u113 u114 u115 u116 u117 u118 u119 u120 u121 u122 u123 u124 u125 u126 u127 u128 u129 u130 u131 u132 u133 u134 u135 u136 u137 u138 u139 u140 u141 u142 u143 u144 u145 u146 u147 u148 u149 u150 u151 u152 u153 u154 u155 u156 u157 u158 u159 u160 u161 u162 u163 u164 u165 u166 u167 u168 u169 u170 u171 u172 u173 u174 u175 u176 u177 u178 u179 u180 u181 u182 u183 u184 u185 u186 u187 u188 u189 u190 u191 u192 u193 u194 u195 u196 u197 u198 u199 u200 u201 u202 u203 u204 u205 u206 u207 u208 u209 u210 u211 u212 u213 u214 u215 u216 u217 u218 u219 u220 u221 u222 u223 u224 u225 u226 u227 u228 u229 u230 u231 u232 u233 u234 : Value} {s : ByteArray} {w wx : World} {b o qa n c : Nat} {ws : List ByteArray} {q : Q} {out : Value} {K1 : Act → World → Prop} (HK : Hid (∀ a w', Code.wp Tryz.prog cREnd (bodyPost Tryz.prog Tryz.f5 (Rq w out)) a w' → K1 a w')) (H : RI w b o ws qa q wx)
    (hz : Hid (q = { Q.zero with kind := 3 })) (hn : ws.length = n) (hm : n ≤ 4194305) (hsm : Hid (∀ x ∈ ws, x.size ≤ 4194304)) (HO : Hid ((if n < 3 then Value.tuple #[.agg Q.zero.cells, .int .i64 4] else outR (rTail (true) ws 3 { Q.zero with kind := 3, dev := ws.getD 1 ⟨#[]⟩, ifc := ws.getD 2 ⟨#[]⟩, en := 0, permit := true, proto := -1, src := 0, sbits := 0, dst := 0, dbits := 0, slo := 0, shi := 65535, dlo := 0, dhi := 65535 }).2 (rTail (true) ws 3 { Q.zero with kind := 3, dev := ws.getD 1 ⟨#[]⟩, ifc := ws.getD 2 ⟨#[]⟩, en := 0, permit := true, proto := -1, src := 0, sbits := 0, dst := 0, dbits := 0, slo := 0, shi := 65535, dlo := 0, dhi := 65535 }).1 s) = out)) :
    Code.wp Tryz.prog cRBlock (Exit.then K1 (bodyPost Tryz.prog Tryz.f5 (Rq w out))) ⟨#[.string s, u1, .pointer (some ⟨w.heap.size, 0, none⟩), .int .i64 0, .slice (some ⟨b, o, none⟩) n c, .pointer (some ⟨qa, 0, none⟩), .bool true, u7, u8, u9, u10, u11, u12, u13, u14, u15, u16, u17, u18, u19, u20, u21, u22, u23, u24, u25, u26, u27, u28, u29, u30, u31, u32, u33, u34, u35, u36, u37, u38, u39, u40, u41, u42, u43, u44, u45, u46, u47, u48, u49, u50, u51, u52, u53, u54, u55, u56, u57, u58, u59, u60, u61, u62, u63, u64, u65, u66, u67, u68, u69, u70, u71, u72, u73, u74, u75, u76, u77, u78, u79, u80, u81, u82, u83, u84, u85, u86, u87, u88, u89, u90, u91, u92, u93, u94, u95, u96, u97, u98, u99, u100, u101, u102, u103, u104, u105, u106, u107, u108, u109, u110, u111, u112, u113, u114, u115, u116, u117, u118, u119, u120, u121, u122, u123, u124, u125, u126, u127, u128, u129, u130, u131, u132, u133, u134, u135, u136, u137, u138, u139, u140, u141, u142, u143, u144, u145, u146, u147, u148, u149, u150, u151, u152, u153, u154, u155, u156, u157, u158, u159, u160, u161, u162, u163, u164, u165, u166, u167, u168, u169, u170, u171, u172, u173, u174, u175, u176, u177, u178, u179, u180, u181, u182, u183, u184, u185, u186, u187, u188, u189, u190, u191, u192, u193, u194, u195, u196, u197, u198, u199, u200, u201, u202, u203, u204, u205, u206, u207, u208, u209, u210, u211, u212, u213, u214, u215, u216, u217, u218, u219, u220, u221, u222, u223, u224, u225, u226, u227, u228, u229, u230, u231, u232, u233, u234], []⟩ wx := by
  unfold cRBlock
  conv => arg 2; whnf
  have HN := Lib.hid hn
  have c0 := H.k0 (κ := 3) (by rw [hz.out])
  clear hn
  by_cases hnm : n < 3
  · replace HO := Lib.hid ((if_pos hnm).symm.trans HO.out)
    have hl : (n : Int) < 3 := by omega
    go_upto_region 10 with ((with_reducible refine wpList_is (o := ⟨none, .store 29 (.tmp 36) (.tmp 35), _, _, _, _⟩) ?_); refine wp_setRule5 rfl (.tmp 36) (.tmp 35) rfl rfl rfl rfl H ?_; intro w7 H7; have c0 := H7.k0 (κ := 3) (by rw [hz.out]); have c1 := H7.c1; have f1 := H7.free 1; have c2 := H7.c2; have f2 := H7.free 2; have hlt := lt_of_block H7.q)
    have hlt := lt_of_block H7.q
    go_wp2_with ((with_reducible refine wpList_is (o := ⟨none, .store 41 (.tmp 2) (.tmp 44), _, _, _, _⟩) ?_); refine wpList_store_row (P := Tryz.prog) rfl 41 (.tmp 2) (.tmp 44) rfl w.heap.size Q.zero.cells rfl rfl 41 Q.zero.cells H7.res (by kernel_rfl) rfl (Q.one Q.zero) ?_; dsimp only [Act.put])
    have hr := fun (tm : Array Value) h2 h3 => results5_row (tmps := tm) (e := 4) h2 h3 (H7.res_row Q.zero.cells) rfl
    refine bodyPost_ret (hr _ rfl rfl) rfl ?_
    exact ⟨congrArg _ HO.out, H7.res_bel _⟩
  · replace HO := Lib.hid ((if_neg hnm).symm.trans HO.out)
    have hl : ¬ ((n : Int) < 3) := by omega
    obtain ⟨x1, hx1⟩ : ∃ x, ws[1]? = some x := ⟨ws[1]'(by have := HN.out; omega), by simp⟩
    have w1 := H.word hx1
    have z1 := hsm.out x1 (List.mem_of_getElem? hx1)
    have X1 := Lib.hid hx1
    clear hx1
    obtain ⟨x2, hx2⟩ : ∃ x, ws[2]? = some x := ⟨ws[2]'(by have := HN.out; omega), by simp⟩
    have w2 := H.word hx2
    have z2 := hsm.out x2 (List.mem_of_getElem? hx2)
    have X2 := Lib.hid hx2
    clear hx2
    rw [show ws.getD 1 ⟨#[]⟩ = x1 by simp [List.getD_eq_getElem?_getD, X1.out], show ws.getD 2 ⟨#[]⟩ = x2 by simp [List.getD_eq_getElem?_getD, X2.out]] at HO
    go_upto_if 55 with ((with_reducible refine wpList_is (o := ⟨none, .store 29 (.tmp 36) (.tmp 35), _, _, _, _⟩) ?_); refine wp_setRule5 rfl (.tmp 36) (.tmp 35) rfl rfl rfl rfl H ?_; intro w7 H7; have c0 := H7.k0 (κ := 3) (by rw [hz.out]); have c1 := H7.c1; have f1 := H7.free 1; have c2 := H7.c2; have f2 := H7.free 2; have hlt := lt_of_block H7.q; have w1 := H7.word X1.out; have w2 := H7.word X2.out)
    have H8 := (H7.set (q' := { q with dev := x1, permit := true, proto := -1, src := 0, sbits := 0, dst := 0, dbits := 0, slo := 0, shi := 65535, dlo := 0, dhi := 65535 }) 1 (.string x1) rfl).set (q' := { q with dev := x1, ifc := x2, permit := true, proto := -1, src := 0, sbits := 0, dst := 0, dbits := 0, slo := 0, shi := 65535, dlo := 0, dhi := 65535 }) 2 (.string x2) rfl
    rw [hz.out] at H8
    generalize World.setCell _ ⟨qa, 2, none⟩ _ = w8 at H8 ⊢
    clear H7 H c0 c1 f1 c2 f2 w1 w2 hlt
    go_cut [6] (fun v wx => v = .bool true ∧ wx = w8)
    case first =>
      go_wp2
      go_meet
      exact ⟨rfl, rfl⟩
    case rest =>
    obtain ⟨rfl, rfl⟩ := hcut
    apply_assumption
    exact rparse_tail (m := 3) HK H8 (Q.okh 3 0 (by decide) (by decide) (by decide) (by decide) x1 x2) ⟨z1, z2, Nat.zero_le _⟩ HN hm (by omega) hsm HO
end Go.Proofs.YtopccnoinngmbaaGreatDoor

/- The reference's Parse walked: what it answers -/
namespace Go.Proofs.YtopccnoinngmbaaGreatDoor
open Go.RowKit
set_option maxRecDepth 100000
set_option maxHeartbeats 16000000
set_option linter.unusedVariables false
set_option linter.unusedSimpArgs false

/-- What the reference's Parse answers. -/
def rOut (s : ByteArray) : Value :=
  match (pl kindsL ((spl 32 s).headD ⟨#[]⟩)).toNat with
  | 1 => if (spl 32 s).length < 4 then Value.tuple #[.agg Q.zero.cells, .int .i64 4] else outR (rTail (decide (0 < pl endsL ((spl 32 s).getD 3 ⟨#[]⟩))) (spl 32 s) 4 { Q.zero with kind := 1, dev := (spl 32 s).getD 1 ⟨#[]⟩, ifc := (spl 32 s).getD 2 ⟨#[]⟩, en := pl endsL ((spl 32 s).getD 3 ⟨#[]⟩), permit := true, proto := -1, src := 0, sbits := 0, dst := 0, dbits := 0, slo := 0, shi := 65535, dlo := 0, dhi := 65535 }).2 (rTail (decide (0 < pl endsL ((spl 32 s).getD 3 ⟨#[]⟩))) (spl 32 s) 4 { Q.zero with kind := 1, dev := (spl 32 s).getD 1 ⟨#[]⟩, ifc := (spl 32 s).getD 2 ⟨#[]⟩, en := pl endsL ((spl 32 s).getD 3 ⟨#[]⟩), permit := true, proto := -1, src := 0, sbits := 0, dst := 0, dbits := 0, slo := 0, shi := 65535, dlo := 0, dhi := 65535 }).1 s
  | 2 => if (spl 32 s).length < 4 then Value.tuple #[.agg Q.zero.cells, .int .i64 4] else outR (rTail (decide (0 < pl endsL ((spl 32 s).getD 3 ⟨#[]⟩))) (spl 32 s) 4 { Q.zero with kind := 2, dev := (spl 32 s).getD 1 ⟨#[]⟩, ifc := (spl 32 s).getD 2 ⟨#[]⟩, en := pl endsL ((spl 32 s).getD 3 ⟨#[]⟩), permit := true, proto := -1, src := 0, sbits := 0, dst := 0, dbits := 0, slo := 0, shi := 65535, dlo := 0, dhi := 65535 }).2 (rTail (decide (0 < pl endsL ((spl 32 s).getD 3 ⟨#[]⟩))) (spl 32 s) 4 { Q.zero with kind := 2, dev := (spl 32 s).getD 1 ⟨#[]⟩, ifc := (spl 32 s).getD 2 ⟨#[]⟩, en := pl endsL ((spl 32 s).getD 3 ⟨#[]⟩), permit := true, proto := -1, src := 0, sbits := 0, dst := 0, dbits := 0, slo := 0, shi := 65535, dlo := 0, dhi := 65535 }).1 s
  | 3 => if (spl 32 s).length < 3 then Value.tuple #[.agg Q.zero.cells, .int .i64 4] else outR (rTail true (spl 32 s) 3 { Q.zero with kind := 3, dev := (spl 32 s).getD 1 ⟨#[]⟩, ifc := (spl 32 s).getD 2 ⟨#[]⟩, en := 0, permit := true, proto := -1, src := 0, sbits := 0, dst := 0, dbits := 0, slo := 0, shi := 65535, dlo := 0, dhi := 65535 }).2 (rTail true (spl 32 s) 3 { Q.zero with kind := 3, dev := (spl 32 s).getD 1 ⟨#[]⟩, ifc := (spl 32 s).getD 2 ⟨#[]⟩, en := 0, permit := true, proto := -1, src := 0, sbits := 0, dst := 0, dbits := 0, slo := 0, shi := 65535, dlo := 0, dhi := 65535 }).1 s
  | 4 => if (spl 32 s).length = 7 then outR (decide (0 ≤ getV (num ((spl 32 s).getD 3 ⟨#[]⟩) 255)) && (rHead (((spl 32 s).getD 4 ⟨#[]⟩) ++ ⟨#[32]⟩ ++ ((spl 32 s).getD 5 ⟨#[]⟩) ++ ⟨#[32]⟩ ++ ((spl 32 s).getD 6 ⟨#[]⟩))).isSome) { Q.zero with kind := 4, dev := ((spl 32 s).getD 1 ⟨#[]⟩), ifc := ((spl 32 s).getD 2 ⟨#[]⟩), hops := getV (num ((spl 32 s).getD 3 ⟨#[]⟩) 255), hd := headV (rHead (((spl 32 s).getD 4 ⟨#[]⟩) ++ ⟨#[32]⟩ ++ ((spl 32 s).getD 5 ⟨#[]⟩) ++ ⟨#[32]⟩ ++ ((spl 32 s).getD 6 ⟨#[]⟩))) } s else Value.tuple #[.agg Q.zero.cells, .int .i64 4]
  | 5 => if (spl 32 s).length = 2 then outR true { Q.zero with kind := 5, dev := ((spl 32 s).getD 1 ⟨#[]⟩) } s else if (spl 32 s).length = 4 ∧ ((spl 32 s).getD 2 ⟨#[]⟩) = wVrf then outR (isName ((spl 32 s).getD 3 ⟨#[]⟩).data.toList) { Q.zero with kind := 5, dev := ((spl 32 s).getD 1 ⟨#[]⟩), vrf := ((spl 32 s).getD 3 ⟨#[]⟩) } s else Value.tuple #[.agg Q.zero.cells, .int .i64 4]
  | 6 => if (spl 32 s).length = 2 then outR true { Q.zero with kind := 6, dev := ((spl 32 s).getD 1 ⟨#[]⟩) } s else if (spl 32 s).length = 4 ∧ ((spl 32 s).getD 2 ⟨#[]⟩) = wVrf then outR (isName ((spl 32 s).getD 3 ⟨#[]⟩).data.toList) { Q.zero with kind := 6, dev := ((spl 32 s).getD 1 ⟨#[]⟩), vrf := ((spl 32 s).getD 3 ⟨#[]⟩) } s else Value.tuple #[.agg Q.zero.cells, .int .i64 4]
  | 7 => if (spl 32 s).length = 2 then outR (pAddr ((spl 32 s).getD 1 ⟨#[]⟩)).isSome { Q.zero with kind := 7, addr := (pAddr ((spl 32 s).getD 1 ⟨#[]⟩)).getD 0 } s else Value.tuple #[.agg Q.zero.cells, .int .i64 4]
  | _ => outR false { Q.zero with kind := 0 } s
theorem rparse_any (s : ByteArray) (hs : s.size ≤ 4194304) (w : World) : Calls Tryz.prog 5 #[.string s] w (Rq w (rOut s)) := by
  have hm : (spl 32 s).length ≤ 4194305 := by have := spl_le 32 s; omega
  have hsm : Hid (∀ x ∈ spl 32 s, x.size ≤ 4194304) := Lib.hid (fun x hx => by have := spl_small hx; omega)
  refine rparse_start s (spl 32 s) _ rfl rfl hs ?_
  intro b o qa c κ wx K1 hk HK H
  have b0 := (pl_bounds kindsL ((spl 32 s).headD ⟨#[]⟩)).1
  have b1 : pl kindsL ((spl 32 s).headD ⟨#[]⟩) ≤ 7 := pl_le7 kindsL ((spl 32 s).headD ⟨#[]⟩)
  rw [hk] at b0 b1
  have hc : κ = 0 ∨ κ = 1 ∨ κ = 2 ∨ κ = 3 ∨ κ = 4 ∨ κ = 5 ∨ κ = 6 ∨ κ = 7 := by omega
  intros
  unfold rOut at HK ⊢
  rw [hk] at HK ⊢
  rcases hc with rfl | rfl | rfl | rfl | rfl | rfl | rfl | rfl
  · exact rparse_k0 HK H (Lib.hid rfl) rfl hm hsm (Lib.hid rfl)
  · exact rparse_k1 HK H (Lib.hid rfl) rfl hm hsm (Lib.hid rfl)
  · exact rparse_k2 HK H (Lib.hid rfl) rfl hm hsm (Lib.hid rfl)
  · exact rparse_k3 HK H (Lib.hid rfl) rfl hm hsm (Lib.hid rfl)
  · exact rparse_k4 HK H (Lib.hid rfl) rfl hm hsm (Lib.hid rfl)
  · exact rparse_k5 HK H (Lib.hid rfl) rfl hm hsm (Lib.hid rfl)
  · exact rparse_k6 HK H (Lib.hid rfl) rfl hm hsm (Lib.hid rfl)
  · exact rparse_k7 HK H (Lib.hid rfl) rfl hm hsm (Lib.hid rfl)
/-- The question, if it is one at the end. -/
def optR (ok : Bool) (q : Q) (s : ByteArray) : Option Q := if rBad ok q s then none else some q
/-- The question of a text, as the reference reads it. -/
def rAsk (s : ByteArray) : Option Q :=
  match (pl kindsL ((spl 32 s).headD ⟨#[]⟩)).toNat with
  | 1 => if (spl 32 s).length < 4 then none else optR (rTail (decide (0 < pl endsL ((spl 32 s).getD 3 ⟨#[]⟩))) (spl 32 s) 4 { Q.zero with kind := 1, dev := (spl 32 s).getD 1 ⟨#[]⟩, ifc := (spl 32 s).getD 2 ⟨#[]⟩, en := pl endsL ((spl 32 s).getD 3 ⟨#[]⟩), permit := true, proto := -1, src := 0, sbits := 0, dst := 0, dbits := 0, slo := 0, shi := 65535, dlo := 0, dhi := 65535 }).2 (rTail (decide (0 < pl endsL ((spl 32 s).getD 3 ⟨#[]⟩))) (spl 32 s) 4 { Q.zero with kind := 1, dev := (spl 32 s).getD 1 ⟨#[]⟩, ifc := (spl 32 s).getD 2 ⟨#[]⟩, en := pl endsL ((spl 32 s).getD 3 ⟨#[]⟩), permit := true, proto := -1, src := 0, sbits := 0, dst := 0, dbits := 0, slo := 0, shi := 65535, dlo := 0, dhi := 65535 }).1 s
  | 2 => if (spl 32 s).length < 4 then none else optR (rTail (decide (0 < pl endsL ((spl 32 s).getD 3 ⟨#[]⟩))) (spl 32 s) 4 { Q.zero with kind := 2, dev := (spl 32 s).getD 1 ⟨#[]⟩, ifc := (spl 32 s).getD 2 ⟨#[]⟩, en := pl endsL ((spl 32 s).getD 3 ⟨#[]⟩), permit := true, proto := -1, src := 0, sbits := 0, dst := 0, dbits := 0, slo := 0, shi := 65535, dlo := 0, dhi := 65535 }).2 (rTail (decide (0 < pl endsL ((spl 32 s).getD 3 ⟨#[]⟩))) (spl 32 s) 4 { Q.zero with kind := 2, dev := (spl 32 s).getD 1 ⟨#[]⟩, ifc := (spl 32 s).getD 2 ⟨#[]⟩, en := pl endsL ((spl 32 s).getD 3 ⟨#[]⟩), permit := true, proto := -1, src := 0, sbits := 0, dst := 0, dbits := 0, slo := 0, shi := 65535, dlo := 0, dhi := 65535 }).1 s
  | 3 => if (spl 32 s).length < 3 then none else optR (rTail true (spl 32 s) 3 { Q.zero with kind := 3, dev := (spl 32 s).getD 1 ⟨#[]⟩, ifc := (spl 32 s).getD 2 ⟨#[]⟩, en := 0, permit := true, proto := -1, src := 0, sbits := 0, dst := 0, dbits := 0, slo := 0, shi := 65535, dlo := 0, dhi := 65535 }).2 (rTail true (spl 32 s) 3 { Q.zero with kind := 3, dev := (spl 32 s).getD 1 ⟨#[]⟩, ifc := (spl 32 s).getD 2 ⟨#[]⟩, en := 0, permit := true, proto := -1, src := 0, sbits := 0, dst := 0, dbits := 0, slo := 0, shi := 65535, dlo := 0, dhi := 65535 }).1 s
  | 4 => if (spl 32 s).length = 7 then optR (decide (0 ≤ getV (num ((spl 32 s).getD 3 ⟨#[]⟩) 255)) && (rHead (((spl 32 s).getD 4 ⟨#[]⟩) ++ ⟨#[32]⟩ ++ ((spl 32 s).getD 5 ⟨#[]⟩) ++ ⟨#[32]⟩ ++ ((spl 32 s).getD 6 ⟨#[]⟩))).isSome) { Q.zero with kind := 4, dev := ((spl 32 s).getD 1 ⟨#[]⟩), ifc := ((spl 32 s).getD 2 ⟨#[]⟩), hops := getV (num ((spl 32 s).getD 3 ⟨#[]⟩) 255), hd := headV (rHead (((spl 32 s).getD 4 ⟨#[]⟩) ++ ⟨#[32]⟩ ++ ((spl 32 s).getD 5 ⟨#[]⟩) ++ ⟨#[32]⟩ ++ ((spl 32 s).getD 6 ⟨#[]⟩))) } s else none
  | 5 => if (spl 32 s).length = 2 then optR true { Q.zero with kind := 5, dev := ((spl 32 s).getD 1 ⟨#[]⟩) } s else if (spl 32 s).length = 4 ∧ ((spl 32 s).getD 2 ⟨#[]⟩) = wVrf then optR (isName ((spl 32 s).getD 3 ⟨#[]⟩).data.toList) { Q.zero with kind := 5, dev := ((spl 32 s).getD 1 ⟨#[]⟩), vrf := ((spl 32 s).getD 3 ⟨#[]⟩) } s else none
  | 6 => if (spl 32 s).length = 2 then optR true { Q.zero with kind := 6, dev := ((spl 32 s).getD 1 ⟨#[]⟩) } s else if (spl 32 s).length = 4 ∧ ((spl 32 s).getD 2 ⟨#[]⟩) = wVrf then optR (isName ((spl 32 s).getD 3 ⟨#[]⟩).data.toList) { Q.zero with kind := 6, dev := ((spl 32 s).getD 1 ⟨#[]⟩), vrf := ((spl 32 s).getD 3 ⟨#[]⟩) } s else none
  | 7 => if (spl 32 s).length = 2 then optR (pAddr ((spl 32 s).getD 1 ⟨#[]⟩)).isSome { Q.zero with kind := 7, addr := (pAddr ((spl 32 s).getD 1 ⟨#[]⟩)).getD 0 } s else none
  | _ => optR false { Q.zero with kind := 0 } s
def askV (o : Option Q) : Value := match o with
  | some x => .tuple #[.agg x.cells, .int .i64 0]
  | none => .tuple #[.agg Q.zero.cells, .int .i64 4]
theorem optR_out (ok : Bool) (q : Q) (s : ByteArray) : outR ok q s = askV (optR ok q s) := by
  unfold outR optR askV; split <;> simp_all
theorem ite_ask {c : Prop} [Decidable c] {a b : Value} {x y : Option Q} (h1 : a = askV x) (h2 : b = askV y) : (if c then a else b) = askV (if c then x else y) := by
  by_cases h : c
  · rw [if_pos h, if_pos h, h1]
  · rw [if_neg h, if_neg h, h2]
theorem rOut_eq (s : ByteArray) : rOut s = askV (rAsk s) := by
  unfold rOut rAsk
  generalize (pl kindsL ((spl 32 s).headD ⟨#[]⟩)).toNat = κ
  match κ with
  | 0 => exact optR_out _ _ _
  | 1 => exact ite_ask rfl (optR_out _ _ _)
  | 2 => exact ite_ask rfl (optR_out _ _ _)
  | 3 => exact ite_ask rfl (optR_out _ _ _)
  | 4 => exact ite_ask (optR_out _ _ _) rfl
  | 5 => exact ite_ask (optR_out _ _ _) (ite_ask (optR_out _ _ _) rfl)
  | 6 => exact ite_ask (optR_out _ _ _) (ite_ask (optR_out _ _ _) rfl)
  | 7 => exact ite_ask (optR_out _ _ _) rfl
  | n + 8 => exact optR_out _ _ _
theorem rparse_ask (s : ByteArray) (hs : s.size ≤ 4194304) (w : World) : Calls Tryz.prog 5 #[.string s] w (Rq w (askV (rAsk s))) := by
  rw [← rOut_eq]; exact rparse_any s hs w
end Go.Proofs.YtopccnoinngmbaaGreatDoor

/- The law's of, the reference's Is. -/
namespace Go.Proofs.YtopccnoinngmbaaGreatDoor
open Go.RowKit
set_option maxRecDepth 100000
set_option maxHeartbeats 16000000
set_option linter.unusedVariables false
set_option linter.unusedSimpArgs false

theorem of_any (q : Q) (w : World) : Calls Tryz.prog 7 #[.agg q.cells] w fun e w' => e = .returned (.agg q.cells) ∧ Below w.heap.size w w' := by
  have hb := below_seq (below_new w (.cells q.cells 34)) (below_new (w.alloc (.cells q.cells 34)) (.cells Q.zero.cells 41))
  have hg : ((w.alloc (.cells q.cells 34)).alloc (.cells Q.zero.cells 41)).heap[w.heap.size + 1]? = some (.cells Q.zero.cells 41 (0, 0)) := by
    have h' := heap_alloc_new (w.alloc (.cells q.cells 34)) (.cells Q.zero.cells 41)
    rwa [sz_alloc] at h'
  have hq : ((w.alloc (.cells q.cells 34)).alloc (.cells Q.zero.cells 41)).heap[w.heap.size]? = some (.cells q.cells 34 (0, 0)) := kept_old (below_new _ _) (heap_alloc_new _ _)
  generalize hA : q.cells = A
  rw [hA] at hb hg hq
  go_enter Tryz.func7, Tryz.ntmps7
  go_upto_region 1 with (fail)
  generalize hW : World.alloc (World.alloc _ _) _ = W
  have hb : Below w.heap.size w W := hW ▸ hb
  have hg : W.heap[w.heap.size + 1]? = some (.cells Q.zero.cells 41 (0, 0)) := hW ▸ hg
  have hq : W.heap[w.heap.size]? = some (.cells q.cells 34 (0, 0)) := by rw [hA]; exact hW ▸ hq
  clear hW
  have e0 := cell_at hq 0
  have e1 := cell_at hq 1
  have e2 := cell_at hq 2
  have e3 := cell_at hq 3
  have e4 := cell_at hq 4
  have e5 := cell_at hq 5
  have e6 := cell_at hq 6
  have e7 := cell_at hq 7
  have e8 := cell_at hq 8
  have e9 := cell_at hq 9
  have e10 := cell_at hq 10
  have e11 := cell_at hq 11
  have e12 := cell_at hq 12
  have e13 := cell_at hq 13
  have e14 := cell_at hq 14
  have e15 := cell_at hq 15
  have e16 := cell_at hq 16
  have e17 := cell_at hq 17
  have e18 := cell_at hq 18
  have e19 := cell_at hq 19
  have e20 := cell_at hq 20
  have e21 := cell_at hq 21
  have HG := Lib.hid hg
  have HB := Lib.hid hb
  have HA := Lib.hid hA
  clear hg hb hA hq
  simp only [Q.cells, List.getElem?_toArray, List.getElem?_cons_succ, List.getElem?_cons_zero] at e0 e1 e2 e3 e4 e5 e6 e7 e8 e9 e10 e11 e12 e13 e14 e15 e16 e17 e18 e19 e20 e21
  go_wp2_with ((with_reducible refine wpList_is (o := ⟨none, .store 41 (.tmp 2) (.tmp 21), _, _, _, _⟩) ?_); refine wpList_store_row (P := Tryz.prog) rfl 41 (.tmp 2) (.tmp 21) rfl (w.heap.size + 1) q.cells rfl rfl 41 Q.zero.cells HG.out (by kernel_rfl) rfl (Q.one q) ?_; dsimp only [Act.put])
  have hr := fun (tm : Array Value) h2 => results_cell_row (P := Tryz.prog) Tryz.results7 tm (W.setRow (w.heap.size + 1) q.cells) (w.heap.size + 1) 41 q.cells (0, 0) _ h2 (setRow_heap _ _ _ _ _ _ HG.out) rfl rfl (by kernel_rfl)
  refine bodyPost_ret (hr _ rfl) rfl ?_
  exact ⟨by rw [← HA.out], below_setRow HB.out (Nat.le_succ _) _⟩
/-- Is it a question's? -/
def isQ (q : Q) : Bool := match rAsk ⟨(wrT q).toArray⟩ with
  | some x => x.beq q
  | none => false
theorem write_as {q : Q} {A : Array Value} {T : ByteArray} (hA : q.cells = A) (hT : (⟨(wrT q).toArray⟩ : ByteArray) = T) (ok : q.Ok) (sm : q.Sm) (w : World) : Calls Tryz.prog 11 #[.agg A] w fun e w' => e = .returned (.string T) ∧ Below w.heap.size w w' := by
  subst hA; subst hT; exact write_any q ok sm w
theorem is10_any (q : Q) (ok : q.Ok) (sm : q.Sm) (hz : (wrT q).length ≤ 4194304) (w : World) : Calls Tryz.prog 10 #[.agg q.cells] w fun e w' => e = .returned (.bool (isQ q)) ∧ Below w.heap.size w w' := by
  obtain ⟨r, hr⟩ : ∃ r, isQ q = r := ⟨_, rfl⟩
  rw [hr]
  rw [isQ] at hr
  obtain ⟨T, hT⟩ : ∃ T, (⟨(wrT q).toArray⟩ : ByteArray) = T := ⟨_, rfl⟩
  have hTs : T.size ≤ 4194304 := by rw [← hT]; show (wrT q).toArray.size ≤ _; simpa using hz
  rw [hT] at hr
  have hw := fun A (h : q.cells = A) w => write_as h hT ok sm w
  have hp := fun w => rparse_ask T hTs w
  generalize rAsk T = X at hr hp
  have hb0 := below_new w (.cells q.cells 41)
  have hq0 : (w.alloc (.cells q.cells 41)).heap[w.heap.size]? = some (.cells q.cells 41 (0, 0)) := heap_alloc_new _ _
  obtain ⟨A, hA⟩ : ∃ A, q.cells = A := ⟨_, rfl⟩
  have hw := hw A hA
  have hA2 : Hid (A.size = 22 ∧ A.all (·.oneCell') = true) := Lib.hid (by rw [← hA]; exact ⟨rfl, Q.one q⟩)
  have HA := Lib.hid hA
  rw [hA] at hb0 hq0 ⊢
  clear hT hA
  cases X with
  | none =>
    have hr' : false = r := hr
    subst hr'
    clear hr
    have HW := Lib.hid hw
    have hZ : Hid (Q.zero.cells.size = 22 ∧ Q.zero.cells.all (·.oneCell') = true) := Lib.hid ⟨rfl, Q.one _⟩
    have HP : Hid (∀ w, Calls Tryz.prog 5 #[.string T] w (Rq w (.tuple #[.agg Q.zero.cells, .int .i64 4]))) := Lib.hid hp
    have HQ := Lib.hid hq0
    have HB := Lib.hid hb0
    clear hw hp hq0 hb0
    obtain ⟨Z, hZe⟩ : ∃ Z, Q.zero.cells = Z := ⟨_, rfl⟩
    rw [hZe] at hZ HP
    clear hZe
    go_enter Tryz.func10, Tryz.ntmps10
    go_wp2_with (first | ((with_reducible refine wpList_is (o := ⟨some 6, .load 41 (.tmp 1), _, _, _, _⟩) ?_); refine wpList_load_row_r (P := Tryz.prog) 41 (.tmp 1) rfl rfl w.heap.size rfl 41 A (0, 0) _ HQ.out rfl rfl (by rw [hA2.out.1]; kernel_rfl) ?_; dsimp only [Act.put]) | (go_at_call 11; refine (HW.out _).mono ?_; rintro e w2 ⟨rfl, hb2⟩) | (go_at_call 5; refine (HP.out _).mono ?_; rintro e w3 ⟨rfl, hb3⟩; have hB := below_seq (below_seq HB.out hb2) hb3; have hQ3 := Lib.hid (kept_old hb3 (kept_old hb2 HQ.out))) | ((with_reducible refine wpList_is (o := ⟨none, .store 41 (.tmp 3) (.tmp 9), _, _, _, _⟩) ?_); refine wpList_store_row (P := Tryz.prog) rfl 41 (.tmp 3) (.tmp 9) rfl w3.heap.size Z rfl rfl 41 Q.zero.cells (heap_alloc_new _ _) (by rw [hZ.out.1]; kernel_rfl) (by rw [hZ.out.1]; rfl) hZ.out.2 ?_; dsimp only [Act.put]))
    go_ret
    exact ⟨rfl, below_setRow (below_seq hB (below_new _ _)) hB.size _⟩
  | some x =>
    have hr' : x.beq q = r := hr
    clear hr
    have he : ∀ w, (Op.equalIn 10000 41 (.agg x.cells) (.agg q.cells)).run Tryz.prog w = .ok r w := fun w => by rw [← hr']; exact eqQ41 x q w
    rw [HA.out] at he
    have HW := Lib.hid hw
    have hZ : Hid (x.cells.size = 22 ∧ x.cells.all (·.oneCell') = true) := Lib.hid ⟨rfl, Q.one _⟩
    have HP : Hid (∀ w, Calls Tryz.prog 5 #[.string T] w (Rq w (.tuple #[.agg x.cells, .int .i64 0]))) := Lib.hid hp
    have HQ := Lib.hid hq0
    have HB := Lib.hid hb0
    clear hw hp hq0 hb0
    clear hr'
    generalize x.cells = Z at he hZ HP
    go_enter Tryz.func10, Tryz.ntmps10
    go_wp2_with (first | ((with_reducible refine wpList_is (o := ⟨some 6, .load 41 (.tmp 1), _, _, _, _⟩) ?_); refine wpList_load_row_r (P := Tryz.prog) 41 (.tmp 1) rfl rfl w.heap.size rfl 41 A (0, 0) _ HQ.out rfl rfl (by rw [hA2.out.1]; kernel_rfl) ?_; dsimp only [Act.put]) | (go_at_call 11; refine (HW.out _).mono ?_; rintro e w2 ⟨rfl, hb2⟩) | (go_at_call 5; refine (HP.out _).mono ?_; rintro e w3 ⟨rfl, hb3⟩; have hB := below_seq (below_seq HB.out hb2) hb3; have hQ3 := Lib.hid (kept_old hb3 (kept_old hb2 HQ.out))) | ((with_reducible refine wpList_is (o := ⟨none, .store 41 (.tmp 3) (.tmp 9), _, _, _, _⟩) ?_); refine wpList_store_row (P := Tryz.prog) rfl 41 (.tmp 3) (.tmp 9) rfl w3.heap.size Z rfl rfl 41 Q.zero.cells (heap_alloc_new _ _) (by rw [hZ.out.1]; kernel_rfl) (by rw [hZ.out.1]; rfl) hZ.out.2 ?_; dsimp only [Act.put]) | ((with_reducible refine wpList_is (o := ⟨some 14, .load 41 (.tmp 3), _, _, _, _⟩) ?_); refine wpList_load_row_r (P := Tryz.prog) 41 (.tmp 3) rfl rfl w3.heap.size rfl 41 Z (0, 0) _ (setRow_heap _ _ _ _ _ _ (heap_alloc_new _ _)) rfl rfl (by rw [hZ.out.1]; kernel_rfl) ?_; dsimp only [Act.put]) | ((with_reducible refine wpList_is (o := ⟨some 15, .load 41 (.tmp 1), _, _, _, _⟩) ?_); refine wpList_load_row_r (P := Tryz.prog) 41 (.tmp 1) rfl rfl w.heap.size rfl 41 A (0, 0) _ (kept_old (below_setRow (below_new w3 _) (Nat.le_refl _) Z) hQ3.out) rfl rfl (by rw [hA2.out.1]; kernel_rfl) ?_; dsimp only [Act.put]))
    go_ret
    exact ⟨rfl, below_setRow (below_seq hB (below_new _ _)) hB.size _⟩
end Go.Proofs.YtopccnoinngmbaaGreatDoor
