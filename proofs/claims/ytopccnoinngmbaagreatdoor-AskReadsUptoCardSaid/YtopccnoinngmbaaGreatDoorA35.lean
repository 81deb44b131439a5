/-
  The reference's Parse walked: the kind 4
-/
import Derived.Test.YtopccnoinngmbaaGreatDoorA34
import Derived.Test.YtopccnoinngmbaaGreatDoorA18
import Derived.Deep.RegionHeld3
namespace Go.Proofs.YtopccnoinngmbaaGreatDoor
open Go.RowKit
set_option maxRecDepth 100000
set_option maxHeartbeats 16000000
set_option linter.unusedVariables false
set_option linter.unusedSimpArgs false

theorem RI.hdc {w W : World} {b o qa : Nat} {ws : List ByteArray} {q : Q} (H : RI w b o ws qa q W) : W.cell? ⟨qa, 15, none⟩ = some (.int .u32 q.hd.src) ∧ W.cell? ⟨qa, 16, none⟩ = some (.int .u32 q.hd.dst) ∧ W.cell? ⟨qa, 17, none⟩ = some (.int .u8 q.hd.proto) ∧ W.cell? ⟨qa, 18, none⟩ = some (.int .u16 q.hd.sport) ∧ W.cell? ⟨qa, 19, none⟩ = some (.int .u16 q.hd.dport) :=
  ⟨H.cell 15, H.cell 16, H.cell 17, H.cell 18, H.cell 19⟩
theorem RI.setHd {w W : World} {b o qa : Nat} {ws : List ByteArray} {q : Q} (H : RI w b o ws qa q W) (a c d e f : Int) : RI w b o ws qa { q with hd := ⟨a, c, d, e, f⟩ }
    (((((W.setCell ⟨qa, 15, none⟩ (.int .u32 a)).setCell ⟨qa, 16, none⟩ (.int .u32 c)).setCell ⟨qa, 17, none⟩ (.int .u8 d)).setCell ⟨qa, 18, none⟩ (.int .u16 e)).setCell ⟨qa, 19, none⟩ (.int .u16 f)) :=
  ((((H.set (q' := { q with hd := ⟨a, q.hd.dst, q.hd.proto, q.hd.sport, q.hd.dport⟩ }) 15 _ rfl).set (q' := { q with hd := ⟨a, c, q.hd.proto, q.hd.sport, q.hd.dport⟩ }) 16 _ rfl).set
    (q' := { q with hd := ⟨a, c, d, q.hd.sport, q.hd.dport⟩ }) 17 _ rfl).set (q' := { q with hd := ⟨a, c, d, e, q.hd.dport⟩ }) 18 _ rfl).set (q' := { q with hd := ⟨a, c, d, e, f⟩ }) 19 _ rfl
theorem Q.ok4 (x y : ByteArray) (hops : Int) (hd : Hd) (h0 : -9223372036854775808 ≤ hops) (h1 : hops ≤ 9223372036854775807) (hh : hd.Ok) : ({ Q.zero with kind := 4, dev := x, ifc := y, hops := hops, hd := hd } : Q).Ok :=
  { Q.zok with k0 := show (0 : Int) ≤ 4 by decide, k1 := show (4 : Int) < 256 by decide, h0 := h0, h1 := h1, hd := hh }
theorem RI.other {w W : World} {b o qa g : Nat} {ws : List ByteArray} {q : Q} {cs : Array Value} {fr : Nat × Nat} (H : RI w b o ws qa q W) (hg : W.heap[g]? = some (.cells cs 32 fr)) (hl : w.heap.size ≤ g) (j : Nat) (u : Value) : RI w b o ws qa q (W.setCell ⟨g, j, none⟩ u) := by
  have keep : ∀ {k : Nat} {ds : Array Value} {t : TypeId} {fr' : Nat × Nat}, W.heap[k]? = some (.cells ds t fr') → t ≠ 32 → (W.setCell ⟨g, j, none⟩ u).heap[k]? = some (.cells ds t fr') := fun {k ds t fr'} hk hne => by
    rw [Below.heap_setCell _ _ _ _ (fun e => hne ?_)]
    · exact hk
    · have e' : k = g := e
      subst e'
      have := hk.symm.trans hg
      simp at this
      exact this.2.1
  obtain ⟨cs', fr', h1, h2⟩ := H.ss
  exact ⟨H.bel.setCell hl _, keep H.res (by decide), ⟨cs', fr', keep h1 (by decide), h2⟩, keep H.q (by decide), H.far⟩
theorem RI.five {w W : World} {b o qa g : Nat} {ws : List ByteArray} {q : Q} {c0 c1 c2 c3 c4 : Value} (H : RI w b o ws qa q W) (hg : W.heap[g]? = some (.cells #[c0, c1, c2, c3, c4] 32 (0, 0))) (hl : w.heap.size ≤ g) (h : Hd) :
    RI w b o ws qa q (((((W.setCell ⟨g, 0, none⟩ (.int .u32 h.src)).setCell ⟨g, 1, none⟩ (.int .u32 h.dst)).setCell ⟨g, 2, none⟩ (.int .u8 h.proto)).setCell ⟨g, 3, none⟩ (.int .u16 h.sport)).setCell ⟨g, 4, none⟩ (.int .u16 h.dport)) ∧
    (((((W.setCell ⟨g, 0, none⟩ (.int .u32 h.src)).setCell ⟨g, 1, none⟩ (.int .u32 h.dst)).setCell ⟨g, 2, none⟩ (.int .u8 h.proto)).setCell ⟨g, 3, none⟩ (.int .u16 h.sport)).setCell ⟨g, 4, none⟩ (.int .u16 h.dport)).heap[g]? = some (.cells h.cells 32 (0, 0)) := by
  have h0 := block_setCell hg 0 (.int .u32 h.src)
  have h1 := block_setCell h0 1 (.int .u32 h.dst)
  have h2 := block_setCell h1 2 (.int .u8 h.proto)
  have h3 := block_setCell h2 3 (.int .u16 h.sport)
  have h4 := block_setCell h3 4 (.int .u16 h.dport)
  exact ⟨((((H.other hg hl _ _).other h0 hl _ _).other h1 hl _ _).other h2 hl _ _).other h3 hl _ _, h4⟩
theorem kept_newD {W w1 : World} {o : Obj} (hb : Below (W.alloc o).drew.heap.size (W.alloc o).drew w1) : w1.heap[W.heap.size]? = some o :=
  (hb.block W.heap.size (by show W.heap.size < (W.heap.push o).size; simp)).trans (heap_alloc_new W o)
theorem words456 {w W : World} {b o qa : Nat} {ws : List ByteArray} {q : Q} {x4 x5 x6 : ByteArray} (H : RI w b o ws qa q W) (h4 : ws[4]? = some x4) (h5 : ws[5]? = some x5) (h6 : ws[6]? = some x6) :
    W.cell? ⟨b, o + 4, none⟩ = some (.string x4) ∧ W.cell? ⟨b, o + 5, none⟩ = some (.string x5) ∧ W.cell? ⟨b, o + 6, none⟩ = some (.string x6) := ⟨H.word h4, H.word h5, H.word h6⟩
theorem head03_as {s : ByteArray} {h : Hd} {e : Int} (h1 : headV (rHead s) = h) (h2 : errV (rHead s) = e) (hs : s.size ≤ 16777216) (w : World) :
    Calls Tryz.prog 32 #[.string s] w fun r w' => r = .returned (.tuple #[.agg #[.int .u32 h.src, .int .u32 h.dst, .int .u8 h.proto, .int .u16 h.sport, .int .u16 h.dport], .int .i64 e]) ∧ Below w.heap.size w w' := by
  subst h1; subst h2
  refine (head03_any s hs w).mono fun e w' ⟨he, hb⟩ => ⟨?_, hb⟩
  cases hp : rHead s <;> rw [hp] at he <;> exact he
theorem errV_some {α : Type} (o : Option α) : (errV o == 0) = o.isSome := by cases o <;> rfl
theorem rHead_ok (s : ByteArray) : (headV (rHead s)).Ok := by
  unfold rHead
  have z : (headV none).Ok := by constructor <;> decide
  split
  · rename_i x t _
    split
    · rename_i y z' _
      split
      · exact z
      · rename_i h
        have h1 := rEnd_bounds x
        have h2 := rEnd_bounds y
        have h3 := getV_bounds z' 255 (by decide)
        constructor <;> simp only [headV, Option.getD_some] <;> omega
    · exact z
  · exact z
theorem rparse_k4 {u1 u7 u8 u9 u10 u11 u12 u13 u14 u15 u16 u17 u18 u19 u20 u21 u22 u23 u24 u25 u26 u27 u28 u29 u30 u31 u32 u33 u34 u35 u36 u37 u38 u39 u40 u41 u42 u43 u44 u45 u46 u47 u48 u49 u50 u51 u52 u53 u54 u55 u56 u57 u58 u59 u60 u61 u62 u63 u64 u65 u66 u67 u68 u69 u70 u71 u72 u73 u74 u75 u76 u77 u78 u79 u80 u81 u82 u83 u84 u85 u86 u87 u88 u89 u90 u91 u92 u93 u94 u95 u96 u97 u98 u99 u100 u101 u102 u103 u104 u105 u106 u107 u108 u109 u110 u111 u112 u113 u114 u115 u116 u117 u118 u119 u120 u121 u122 u123 u124 u125 u126 u127 u128 u129 u130 u131 u132 u133 u134 u135 u136 u137 u138 u139 u140 u141 u142 u143 u144 u145 u146 u147 u148 u149 u150 u151 u152 u153 u154 u155 u156 u157 u158 u159 u160 u161 u162 u163 u164 u165 u166 u167 u168 u169 u170 u171 u172 u173 u174 u175 u176 u177 u178 u179 u180 u181 u182 u183 u184 u185 u186 u187 u188 u189 u190 u191 u192 u193 u194 u195 u196 u197 u198 u199 u200 u201 u202 u203 u204 u205 u206 u207 u208 u209 u210 u211 u212 u213 u214 u215 u216 u217 u218 u219 u220 u221 u222 u223 u224 u225 u226 u227 u228 u229 u230 u231 u232 u233 u234 : Value} {s : ByteArray} {w wx : World} {b o qa n c : Nat} {ws : List ByteArray} {q : Q} {out : Value} {K1 : Act → World → Prop} (HK : Hid (∀ a w', Code.wp Tryz.prog cREnd (bodyPost Tryz.prog Tryz.f5 (Rq w out)) a w' → K1 a w')) (H : RI w b o ws qa q wx)
    (hz : Hid (q = { Q.zero with kind := 4 })) (hn : ws.length = n) (hm : n ≤ 4194305) (hsm : Hid (∀ x ∈ ws, x.size ≤ 4194304)) (HO : Hid ((if n = 7 then outR (decide (0 ≤ getV (num (ws.getD 3 ⟨#[]⟩) 255)) && (rHead (ws.getD 4 ⟨#[]⟩ ++ ⟨#[32]⟩ ++ ws.getD 5 ⟨#[]⟩ ++ ⟨#[32]⟩ ++ ws.getD 6 ⟨#[]⟩)).isSome) { Q.zero with kind := 4, dev := ws.getD 1 ⟨#[]⟩, ifc := ws.getD 2 ⟨#[]⟩, hops := getV (num (ws.getD 3 ⟨#[]⟩) 255), hd := headV (rHead (ws.getD 4 ⟨#[]⟩ ++ ⟨#[32]⟩ ++ ws.getD 5 ⟨#[]⟩ ++ ⟨#[32]⟩ ++ ws.getD 6 ⟨#[]⟩)) } s else Value.tuple #[.agg Q.zero.cells, .int .i64 4]) = out)) :
    Code.wp Tryz.prog cRBlock (Exit.then K1 (bodyPost Tryz.prog Tryz.f5 (Rq w out))) ⟨#[.string s, u1, .pointer (some ⟨w.heap.size, 0, none⟩), .int .i64 0, .slice (some ⟨b, o, none⟩) n c, .pointer (some ⟨qa, 0, none⟩), .bool true, u7, u8, u9, u10, u11, u12, u13, u14, u15, u16, u17, u18, u19, u20, u21, u22, u23, u24, u25, u26, u27, u28, u29, u30, u31, u32, u33, u34, u35, u36, u37, u38, u39, u40, u41, u42, u43, u44, u45, u46, u47, u48, u49, u50, u51, u52, u53, u54, u55, u56, u57, u58, u59, u60, u61, u62, u63, u64, u65, u66, u67, u68, u69, u70, u71, u72, u73, u74, u75, u76, u77, u78, u79, u80, u81, u82, u83, u84, u85, u86, u87, u88, u89, u90, u91, u92, u93, u94, u95, u96, u97, u98, u99, u100, u101, u102, u103, u104, u105, u106, u107, u108, u109, u110, u111, u112, u113, u114, u115, u116, u117, u118, u119, u120, u121, u122, u123, u124, u125, u126, u127, u128, u129, u130, u131, u132, u133, u134, u135, u136, u137, u138, u139, u140, u141, u142, u143, u144, u145, u146, u147, u148, u149, u150, u151, u152, u153, u154, u155, u156, u157, u158, u159, u160, u161, u162, u163, u164, u165, u166, u167, u168, u169, u170, u171, u172, u173, u174, u175, u176, u177, u178, u179, u180, u181, u182, u183, u184, u185, u186, u187, u188, u189, u190, u191, u192, u193, u194, u195, u196, u197, u198, u199, u200, u201, u202, u203, u204, u205, u206, u207, u208, u209, u210, u211, u212, u213, u214, u215, u216, u217, u218, u219, u220, u221, u222, u223, u224, u225, u226, u227, u228, u229, u230, u231, u232, u233, u234], []⟩ wx := by
  unfold cRBlock
  conv => arg 2; whnf
  have HN := Lib.hid hn
  have c0 := H.k0 (κ := 4) (by rw [hz.out])
  clear hn
  by_cases h7 : n = 7
  · subst h7
    replace HO := Lib.hid ((if_pos rfl).symm.trans HO.out)
    obtain ⟨x1, hx1⟩ : ∃ x, ws[1]? = some x := ⟨ws[1]'(by have := HN.out; omega), by simp⟩
    have w1 := H.word hx1
    have z1 := hsm.out x1 (List.mem_of_getElem? hx1)
    have X1 := Lib.hid hx1
    clear hx1
    obtain ⟨x2, hx2⟩ : ∃ x, ws[2]? = some x := ⟨ws[2]'(by have := HN.out; omega), by simp⟩
    have w2 := H.word hx2
    have z2 := hsm.out x2 (List.mem_of_getElem? hx2)
    have X2 := Lib.hid hx2
    clear hx2
    obtain ⟨x3, hx3⟩ : ∃ x, ws[3]? = some x := ⟨ws[3]'(by have := HN.out; omega), by simp⟩
    have w3 := H.word hx3
    have z3 := hsm.out x3 (List.mem_of_getElem? hx3)
    have X3 := Lib.hid hx3
    clear hx3
    obtain ⟨x4, hx4⟩ : ∃ x, ws[4]? = some x := ⟨ws[4]'(by have := HN.out; omega), by simp⟩
    have w4 := H.word hx4
    have z4 := hsm.out x4 (List.mem_of_getElem? hx4)
    have X4 := Lib.hid hx4
    clear hx4
    obtain ⟨x5, hx5⟩ : ∃ x, ws[5]? = some x := ⟨ws[5]'(by have := HN.out; omega), by simp⟩
    have w5 := H.word hx5
    have z5 := hsm.out x5 (List.mem_of_getElem? hx5)
    have X5 := Lib.hid hx5
    clear hx5
    obtain ⟨x6, hx6⟩ : ∃ x, ws[6]? = some x := ⟨ws[6]'(by have := HN.out; omega), by simp⟩
    have w6 := H.word hx6
    have z6 := hsm.out x6 (List.mem_of_getElem? hx6)
    have X6 := Lib.hid hx6
    clear hx6
    rw [show ws.getD 1 ⟨#[]⟩ = x1 by simp [List.getD_eq_getElem?_getD, X1.out], show ws.getD 2 ⟨#[]⟩ = x2 by simp [List.getD_eq_getElem?_getD, X2.out], show ws.getD 3 ⟨#[]⟩ = x3 by simp [List.getD_eq_getElem?_getD, X3.out], show ws.getD 4 ⟨#[]⟩ = x4 by simp [List.getD_eq_getElem?_getD, X4.out], show ws.getD 5 ⟨#[]⟩ = x5 by simp [List.getD_eq_getElem?_getD, X5.out], show ws.getD 6 ⟨#[]⟩ = x6 by simp [List.getD_eq_getElem?_getD, X6.out]] at HO
    have sz : (x4 ++ ⟨#[32]⟩ ++ x5 ++ ⟨#[32]⟩ ++ x6).size ≤ 16777216 := by simp only [ByteArray.size_append]; show x4.size + 1 + x5.size + 1 + x6.size ≤ 16777216; omega
    generalize hT : x4 ++ (⟨#[32]⟩ : ByteArray) ++ x5 ++ ⟨#[32]⟩ ++ x6 = T at HO sz
    have HT := Lib.hid hT
    clear hT
    have hrd : ∀ w, Calls Tryz.prog 31 #[.string x3, .int .i64 255] w fun e w' => e = .returned (.int .i64 (getV (num x3 255))) ∧ w' = w := fun w => read_any x3 255 (by decide) (by omega) w
    have hbn := getV_bounds x3 255 (by decide)
    generalize getV (num x3 255) = hops at HO hrd hbn
    obtain ⟨hb0, hb1⟩ := hbn
    have hhd := fun w => head03_as (s := T) rfl rfl sz w
    have hhk := rHead_ok T
    have hse := errV_some (rHead T)
    generalize rHead T = O at HO hhd hhk hse
    rw [← hse] at HO
    clear hse
    obtain ⟨hd, hhde⟩ : ∃ hd, headV O = hd := ⟨_, rfl⟩
    rw [hhde] at HO hhd hhk
    generalize errV O = er at HO hhd
    clear hhde
    have c1 := H.c1
    have f1 := H.free 1
    have c2 := H.c2
    have f2 := H.free 2
    have c20 := H.c20
    have f20 := H.free 20
    have hlt := lt_of_block H.q
    go_upto_region 27 with (go_at_call 31; refine (hrd _).mono ?_; rintro e w1 ⟨rfl, rfl⟩)
    have H2 := ((H.set (q' := { q with dev := x1 }) 1 (.string x1) rfl).set (q' := { q with dev := x1, ifc := x2 }) 2 (.string x2) rfl).set (q' := { q with dev := x1, ifc := x2, hops := hops }) 20 (.int .i64 hops) rfl
    generalize hwq : World.setCell _ ⟨qa, 20, none⟩ _ = wq at H2 ⊢
    clear hwq c1 f1 c2 f2 c20 f20 w1 w2 w3 w4 w5 w6 hrd c0
    generalize hQ2 : ({ q with dev := x1, ifc := x2, hops := hops } : Q) = q2 at H2
    have HQ2 := Lib.hid hQ2
    clear hQ2
    go_cut [9, 10] (fun p e wx => ∃ g, p = .pointer (some ⟨g, 0, none⟩) ∧ e = .int .i64 er ∧ RI w b o ws qa q2 wx ∧ wx.heap[g]? = some (.cells hd.cells 32 (0, 0)))
    case first =>
      have H3 := H2.drew
      have W3 := words456 H3 X4.out X5.out X6.out
      have WN := words456 (RI.drew (RI.new H2 (.cells #[.int .u32 0, .int .u32 0, .int .u8 0, .int .u16 0, .int .u16 0] 32))) X4.out X5.out X6.out
      have n1 : ¬ 9223372036854775807 < x4.size + 1 := by omega
      have n2 : ¬ 9223372036854775807 < x4.size + 1 + x5.size := by omega
      have n3 : ¬ 9223372036854775807 < x4.size + 1 + x5.size + 1 := by omega
      have n4 : ¬ 9223372036854775807 < x4.size + 1 + x5.size + 1 + x6.size := by omega
      go_region_held3 (fun w' => w'.cell? ⟨b, o + 4, none⟩ = some (.string x4) ∧ w'.cell? ⟨b, o + 5, none⟩ = some (.string x5) ∧ w'.cell? ⟨b, o + 6, none⟩ = some (.string x6))
        (first | with_reducible exact W3 | with_reducible exact WN | with_reducible exact words456 H4 X4.out X5.out X6.out | with_reducible exact words456 (RI.new H4 _) X4.out X5.out X6.out | with_reducible exact words456 H5.1 X4.out X5.out X6.out)
        (first | (go_at_call 32; rw [HT.out]; refine (hhd _).mono ?_; rintro e w5 ⟨rfl, hb5⟩; have H4 : RI w b o ws qa q2 w5 := RI.below (RI.drew (RI.new H2 _)) hb5; have hk5 := kept_newD hb5; obtain ⟨y0, y1, y2, y3, y4⟩ := five_of hk5; obtain ⟨v0, v1, v2, v3, v4⟩ := free5_of hk5; have H5 := RI.five H4 hk5 H2.bel.size hd; clear hk5) | (go_at_call 32; rw [HT.out]; refine (hhd _).mono ?_; rintro e w5 ⟨rfl, hb5⟩; have H4 : RI w b o ws qa q2 w5 := RI.below H3 hb5))
      all_goals (go_wp2_with (fail); go_meet; first | exact ⟨_, rfl, rfl, RI.new H4 _, heap_alloc_new _ _⟩ | exact ⟨_, rfl, rfl, H5.1, H5.2⟩)
    case rest =>
    obtain ⟨g, rfl, rfl, H6, hg6⟩ := hcut
    obtain ⟨y0, y1, y2, y3, y4⟩ := five_of hg6
    clear hg6 hhd H2 H
    have hlt := lt_of_block H6.q
    have f15 := H6.free 15
    have f16 := H6.free 16
    have f17 := H6.free 17
    have f18 := H6.free 18
    have f19 := H6.free 19
    obtain ⟨e15, e16, e17, e18, e19⟩ := H6.hdc
    have hops20 : q2.hops = hops := by rw [← HQ2.out]
    have c20 := H6.c20
    rw [hops20] at c20
    clear hops20
    have H7 := H6.setHd hd.src hd.dst hd.proto hd.sport hd.dport
    rw [← HQ2.out, hz.out] at H7
    have hok : ({ Q.zero with kind := 4, dev := x1, ifc := x2, hops := hops, hd := hd } : Q).Ok := Q.ok4 x1 x2 hops hd (by omega) (by omega) hhk
    by_cases hneg : hops < 0
    · have hd0 : decide (0 ≤ hops) = false := by simp; omega
      rw [hd0, Bool.false_and] at HO
      have hg0 : ¬ hops ≥ 0 := by omega
      clear hd0 HQ2 H6
      go_wp2
      exact HK.out _ _ (rparse_end H7 (fun _ => hok) ⟨z1, z2, Nat.zero_le _⟩ HO)
    · have hd0 : decide (0 ≤ hops) = true := by simp; omega
      rw [hd0, Bool.true_and] at HO
      have hg0 : hops ≥ 0 := by omega
      clear hd0 HQ2 H6
      go_wp2
      exact HK.out _ _ (rparse_end H7 (fun _ => hok) ⟨z1, z2, Nat.zero_le _⟩ HO)
  · replace HO := Lib.hid ((if_neg h7).symm.trans HO.out)
    have h3 : ((n : Int) != 7) = true := by simp; omega
    clear h7
    go_wp2_with ((with_reducible refine wpList_is (o := ⟨none, .store 41 (.tmp 2) (.tmp 106), _, _, _, _⟩) ?_); refine wpList_store_row (P := Tryz.prog) rfl 41 (.tmp 2) (.tmp 106) rfl w.heap.size Q.zero.cells rfl rfl 41 Q.zero.cells H.res (by kernel_rfl) rfl (Q.one Q.zero) ?_; dsimp only [Act.put])
    have hr := fun (tm : Array Value) h2 h3 => results5_row (tmps := tm) (e := 4) h2 h3 (H.res_row Q.zero.cells) rfl
    refine bodyPost_ret (hr _ rfl rfl) rfl ?_
    exact ⟨congrArg _ HO.out, H.res_bel _⟩
end Go.Proofs.YtopccnoinngmbaaGreatDoor
