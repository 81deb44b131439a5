/-
  The reference's Parse walked: its first statements
  The reference's Parse walked: no kind
-/
import Derived.Test.YtopccnoinngmbaaGreatDoorA36

/- The reference's Parse walked: its first statements -/
namespace Go.Proofs.YtopccnoinngmbaaGreatDoor
open Go.RowKit
set_option maxRecDepth 100000
set_option maxHeartbeats 16000000
set_option linter.unusedVariables false
set_option linter.unusedSimpArgs false

theorem RI.start {w W : World} {b o g : Nat} {ws : List ByteArray} (hb : Below w.heap.size w W) (hr : W.heap[w.heap.size]? = some (.cells Q.zero.cells 41 (0, 0))) (hs : ∃ cs fr, W.heap[b]? = some (.cells cs 9 fr) ∧ ∀ (j : Nat) x, ws[j]? = some x → cs[o + j]? = some (.string x))
    (hg : W.heap[g]? = some (.cells Q.zero.cells 41 (0, 0))) (hl : w.heap.size < g) (q : Q) : RI w b o ws g q (W.setRow g q.cells) := by
  have keep : ∀ {k : Nat} {x : Obj}, W.heap[k]? = some x → k ≠ g → (W.setRow g q.cells).heap[k]? = some x := fun {k x} hk hne => by
    show (W.heap.modify g _)[k]? = _
    rw [Array.getElem?_modify, if_neg (by omega)]; exact hk
  obtain ⟨cs, fr, h1, h2⟩ := hs
  have hne : b ≠ g := by
    rintro rfl
    have := h1.symm.trans hg
    simp at this
  exact ⟨below_setRow hb (by omega) q.cells, keep hr (by omega), ⟨cs, fr, keep h1 hne, h2⟩, setRow_heap _ _ _ _ _ _ hg, hl⟩
/-- The words in memory, before the question is. -/
structure SC (w w1 : World) (b o : Nat) (ws : List ByteArray) (W : World) : Prop where
  bel : Below w.heap.size w W
  res : W.heap[w.heap.size]? = some (.cells Q.zero.cells 41 (0, 0))
  ss : ∃ cs fr, W.heap[b]? = some (.cells cs 9 fr) ∧ ∀ (j : Nat) x, ws[j]? = some x → cs[o + j]? = some (.string x)
  le : w1.heap.size ≤ W.heap.size
theorem SC.below {w w1 W W1 : World} {b o : Nat} {ws : List ByteArray} (H : SC w w1 b o ws W) (h : Below W.heap.size W W1) : SC w w1 b o ws W1 := by
  obtain ⟨cs, fr, h1, h2⟩ := H.ss
  exact ⟨below_seq H.bel h, kept_old h H.res, ⟨cs, fr, kept_old h h1, h2⟩, Nat.le_trans H.le h.size⟩
theorem SC.new {w w1 W : World} {b o : Nat} {ws : List ByteArray} (H : SC w w1 b o ws W) (ob : Obj) : SC w w1 b o ws (W.alloc ob) := H.below (below_new W ob)
theorem SC.word0 {w w1 W : World} {b o : Nat} {ws : List ByteArray} {x : ByteArray} (H : SC w w1 b o ws W) (hx : ws[0]? = some x) : W.cell? ⟨b, o, none⟩ = some (.string x) := by
  obtain ⟨cs, fr, h1, h2⟩ := H.ss
  rw [cell_at h1]; exact h2 0 x hx
theorem rparse_start (s : ByteArray) (ws : List ByteArray) (n : Nat) (hw : spl 32 s = ws) (hn : ws.length = n) (hs : s.size ≤ 4194304) {out : Value} {w : World}
    (rest : ∀ (b o qa c : Nat) (κ : Int) (wx : World) (K1 : Act → World → Prop), pl kindsL (ws.headD ⟨#[]⟩) = κ → Hid (∀ a w', Code.wp Tryz.prog cREnd (bodyPost Tryz.prog Tryz.f5 (Rq w out)) a w' → K1 a w') → RI w b o ws qa { Q.zero with kind := κ } wx →
      ∀ (u1 u7 u8 u9 u10 u11 u12 u13 u14 u15 u16 u17 u18 u19 u20 u21 u22 u23 u24 u25 u26 u27 u28 u29 u30 u31 u32 u33 u34 u35 u36 u37 u38 u39 u40 u41 u42 u43 u44 u45 u46 u47 u48 u49 u50 u51 u52 u53 u54 u55 u56 u57 u58 u59 u60 u61 u62 u63 u64 u65 u66 u67 u68 u69 u70 u71 u72 u73 u74 u75 u76 u77 u78 u79 u80 u81 u82 u83 u84 u85 u86 u87 u88 u89 u90 u91 u92 u93 u94 u95 u96 u97 u98 u99 u100 u101 u102 u103 u104 u105 u106 u107 u108 u109 u110 u111 u112 u113 u114 u115 u116 u117 u118 u119 u120 u121 u122 u123 u124 u125 u126 u127 u128 u129 u130 u131 u132 u133 u134 u135 u136 u137 u138 u139 u140 u141 u142 u143 u144 u145 u146 u147 u148 u149 u150 u151 u152 u153 u154 u155 u156 u157 u158 u159 u160 u161 u162 u163 u164 u165 u166 u167 u168 u169 u170 u171 u172 u173 u174 u175 u176 u177 u178 u179 u180 u181 u182 u183 u184 u185 u186 u187 u188 u189 u190 u191 u192 u193 u194 u195 u196 u197 u198 u199 u200 u201 u202 u203 u204 u205 u206 u207 u208 u209 u210 u211 u212 u213 u214 u215 u216 u217 u218 u219 u220 u221 u222 u223 u224 u225 u226 u227 u228 u229 u230 u231 u232 u233 u234 : Value), Code.wp Tryz.prog cRBlock (Exit.then K1 (bodyPost Tryz.prog Tryz.f5 (Rq w out))) ⟨#[.string s, u1, .pointer (some ⟨w.heap.size, 0, none⟩), .int .i64 0, .slice (some ⟨b, o, none⟩) n c, .pointer (some ⟨qa, 0, none⟩), .bool (decide (κ > 0)), u7, u8, u9, u10, u11, u12, u13, u14, u15, u16, u17, u18, u19, u20, u21, u22, u23, u24, u25, u26, u27, u28, u29, u30, u31, u32, u33, u34, u35, u36, u37, u38, u39, u40, u41, u42, u43, u44, u45, u46, u47, u48, u49, u50, u51, u52, u53, u54, u55, u56, u57, u58, u59, u60, u61, u62, u63, u64, u65, u66, u67, u68, u69, u70, u71, u72, u73, u74, u75, u76, u77, u78, u79, u80, u81, u82, u83, u84, u85, u86, u87, u88, u89, u90, u91, u92, u93, u94, u95, u96, u97, u98, u99, u100, u101, u102, u103, u104, u105, u106, u107, u108, u109, u110, u111, u112, u113, u114, u115, u116, u117, u118, u119, u120, u121, u122, u123, u124, u125, u126, u127, u128, u129, u130, u131, u132, u133, u134, u135, u136, u137, u138, u139, u140, u141, u142, u143, u144, u145, u146, u147, u148, u149, u150, u151, u152, u153, u154, u155, u156, u157, u158, u159, u160, u161, u162, u163, u164, u165, u166, u167, u168, u169, u170, u171, u172, u173, u174, u175, u176, u177, u178, u179, u180, u181, u182, u183, u184, u185, u186, u187, u188, u189, u190, u191, u192, u193, u194, u195, u196, u197, u198, u199, u200, u201, u202, u203, u204, u205, u206, u207, u208, u209, u210, u211, u212, u213, u214, u215, u216, u217, u218, u219, u220, u221, u222, u223, u224, u225, u226, u227, u228, u229, u230, u231, u232, u233, u234], []⟩ wx) :
    Calls Tryz.prog 5 #[.string s] w (Rq w out) := by
  obtain ⟨x, hx⟩ : ∃ x, ws[0]? = some x := by
    cases ws with
    | nil => exact absurd hw (spl_ne 32 s)
    | cons x t => exact ⟨x, rfl⟩
  have hx2 : ws.headD ⟨#[]⟩ = x := by
    cases ws with
    | nil => cases hx
    | cons y t => cases hx; rfl
  rw [hx2] at rest
  have n0 : 0 < n := by
    cases ws with
    | nil => cases hx
    | cons y t => rw [← hn]; simp
  have n0' : (0 : Int) < n := by omega
  have HR := Lib.hid rest
  have HX := Lib.hid hx
  obtain ⟨v, hv⟩ : ∃ v, pl kindsL x = v := ⟨_, rfl⟩
  have v0 := (pl_bounds kindsL x).1
  have v1 : pl kindsL x ≤ 7 := pl_le7 kindsL x
  rw [hv] at v0 v1
  have HV := Lib.hid hv
  have hwd : ∀ w0, Calls Tryz.prog 26 #[.string s] w0 (RWords w0 ws) := fun w0 => hw ▸ words_any s (by omega) w0
  have HN := Lib.hid hn
  have HWD := Lib.hid hwd
  clear rest hx hx2 hv hw hn hwd
  go_enter Tryz.func5, Tryz.ntmps5
  go_upto_region 2 with (go_at_call 26; refine (HWD.out _).mono ?_; rintro e w1 hrw; obtain ⟨ao, c, he, hc, hss, hb1⟩ := hrw; subst he; dsimp only)
  obtain ⟨b, o, cs, fr, rfl, hsb, hscs⟩ : ∃ b o cs fr, ao = some ⟨b, o, none⟩ ∧ w1.heap[b]? = some (.cells cs 9 fr) ∧ ∀ (j : Nat) y, ws[j]? = some y → cs[o + j]? = some (.string y) := by
    rcases hss with h | h
    · exfalso; have := HN.out; rw [h] at this; simp at this; omega
    · exact h
  rw [HN.out]
  have hres : w1.heap[w.heap.size]? = some (.cells Q.zero.cells 41 (0, 0)) := kept_new (o := .cells Q.zero.cells 41) hb1
  have hbel : Below w.heap.size w w1 := below_seq (below_new w (.cells Q.zero.cells 41)) hb1
  have hlt1 : w.heap.size < w1.heap.size := lt_of_block hres
  clear hb1 hss hc
  go_cut [5] (fun p wx => ∃ qa, p = .pointer (some ⟨qa, 0, none⟩) ∧ RI w b o ws qa { Q.zero with kind := v } wx)
  case first =>
    have C0 : SC w w1 b o ws w1 := ⟨hbel, hres, ⟨cs, fr, hsb, hscs⟩, Nat.le_refl _⟩
    have CD := C0.below (W1 := w1.drew) ⟨rfl, rfl, rfl, Nat.le_refl _, fun _ _ => rfl⟩
    generalize hwd : w1.drew = wd at CD
    have hk := kinds28_any
    have ss1 := ss_new kindsL wd
    have ssA := ss_new kindsL (wd.alloc (.cells Q.zero.cells 41))
    rw [sz_alloc] at ssA
    have ssB := SS.kept ss1 (w' := (wd.alloc (.cells ((strs kindsL).map Value.string).toArray 9)).alloc (.cells Q.zero.cells 41)) (fun k cs' fr' h' => kept_old (below_new _ _) h')
    generalize ((strs kindsL).map Value.string).toArray = KA at hk ss1 ssA ssB
    have CA := CD.new (.cells KA 9)
    have CAZ := CA.new (.cells Q.zero.cells 41)
    have CZ := CD.new (.cells Q.zero.cells 41)
    have CZA := CZ.new (.cells KA 9)
    have w0D := CD.word0 HX.out
    have w0A := CA.word0 HX.out
    have w0AZ := CAZ.word0 HX.out
    have w0Z := CZ.word0 HX.out
    have w0ZA := CZA.word0 HX.out
    have gAZ : ((wd.alloc (.cells KA 9)).alloc (.cells Q.zero.cells 41)).heap[wd.heap.size + 1]? = some (.cells Q.zero.cells 41 (0, 0)) := by have h' := heap_alloc_new (wd.alloc (.cells KA 9)) (.cells Q.zero.cells 41); rwa [sz_alloc] at h'
    have gZA : ((wd.alloc (.cells Q.zero.cells 41)).alloc (.cells KA 9)).heap[wd.heap.size]? = some (.cells Q.zero.cells 41 (0, 0)) := kept_old (below_new _ _) (heap_alloc_new _ _)
    have FAZ := RI.start CAZ.bel CAZ.res CAZ.ss gAZ (by have := CD.le; omega) { Q.zero with kind := v }
    have FZA := RI.start CZA.bel CZA.res CZA.ss gZA (by have := CD.le; omega) { Q.zero with kind := v }
    refine wp_region_held_drew (S := fun w' => w'.cell? ⟨b, o, none⟩ = some (.string x)) (by kernel_rfl) (by rw [hwd]; exact w0D) (fun _ => ?_)
    rw [hwd]
    refine wpAnyH_take (i := 1) (oi := _) (v := ?_) rfl (by kernel_rfl) (by kernel_rfl) (by kernel_rfl) (fun _ _ _ h => h) (Or.inl ⟨by rfl, ?_⟩) (by assumption) ?_
    rotate_left
    · (intro w' hSw; (try dsimp only at hSw); go_simp; (try with_reducible rfl))
    try simp only [Act.put, List.setIfInBounds_toArray, List.set_cons_zero, List.set_cons_succ]
    refine wpAnyH_take (i := 2) (oi := _) (v := ?_) rfl (by kernel_rfl) (by kernel_rfl) (by kernel_rfl) (fun _ _ _ h => h) (Or.inl ⟨by rfl, ?_⟩) (by assumption) ?_
    rotate_left
    · (intro w' hSw; (try dsimp only at hSw); go_simp; (try with_reducible rfl))
    try simp only [Act.put, List.setIfInBounds_toArray, List.set_cons_zero, List.set_cons_succ]
    refine wpAnyH_take (i := 3) (oi := _) (v := ?_) rfl (by kernel_rfl) (by kernel_rfl) (by kernel_rfl) (fun _ _ _ h => h) (Or.inl ⟨by rfl, ?_⟩) (by assumption) ?_
    rotate_left
    · (intro w' hSw; (try dsimp only at hSw); go_simp; (try with_reducible rfl))
    try simp only [Act.put, List.setIfInBounds_toArray, List.set_cons_zero, List.set_cons_succ]
    refine wpAnyH_ready (rs := [0, 6]) (by kernel_rfl) (by simp) ?_
    refine AllReadyH.cons rfl (fun K hK => ?_) (AllReadyH.cons rfl (fun K hK => ?_) AllReadyH.nil)
    · go_simp
      (go_at_call 28; refine (hk _).mono ?_; rintro e w5 ⟨rfl, rfl⟩)
      refine hK.out _ _ w0A (fun hH1 => ?_)
      clear hK K
      try simp only [Act.put, List.setIfInBounds_toArray, List.set_cons_zero, List.set_cons_succ]
      refine wpAnyH_ready (rs := [4, 6]) (by kernel_rfl) (by simp) ?_
      refine AllReadyH.cons rfl (fun K hK => ?_) (AllReadyH.cons rfl (fun K hK => ?_) AllReadyH.nil)
      · go_simp
        (go_at_call 27; refine (at_as (c := 7) (n := 7) HV.out rfl ss1).mono ?_; rintro e w6 ⟨rfl, rfl⟩)
        refine hK.out _ _ w0A (fun hH2 => ?_)
        clear hK K
        try simp only [Act.put, List.setIfInBounds_toArray, List.set_cons_zero, List.set_cons_succ]
        refine wpAnyH_take (i := 5) (oi := { dst := some 20, op := .build 41 #[(0, .tmp 19)], type := 41, pos := "ref.go:129", after := #[{ on := 4, ground := .data }], guard := none }) (v := ?_) rfl (by kernel_rfl) (by kernel_rfl) (by kernel_rfl) (fun _ _ _ h => h) (Or.inl ⟨by rfl, ?_⟩) (by assumption) ?_
        rotate_left
        · (intro w' hSw; (try dsimp only at hSw); go_simp; (try with_reducible rfl))
        try simp only [Act.put, List.setIfInBounds_toArray, List.set_cons_zero, List.set_cons_succ]
        refine wpAnyH_ready (rs := [6]) (by kernel_rfl) (by simp) ?_
        refine AllReadyH.cons rfl (fun K hK => ?_) AllReadyH.nil
        go_simp
        refine hK.out _ _ w0AZ (fun hH3 => ?_)
        clear hK K
        try simp only [Act.put, List.setIfInBounds_toArray, List.set_cons_zero, List.set_cons_succ]
        try dsimp only [Act.put]
        try simp only [Act.put, List.setIfInBounds_toArray, List.set_cons_zero, List.set_cons_succ]
        refine wpAnyH_ready (rs := [7]) (by kernel_rfl) (by simp) ?_
        refine AllReadyH.cons rfl (fun K hK => ?_) AllReadyH.nil
        rw [if_pos (by rfl)]
        refine wp_store_row (P := Tryz.prog) 41 (.tmp 5) (.tmp 20) rfl _ ({ Q.zero with kind := v } : Q).cells rfl rfl 41 Q.zero.cells gAZ (by kernel_rfl) rfl (Q.one _) ?_
        refine hK.out _ _ (FAZ.word (j := 0) HX.out) (fun hH9 => ?_)
        clear hK K
        try simp only [Act.put, List.setIfInBounds_toArray, List.set_cons_zero, List.set_cons_succ]
        refine wpAnyH_done (by kernel_rfl) ?_ _
        go_wp2_with (fail)
        go_meet
        exact ⟨_, rfl, FAZ⟩
      · go_simp
        refine hK.out _ _ w0AZ (fun hH4 => ?_)
        clear hK K
        try simp only [Act.put, List.setIfInBounds_toArray, List.set_cons_zero, List.set_cons_succ]
        refine wpAnyH_ready (rs := [4]) (by kernel_rfl) (by simp) ?_
        refine AllReadyH.cons rfl (fun K hK => ?_) AllReadyH.nil
        go_simp
        (go_at_call 27; refine (at_as (c := 7) (n := 7) HV.out rfl ssB).mono ?_; rintro e w6 ⟨rfl, rfl⟩)
        refine hK.out _ _ w0AZ (fun hH5 => ?_)
        clear hK K
        try simp only [Act.put, List.setIfInBounds_toArray, List.set_cons_zero, List.set_cons_succ]
        refine wpAnyH_take (i := 5) (oi := { dst := some 20, op := .build 41 #[(0, .tmp 19)], type := 41, pos := "ref.go:129", after := #[{ on := 4, ground := .data }], guard := none }) (v := ?_) rfl (by kernel_rfl) (by kernel_rfl) (by kernel_rfl) (fun _ _ _ h => h) (Or.inl ⟨by rfl, ?_⟩) (by assumption) ?_
        rotate_left
        · (intro w' hSw; (try dsimp only at hSw); go_simp; (try with_reducible rfl))
        try simp only [Act.put, List.setIfInBounds_toArray, List.set_cons_zero, List.set_cons_succ]
        try dsimp only [Act.put]
        try simp only [Act.put, List.setIfInBounds_toArray, List.set_cons_zero, List.set_cons_succ]
        refine wpAnyH_ready (rs := [7]) (by kernel_rfl) (by simp) ?_
        refine AllReadyH.cons rfl (fun K hK => ?_) AllReadyH.nil
        rw [if_pos (by rfl)]
        refine wp_store_row (P := Tryz.prog) 41 (.tmp 5) (.tmp 20) rfl _ ({ Q.zero with kind := v } : Q).cells rfl rfl 41 Q.zero.cells gAZ (by kernel_rfl) rfl (Q.one _) ?_
        refine hK.out _ _ (FAZ.word (j := 0) HX.out) (fun hH9 => ?_)
        clear hK K
        try simp only [Act.put, List.setIfInBounds_toArray, List.set_cons_zero, List.set_cons_succ]
        refine wpAnyH_done (by kernel_rfl) ?_ _
        go_wp2_with (fail)
        go_meet
        exact ⟨_, rfl, FAZ⟩
    · go_simp
      refine hK.out _ _ w0Z (fun hH6 => ?_)
      clear hK K
      try simp only [Act.put, List.setIfInBounds_toArray, List.set_cons_zero, List.set_cons_succ]
      refine wpAnyH_ready (rs := [0]) (by kernel_rfl) (by simp) ?_
      refine AllReadyH.cons rfl (fun K hK => ?_) AllReadyH.nil
      go_simp
      (go_at_call 28; refine (hk _).mono ?_; rintro e w5 ⟨rfl, rfl⟩)
      refine hK.out _ _ w0ZA (fun hH7 => ?_)
      clear hK K
      try simp only [Act.put, List.setIfInBounds_toArray, List.set_cons_zero, List.set_cons_succ]
      refine wpAnyH_ready (rs := [4]) (by kernel_rfl) (by simp) ?_
      refine AllReadyH.cons rfl (fun K hK => ?_) AllReadyH.nil
      go_simp
      (go_at_call 27; refine (at_as (c := 7) (n := 7) HV.out rfl ssA).mono ?_; rintro e w6 ⟨rfl, rfl⟩)
      refine hK.out _ _ w0ZA (fun hH8 => ?_)
      clear hK K
      try simp only [Act.put, List.setIfInBounds_toArray, List.set_cons_zero, List.set_cons_succ]
      refine wpAnyH_take (i := 5) (oi := { dst := some 20, op := .build 41 #[(0, .tmp 19)], type := 41, pos := "ref.go:129", after := #[{ on := 4, ground := .data }], guard := none }) (v := ?_) rfl (by kernel_rfl) (by kernel_rfl) (by kernel_rfl) (fun _ _ _ h => h) (Or.inl ⟨by rfl, ?_⟩) (by assumption) ?_
      rotate_left
      · (intro w' hSw; (try dsimp only at hSw); go_simp; (try with_reducible rfl))
      try simp only [Act.put, List.setIfInBounds_toArray, List.set_cons_zero, List.set_cons_succ]
      try dsimp only [Act.put]
      try simp only [Act.put, List.setIfInBounds_toArray, List.set_cons_zero, List.set_cons_succ]
      refine wpAnyH_ready (rs := [7]) (by kernel_rfl) (by simp) ?_
      refine AllReadyH.cons rfl (fun K hK => ?_) AllReadyH.nil
      rw [if_pos (by rfl)]
      refine wp_store_row (P := Tryz.prog) 41 (.tmp 5) (.tmp 20) rfl _ ({ Q.zero with kind := v } : Q).cells rfl rfl 41 Q.zero.cells gZA (by kernel_rfl) rfl (Q.one _) ?_
      refine hK.out _ _ (FZA.word (j := 0) HX.out) (fun hH9 => ?_)
      clear hK K
      try simp only [Act.put, List.setIfInBounds_toArray, List.set_cons_zero, List.set_cons_succ]
      refine wpAnyH_done (by kernel_rfl) ?_ _
      go_wp2_with (fail)
      go_meet
      exact ⟨_, rfl, FZA⟩
  case rest =>
  obtain ⟨qa, rfl, H⟩ := hcut
  clear hbel hres hsb hscs
  have c0 := H.k0 (κ := v) rfl
  go_upto_region 3 with (fail)
  go_cut [6] (fun r wx => r = .bool (decide (v > 0)) ∧ RI w b o ws qa { Q.zero with kind := v } wx)
  case first =>
    go_wp2
    go_meet
    exact ⟨rfl, H⟩
  case rest =>
  clear H c0
  obtain ⟨rfl, H⟩ := hcut
  apply_assumption
  refine wp_seq_k (fun K hK => ?_)
  apply HR.out
  · exact HV.out
  · exact Lib.hid (fun a w' h => hK a w' h)
  · exact H
end Go.Proofs.YtopccnoinngmbaaGreatDoor

/- The reference's Parse walked: no kind -/
namespace Go.Proofs.YtopccnoinngmbaaGreatDoor
open Go.RowKit
set_option maxRecDepth 100000
set_option maxHeartbeats 16000000
set_option linter.unusedVariables false
set_option linter.unusedSimpArgs false

theorem rparse_k0 {u1 u7 u8 u9 u10 u11 u12 u13 u14 u15 u16 u17 u18 u19 u20 u21 u22 u23 u24 u25 u26 u27 u28 u29 u30 u31 u32 u33 u34 u35 u36 u37 u38 u39 u40 u41 u42 u43 u44 u45 u46 u47 u48 u49 u50 u51 u52 u53 u54 u55 u56 u57 u58 u59 u60 u61 u62 u63 u64 u65 u66 u67 u68 u69 u70 u71 u72 u73 u74 u75 u76 u77 u78 u79 u80 u81 u82 u83 u84 u85 u86 u87 u88 u89 u90 u91 u92 u93 u94 u95 u96 u97 u98 u99 u100 u101 u102 u103 u104 u105 u106 u107 u108 u109 u110 u111 u112 u113 u114 u115 u116 u117 u118 u119 u120 u121 u122 u123 u124 u125 u126 u127 u128 u129 u130 u131 u132 u133 u134 u135 u136 u137 u138 u139 u140 u141 u142 u143 u144 u145 u146 u147 u148 u149 u150 u151 u152 u153 u154 u155 u156 u157 u158 u159 u160 u161 u162 u163 u164 u165 u166 u167 u168 u169 u170 u171 u172 u173 u174 u175 u176 u177 u178 u179 u180 u181 u182 u183 u184 u185 u186 u187 u188 u189 u190 u191 u192 u193 u194 u195 u196 u197 u198 u199 u200 u201 u202 u203 u204 u205 u206 u207 u208 u209 u210 u211 u212 u213 u214 u215 u216 u217 u218 u219 u220 u221 u222 u223 u224 u225 u226 u227 u228 u229 u230 u231 u232 u233 u234 : Value} {s : ByteArray} {w wx : World} {b o qa n c : Nat} {ws : List ByteArray} {q : Q} {out : Value} {K1 : Act → World → Prop} (HK : Hid (∀ a w', Code.wp Tryz.prog cREnd (bodyPost Tryz.prog Tryz.f5 (Rq w out)) a w' → K1 a w')) (H : RI w b o ws qa q wx)
    (hz : Hid (q = { Q.zero with kind := 0 })) (hn : ws.length = n) (hm : n ≤ 4194305) (hsm : Hid (∀ x ∈ ws, x.size ≤ 4194304)) (HO : Hid (outR false { Q.zero with kind := 0 } s = out)) :
    Code.wp Tryz.prog cRBlock (Exit.then K1 (bodyPost Tryz.prog Tryz.f5 (Rq w out))) ⟨#[.string s, u1, .pointer (some ⟨w.heap.size, 0, none⟩), .int .i64 0, .slice (some ⟨b, o, none⟩) n c, .pointer (some ⟨qa, 0, none⟩), .bool false, u7, u8, u9, u10, u11, u12, u13, u14, u15, u16, u17, u18, u19, u20, u21, u22, u23, u24, u25, u26, u27, u28, u29, u30, u31, u32, u33, u34, u35, u36, u37, u38, u39, u40, u41, u42, u43, u44, u45, u46, u47, u48, u49, u50, u51, u52, u53, u54, u55, u56, u57, u58, u59, u60, u61, u62, u63, u64, u65, u66, u67, u68, u69, u70, u71, u72, u73, u74, u75, u76, u77, u78, u79, u80, u81, u82, u83, u84, u85, u86, u87, u88, u89, u90, u91, u92, u93, u94, u95, u96, u97, u98, u99, u100, u101, u102, u103, u104, u105, u106, u107, u108, u109, u110, u111, u112, u113, u114, u115, u116, u117, u118, u119, u120, u121, u122, u123, u124, u125, u126, u127, u128, u129, u130, u131, u132, u133, u134, u135, u136, u137, u138, u139, u140, u141, u142, u143, u144, u145, u146, u147, u148, u149, u150, u151, u152, u153, u154, u155, u156, u157, u158, u159, u160, u161, u162, u163, u164, u165, u166, u167, u168, u169, u170, u171, u172, u173, u174, u175, u176, u177, u178, u179, u180, u181, u182, u183, u184, u185, u186, u187, u188, u189, u190, u191, u192, u193, u194, u195, u196, u197, u198, u199, u200, u201, u202, u203, u204, u205, u206, u207, u208, u209, u210, u211, u212, u213, u214, u215, u216, u217, u218, u219, u220, u221, u222, u223, u224, u225, u226, u227, u228, u229, u230, u231, u232, u233, u234], []⟩ wx := by
  unfold cRBlock
  conv => arg 2; whnf
  have HN := Lib.hid hn
  have c0 := H.k0 (κ := 0) (by rw [hz.out])
  clear hn
  go_wp2
  rw [hz.out] at H
  exact HK.out _ _ (rparse_end H (fun h => by cases h) ⟨Nat.zero_le _, Nat.zero_le _, Nat.zero_le _⟩ HO)
end Go.Proofs.YtopccnoinngmbaaGreatDoor
