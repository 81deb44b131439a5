/-
  The reference's Parse walked: what the kinds 1 to 3 need
  Plain law: words and what is between them.
-/
import Derived.Test.YtopccnoinngmbaaGreatDoorA32
import Derived.Test.YtopccnoinngmbaaGreatDoorA35
import Derived.Test.YtopccnoinngmbaaGreatDoorA33

/- The reference's Parse walked: what the kinds 1 to 3 need -/
namespace Go.Proofs.YtopccnoinngmbaaGreatDoor
open Go.RowKit
set_option maxRecDepth 100000
set_option maxHeartbeats 16000000
set_option linter.unusedVariables false
set_option linter.unusedSimpArgs false

theorem at_as {l : List (List UInt8)} {g n c : Nat} {x : ByteArray} {v : Int} (hv : pl l x = v) (hn : (strs l).length = n) {W : World} (hs : SS W (some ⟨g, 0, none⟩) (strs l)) (h7 : n ≤ 200 := by decide) :
    Calls Tryz.prog 27 #[.slice (some ⟨g, 0, none⟩) n c, .string x] W fun e w' => e = .returned (.int .u8 v) ∧ w' = W := by
  subst hv
  exact at_any hn h7 x W hs
theorem RI.there {w W : World} {b o qa : Nat} {ws : List ByteArray} {q : Q} (H : RI w b o ws qa q W) (i n : Nat) (h : i + n ≤ 22) : W.there qa i n := fun j hj => by
  refine ⟨?_, free_at H.q _⟩
  rw [cell_at H.q]
  have : i + j < q.cells.size := by show i + j < 22; omega
  simp [this]
theorem RI.setRule {w W : World} {b o qa : Nat} {ws : List ByteArray} {q : Q} (H : RI w b o ws qa q W) (p : Bool) (a b' c d e f g h i : Int) :
    RI w b o ws qa { q with permit := p, proto := a, src := b', sbits := c, dst := d, dbits := e, slo := f, shi := g, dlo := h, dhi := i }
      (W.setCells qa 5 [.bool p, .int .i64 a, .int .u32 b', .int .i64 c, .int .u32 d, .int .i64 e, .int .u32 f, .int .u32 g, .int .u32 h, .int .u32 i]) :=
  (((((((((H.set (q' := { q with permit := p }) 5 _ rfl).set (q' := { q with permit := p, proto := a }) 6 _ rfl).set (q' := { q with permit := p, proto := a, src := b' }) 7 _ rfl).set
    (q' := { q with permit := p, proto := a, src := b', sbits := c }) 8 _ rfl).set (q' := { q with permit := p, proto := a, src := b', sbits := c, dst := d }) 9 _ rfl).set
    (q' := { q with permit := p, proto := a, src := b', sbits := c, dst := d, dbits := e }) 10 _ rfl).set (q' := { q with permit := p, proto := a, src := b', sbits := c, dst := d, dbits := e, slo := f }) 11 _ rfl).set
    (q' := { q with permit := p, proto := a, src := b', sbits := c, dst := d, dbits := e, slo := f, shi := g }) 12 _ rfl).set
    (q' := { q with permit := p, proto := a, src := b', sbits := c, dst := d, dbits := e, slo := f, shi := g, dlo := h }) 13 _ rfl).set
    (q' := { q with permit := p, proto := a, src := b', sbits := c, dst := d, dbits := e, slo := f, shi := g, dlo := h, dhi := i }) 14 _ rfl
theorem wp_setRule5 {w W : World} {b o' qa : Nat} {ws : List ByteArray} {q : Q} {ops : Array Oper} {rest : List Oper} {o : Oper} {a : Act} {Qp : Exit → Act → World → Prop} {p : Bool} {b' c d e f g h i j : Int} (hgd : o.guard = none) (x y : Operand) (ho : o.op = .store 29 x y) (hd : o.dst = none)
    (hx : a.eval x = .pointer (some ⟨qa, 5, none⟩)) (hy : a.eval y = .agg #[.bool p, .int .i64 b', .int .u32 c, .int .i64 d, .int .u32 e, .int .i64 f, .int .u32 g, .int .u32 h, .int .u32 i, .int .u32 j]) (H : RI w b o' ws qa q W)
    (k : ∀ W', RI w b o' ws qa { q with permit := p, proto := b', src := c, sbits := d, dst := e, dbits := f, slo := g, shi := h, dlo := i, dhi := j } W' → wpList Tryz.prog ops Qp rest a W') : wpList Tryz.prog ops Qp (o :: rest) a W := by
  refine wpList_store_mid (P := Tryz.prog) hgd 29 x y ho qa 5 _ hx hy (H.there 5 10 (by omega)) (by kernel_rfl) (by simp [Value.oneCell']) ?_
  rw [hd]
  exact k _ (H.setRule p b' c d e f g h i j)
theorem Q.okh (k e : Int) (k0 : 0 ≤ k) (k1 : k < 256) (e0 : 0 ≤ e) (e1 : e < 256) (x y : ByteArray) : ({ Q.zero with kind := k, dev := x, ifc := y, en := e, permit := true, proto := -1, src := 0, sbits := 0, dst := 0, dbits := 0, slo := 0, shi := 65535, dlo := 0, dhi := 65535 } : Q).Ok :=
  { Q.zok with k0 := k0, k1 := k1, e0 := e0, e1 := e1, p0 := show (-9223372036854775808 : Int) ≤ -1 by decide, p1 := show (-1 : Int) ≤ 9223372036854775807 by decide, sh0 := show (0 : Int) ≤ 65535 by decide, sh1 := show (65535 : Int) < 4294967296 by decide, dh0 := show (0 : Int) ≤ 65535 by decide, dh1 := show (65535 : Int) < 4294967296 by decide }
theorem ss_new (l : List (List UInt8)) (W : World) : SS (W.alloc (.cells ((strs l).map Value.string).toArray 9)) (some ⟨W.heap.size, 0, none⟩) (strs l) :=
  .inr ⟨W.heap.size, 0, _, _, rfl, heap_alloc_new _ _, fun j x hx => by simp [hx]⟩
theorem ss_newD (l : List (List UInt8)) (W : World) : SS (W.alloc (.cells ((strs l).map Value.string).toArray 9)).drew (some ⟨W.heap.size, 0, none⟩) (strs l) :=
  .inr ⟨W.heap.size, 0, _, _, rfl, heap_alloc_new _ _, fun j x hx => by simp [hx]⟩
theorem pl_le7 (l : List (List UInt8)) (x : ByteArray) : pl l x ≤ l.length := by
  unfold pl
  have hl : (strs l).length = l.length := by simp [strs]
  by_cases h : x ∈ strs l
  · obtain ⟨k, hk⟩ := List.getElem?_of_mem h
    have hf : ∃ k : Nat, (strs l)[k]? = some x ∧ ∀ j : Nat, j < k → (strs l)[j]? ≠ some x := by
      induction k using Nat.strongRecOn with
      | _ k ih =>
        by_cases hc : ∃ j : Nat, j < k ∧ (strs l)[j]? = some x
        · obtain ⟨j, hj, hx⟩ := hc; exact ih j hj hx
        · exact ⟨k, hk, fun j hj e => hc ⟨j, hj, e⟩⟩
    obtain ⟨m, h1, h2⟩ := hf
    rw [idx_hit h1 h2]
    have : m < (strs l).length := by
      rcases Nat.lt_or_ge m (strs l).length with h | h
      · exact h
      · rw [List.getElem?_eq_none h] at h1; cases h1
    omega
  · rw [idx_miss (fun j hj e => h (List.mem_of_getElem? e))]; omega
end Go.Proofs.YtopccnoinngmbaaGreatDoor

/- Plain law: words and what is between them. -/
namespace Go.Proofs.YtopccnoinngmbaaGreatDoor
open Go.RowKit
set_option maxRecDepth 100000
set_option linter.unusedVariables false
set_option linter.unusedSimpArgs false

/-- Words, each with a blank ahead. -/
def joinT (ws : List ByteArray) : List UInt8 := ws.flatMap fun x => 32 :: x.data.toList
/-- Words without blanks. -/
def Bare (ws : List ByteArray) : Prop := ∀ x ∈ ws, (32 : UInt8) ∉ x.data.toList
theorem joinT_cons (x : ByteArray) (ws : List ByteArray) : joinT (x :: ws) = 32 :: (x.data.toList ++ joinT ws) := by simp [joinT]
theorem joinT_nil : joinT [] = [] := rfl
theorem joinT_app (a b : List ByteArray) : joinT (a ++ b) = joinT a ++ joinT b := by simp [joinT]
theorem joinL_T : ∀ (x : List UInt8) (t : List ByteArray), joinL 32 (x :: t.map (·.data.toList)) = x ++ joinT t
  | x, [] => by simp [joinL, joinT]
  | x, y :: t => by
    rw [List.map_cons, joinL, joinL_T y.data.toList t, joinT_cons]
theorem joinB_T (x : ByteArray) (t : List ByteArray) : (joinB (x :: t)).data.toList = x.data.toList ++ joinT t := by
  unfold joinB
  rw [List.map_cons, joinL_T]
theorem map_data_inj : ∀ {a b : List ByteArray}, a.map (·.data.toList) = b.map (·.data.toList) → a = b
  | [], [], _ => rfl
  | [], _ :: _, h => by cases h
  | _ :: _, [], h => by cases h
  | x :: a, y :: b, h => by
    simp only [List.map_cons, List.cons.injEq] at h
    rw [ba_ext h.1, map_data_inj h.2]
theorem bare_map {a : List ByteArray} (h : Bare a) : ∀ x ∈ a.map (·.data.toList), (32 : UInt8) ∉ x := by
  intro x hx
  obtain ⟨y, hy, rfl⟩ := List.mem_map.1 hx
  exact h y hy
theorem joinT_inj {a b : List ByteArray} (ha : Bare a) (hb : Bare b) (h : joinT a = joinT b) : a = b := by
  have h1 := splitL_joinL (c := 32) (ws := [] :: a.map (·.data.toList)) (by simp) (fun x hx => by
    rcases List.mem_cons.1 hx with rfl | hx
    · simp
    · exact bare_map ha x hx)
  have h2 := splitL_joinL (c := 32) (ws := [] :: b.map (·.data.toList)) (by simp) (fun x hx => by
    rcases List.mem_cons.1 hx with rfl | hx
    · simp
    · exact bare_map hb x hx)
  rw [joinL_T, List.nil_append] at h1 h2
  rw [h, h2] at h1
  simp only [List.cons.injEq, true_and] at h1
  exact (map_data_inj h1).symm
theorem spl_bare (s : ByteArray) : Bare (spl 32 s) := by
  intro x hx
  have : x.data.toList ∈ splitL 32 s.data.toList := by rw [← spl_data]; exact List.mem_map_of_mem hx
  exact (splitL_mem this).1
theorem spl_joinB {ws : List ByteArray} (hne : ws ≠ []) (h : Bare ws) : spl 32 (joinB ws) = ws := by
  apply map_data_inj
  rw [spl_data]
  unfold joinB
  rw [splitL_joinL (by simpa using hne) (bare_map h)]
theorem spl_T {s w0 : ByteArray} {t : List ByteArray} (h : spl 32 s = w0 :: t) : s.data.toList = w0.data.toList ++ joinT t := by
  have := joinB_spl s
  rw [h] at this
  rw [← this, joinB_T]
theorem Bare.tail {x : ByteArray} {t : List ByteArray} (h : Bare (x :: t)) : Bare t := fun y hy => h y (List.mem_cons_of_mem _ hy)
theorem wd_data (l : List UInt8) : (wd l).data.toList = l := ofList_data l
theorem itoa_no {c : UInt8} (hc : isD c = false) (h45 : c ≠ 45) (v : Int) : c ∉ Lib.itoa v := by
  by_cases h : 0 ≤ v
  · exact itoa_free h hc
  · have hn : Lib.itoa v = 45 :: Lib.decDigits (-v).toNat := by
      rw [Lib.itoa, if_pos (by omega)]
      have : v.natAbs = (-v).toNat := by omega
      try rw [this]
      try rfl
    rw [hn]
    intro hm
    rcases List.mem_cons.1 hm with h1 | h1
    · exact h45 h1
    · have := List.all_eq_true.1 (dec_all (-v).toNat).1 _ h1
      rw [hc] at this; cases this
theorem itoa_32 (v : Int) : (32 : UInt8) ∉ Lib.itoa v := itoa_no (by decide) (by decide) v
theorem textA_no {c : UInt8} (hc : isD c = false) (h45 : c ≠ 45) (h46 : c ≠ 46) (a : Int) : c ∉ textA a := by
  unfold textA
  simp only [joinL, List.mem_append, List.mem_cons]
  intro h
  have d := fun v => itoa_no hc h45 v
  rcases h with h | h | h | h | h | h | h
  · exact d _ h
  · exact h46 h
  · exact d _ h
  · exact h46 h
  · exact d _ h
  · exact h46 h
  · exact d _ h
theorem textA_32 (a : Int) : (32 : UInt8) ∉ textA a := textA_no (by decide) (by decide) (by decide) a
theorem textP_32 (a b : Int) : (32 : UInt8) ∉ textP a b := by
  unfold textP
  simp only [List.mem_append, List.mem_cons]
  rintro (h | h | h)
  · exact textA_32 a h
  · revert h; decide
  · exact itoa_32 b h
theorem textS_32 (a b : Int) : (32 : UInt8) ∉ textS a b := by
  unfold textS
  simp only [List.mem_append, List.mem_cons]
  rintro (h | h | h)
  · exact itoa_32 a h
  · revert h; decide
  · exact itoa_32 b h
theorem textE_32 (a b : Int) : (32 : UInt8) ∉ textE a b := by
  unfold textE
  simp only [List.mem_append, List.mem_cons]
  rintro (h | h | h)
  · exact textA_32 a h
  · revert h; decide
  · exact itoa_32 b h
theorem bare_if {c : Bool} {t : ByteArray} {l : List UInt8} (ht : (32 : UInt8) ∉ t.data.toList) (hl : (32 : UInt8) ∉ l) : Bare (if c then [t, wd l] else []) := by
  intro x hx
  split at hx
  · simp only [List.mem_cons, List.not_mem_nil, or_false] at hx
    rcases hx with rfl | rfl
    · exact ht
    · rw [wd_data]; exact hl
  · cases hx
theorem Bare.app {a b : List ByteArray} (ha : Bare a) (hb : Bare b) : Bare (a ++ b) := by
  intro x hx
  rcases List.mem_append.1 hx with h | h
  · exact ha x h
  · exact hb x h
theorem segs_bare (q : Q) : Bare (segs q) :=
  (bare_if (by decide) (textP_32 _ _)).app ((bare_if (by decide) (textP_32 _ _)).app ((bare_if (by decide) (itoa_32 _)).app ((bare_if (by decide) (textS_32 _ _)).app (bare_if (by decide) (textS_32 _ _)))))
theorem even_if {c : Bool} {x y : ByteArray} : (if c then [x, y] else []).length % 2 = 0 := by split <;> simp
theorem segs_even (q : Q) : (segs q).length % 2 = 0 := by
  have hA : (sA q).length % 2 = 0 := even_if
  have hB : (sB q).length % 2 = 0 := even_if
  have hC : (sC q).length % 2 = 0 := even_if
  have hD : (sD q).length % 2 = 0 := even_if
  have hE : (sE q).length % 2 = 0 := even_if
  unfold segs
  simp only [List.length_append]
  omega
theorem opt_if {c : Bool} {t : ByteArray} {l m : List UInt8} (h : 32 :: (t.data.toList ++ [32]) = m) : opt c (m ++ l) = joinT (if c then [t, wd l] else []) := by
  subst h
  cases c
  · rfl
  · simp only [opt, if_true, joinT_cons, joinT_nil, wd_data, List.cons_append, List.append_assoc, List.nil_append, List.append_nil]
theorem pt5_segs (q : Q) : pt5 q = joinT (segs q) := by
  unfold segs
  rw [joinT_app, joinT_app, joinT_app, joinT_app]
  unfold pt5 pt4 pt3 pt2 pt1
  rw [opt_if (t := wFrom) (by rfl), opt_if (t := wTo) (by rfl), opt_if (t := wProto) (by rfl), opt_if (t := wSports) (by rfl), opt_if (t := wDports) (by rfl)]
  simp only [List.append_assoc]
  rfl
/-- A word at its place. -/
theorem idx_at (x : ByteArray) : ∀ (zs : List ByteArray) (i k : Nat), Lib.idxFromS zs x i = (k : Int) → i ≤ k ∧ zs[k - i]? = some x
  | [], i, k, h => by simp only [Lib.idxFromS] at h; omega
  | z :: zs, i, k, h => by
    rw [Lib.idxFromS] at h
    split at h
    · rename_i hz
      have : i = k := by omega
      subst this
      simp [hz]
    · obtain ⟨h1, h2⟩ := idx_at x zs (i + 1) k h
      refine ⟨by omega, ?_⟩
      rw [show k - i = (k - (i + 1)) + 1 by omega, List.getElem?_cons_succ]
      exact h2
theorem wordL_pl {l : List (List UInt8)} {x : ByteArray} (h : 1 ≤ pl l x) : wordL l (pl l x) = x := by
  have hle := pl_le7 l x
  unfold wordL
  rw [if_pos ⟨h, hle⟩]
  unfold pl at h ⊢
  obtain ⟨k, hk⟩ : ∃ k : Nat, Lib.idxOfS (strs l) x = (k : Int) := ⟨(Lib.idxOfS (strs l) x).toNat, by omega⟩
  obtain ⟨-, h2⟩ := idx_at x (strs l) 0 k hk
  rw [hk, show ((k : Int) + 1 - 1).toNat = k by omega, List.getD_eq_getElem?_getD]
  rw [Nat.sub_zero] at h2
  rw [h2]; rfl
theorem isName_ba : isName (⟨#[]⟩ : ByteArray).data.toList = false := rfl
theorem keepA {q1 q : Q} (h : rParts (segs q) q1 = (q, true)) : { q1 with src := q.src, sbits := q.sbits, dst := q.dst, dbits := q.dbits, proto := q.proto, slo := q.slo, shi := q.shi, dlo := q.dlo, dhi := q.dhi } = q := by
  unfold segs sA at h; split at h
  · rw [List.cons_append, List.cons_append, List.nil_append, rParts_true (rpt_from _ _)] at h
    have h2 := keepB h.2
    rw [← h2]
  · have h2 := keepB h
    rw [← h2]
theorem rPart_keep (q : Q) (t v : ByteArray) : (rPart q t v).1.kind = q.kind ∧ (rPart q t v).1.dev = q.dev ∧ (rPart q t v).1.ifc = q.ifc ∧ (rPart q t v).1.en = q.en := by
  unfold rPart
  repeat' split
  all_goals exact ⟨rfl, rfl, rfl, rfl⟩
theorem rParts_keep : ∀ (r : List ByteArray) (q : Q), (rParts r q).1.kind = q.kind ∧ (rParts r q).1.dev = q.dev ∧ (rParts r q).1.ifc = q.ifc ∧ (rParts r q).1.en = q.en
  | [], q => ⟨rfl, rfl, rfl, rfl⟩
  | [_], q => ⟨rfl, rfl, rfl, rfl⟩
  | t :: v :: r, q => by
    rw [rParts_cons]
    obtain ⟨h1, h2, h3, h4⟩ := rPart_keep q t v
    split
    · obtain ⟨k1, k2, k3, k4⟩ := rParts_keep r (rPart q t v).1
      exact ⟨k1.trans h1, k2.trans h2, k3.trans h3, k4.trans h4⟩
    · exact ⟨h1, h2, h3, h4⟩
end Go.Proofs.YtopccnoinngmbaaGreatDoor
