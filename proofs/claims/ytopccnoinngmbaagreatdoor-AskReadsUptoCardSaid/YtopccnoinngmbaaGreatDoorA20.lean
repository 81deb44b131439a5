/-
  ask.Parse: what it answers, as a plain function.
  ask.Text: its memory, and the closure put.
  ask.Text walked: its pieces.
-/
import Derived.Test.YtopccnoinngmbaaGreatDoorA17
import Derived.Test.YtopccnoinngmbaaGreatDoorA18
import Derived.Test.YtopccnoinngmbaaGreatDoorA19
import Derived.Laws.AppendOwn
import Derived.OwnWalk
import Derived.Test.YtopccnoinngmbaaGreatDoorA13
import Derived.Deep.DeepCutAuto
import Derived.Deep.RegionHeld3
import Derived.Outline
import Derived.Laws.EntriesVeiled

/- ask.Parse: what it answers, as a plain function. -/
namespace Go.Proofs.YtopccnoinngmbaaGreatDoor
open Go.RowKit
set_option maxRecDepth 100000
set_option linter.unusedVariables false
set_option linter.unusedSimpArgs false

/-- Behind the heads of the kinds 1 to 3. -/
def fin3 (s : St) (q : Q) : St × Q := (stA6 (stA5 (stA4 (stA3 s))), qA6 (stA5 (stA4 (stA3 s))) (qA5 (stA4 (stA3 s)) (qA4 (stA3 s) (qA3 s q))))
/-- What is left, whether something was wrong, and the question, behind all words that are read. -/
def fin (ws : List ByteArray) : St × Q :=
  match (pl kindsL (ws.headD ⟨#[]⟩)).toNat with
  | 1 => fin3 (stA2 (stA1 (St.word (ws, false)))) (qA2 (stA1 (St.word (ws, false))) (qA1 (St.word (ws, false)) { Q.zero with kind := 1 }))
  | 2 => fin3 (stA2 (stA1 (St.word (ws, false)))) (qA2 (stA1 (St.word (ws, false))) (qA1 (St.word (ws, false)) { Q.zero with kind := 2 }))
  | 3 => fin3 (stA1 (St.word (ws, false))) (qA1 (St.word (ws, false)) { Q.zero with kind := 3 })
  | 4 => (stH (stA1 (St.word (ws, false))), qH (stA1 (St.word (ws, false))) { Q.zero with kind := 4, dev := (St.word (ws, false)).head, ifc := (St.word (ws, false)).name.head })
  | 5 => (stV (St.word (ws, false)).name, qV (St.word (ws, false)).name { Q.zero with kind := 5, dev := (St.word (ws, false)).head })
  | 6 => (stV (St.word (ws, false)).name, qV (St.word (ws, false)).name { Q.zero with kind := 6, dev := (St.word (ws, false)).head })
  | 7 => (stO (St.word (ws, false)), qO (St.word (ws, false)) { Q.zero with kind := 7 })
  | _ => ((St.word (ws, false)).bad true, { Q.zero with kind := pl kindsL (ws.headD ⟨#[]⟩) })

theorem joinL_tail (c : UInt8) (l : List (List UInt8)) : (joinL c l.tail).length ≤ (joinL c l).length := by
  match l with
  | [] => exact Nat.le_refl _
  | [x] => simp [joinL]
  | x :: y :: t => simp [joinL]; omega
theorem joinB_size (ws : List ByteArray) : (joinB ws).size = (joinL 32 (ws.map (·.data.toList))).length := by unfold joinB; show Array.size _ = _; simp
theorem joinB_tail (ws : List ByteArray) : (joinB ws.tail).size ≤ (joinB ws).size := by
  rw [joinB_size, joinB_size, List.map_tail]
  exact joinL_tail 32 _
theorem joinB_spl (s : ByteArray) : joinB (spl 32 s) = s := by
  unfold joinB
  have h : (spl 32 s).map (·.data.toList) = splitL 32 s.data.toList := by
    rw [spl_eq, List.map_map]
    conv => rhs; rw [← List.map_id (splitL 32 s.data.toList)]
    apply List.map_congr_left
    intro x _; rfl
  rw [h, joinL_splitL]

theorem parse_any (s : ByteArray) (hs : s.size ≤ 4194304) {w : World} (E : Env w) :
    Calls Tryz.prog 4 #[.string s] w (Rq w (outQ (fin (spl 32 s)).1 (fin (spl 32 s)).2)) := by
  have hj : (joinB (stA1 (St.word (spl 32 s, false))).word.1).size ≤ 16777216 := by
    have h0 : (joinB (spl 32 s)).size ≤ 4194304 := by rw [joinB_spl]; exact hs
    have h1 := joinB_tail (spl 32 s)
    have h2 := joinB_tail (spl 32 s).tail
    have h3 := joinB_tail (spl 32 s).tail.tail
    have h4 := joinB_tail (spl 32 s).tail.tail.tail
    have : (joinB (stA1 (St.word (spl 32 s, false))).word.1) = joinB (spl 32 s).tail.tail.tail.tail := rfl
    rw [this]; omega
  refine parse_start s (spl 32 s) _ rfl rfl hs E ?_
  intro qa κ wx K1 hk HK H
  have b0 := (pl_bounds kindsL ((spl 32 s).headD ⟨#[]⟩)).1
  have b1 : pl kindsL ((spl 32 s).headD ⟨#[]⟩) ≤ 8 := (pl_bounds kindsL ((spl 32 s).headD ⟨#[]⟩)).2
  rw [hk] at b0 b1
  have hc : κ = 0 ∨ κ = 1 ∨ κ = 2 ∨ κ = 3 ∨ κ = 4 ∨ κ = 5 ∨ κ = 6 ∨ κ = 7 ∨ κ = 8 := by omega
  intros
  unfold fin at HK ⊢
  rw [hk] at HK ⊢
  rcases hc with rfl | rfl | rfl | rfl | rfl | rfl | rfl | rfl | rfl
  · exact parse_kind0 HK E H (Lib.hid rfl)
  · exact parse_kind1 HK E H (Lib.hid rfl)
  · exact parse_kind2 HK E H (Lib.hid rfl)
  · exact parse_kind3 HK E H (Lib.hid rfl)
  · exact parse_kind4 HK E H hj (Lib.hid rfl)
  · exact parse_kind5 HK E H (Lib.hid rfl)
  · exact parse_kind6 HK E H (Lib.hid rfl)
  · exact parse_kind7 HK E H (Lib.hid rfl)
  · exact parse_kind8 HK E H (Lib.hid rfl)
end Go.Proofs.YtopccnoinngmbaaGreatDoor

/- ask.Text: its memory, and the closure put. -/
namespace Go.Proofs.YtopccnoinngmbaaGreatDoor
open Go.RowKit
set_option maxRecDepth 100000
set_option linter.unusedVariables false
set_option linter.unusedSimpArgs false

/-- The memory of ask.Text: the question, the words so far, the span of all ports. -/
structure TI (w : World) (q : Q) (ws : List ByteArray) (W : World) : Prop where
  bel : Below w.heap.size w W
  q : W.heap[w.heap.size]? = some (.cells q.cells 34 (0, 0))
  var : ∃ v, W.heap[w.heap.size + 1]? = some (.cells #[v] 51 (0, 0)) ∧ W.ownsRow w.heap.size 9 1 v ws.length (ws.map Value.string)
  all : W.heap[w.heap.size + 1 + 1]? = some (.cells #[.int .u32 0, .int .u32 65535] 27 (0, 0))
/-- Blocks of the heads' type stay. -/
def K29 (W W' : World) : Prop := ∀ (k : Nat) (cs : Array Value) (fr : Nat × Nat), W.heap[k]? = some (.cells cs 29 fr) → W'.heap[k]? = some (.cells cs 29 fr)
theorem K29.trans {a b c : World} (h : K29 a b) (h' : K29 b c) : K29 a c := fun k cs fr hk => h' k cs fr (h k cs fr hk)
theorem K29.of_below {a b : World} (h : Below a.heap.size a b) : K29 a b := fun k cs fr hk => kept_old h hk

theorem own_kept {W W1 : World} {base : Nat} {v : Value} {n : Nat} {xs : List Value} (ho : W.ownsRow base 9 1 v n xs) (hg : W.grownBy W1 v.ownBlock) {k : Nat} {cs : Array Value} {t : TypeId} {fr : Nat × Nat}
    (hk : W.heap[k]? = some (.cells cs t fr)) (ht : t ≠ 9) : W1.heap[k]? = some (.cells cs t fr) := by
  rw [hg.block k (lt_of_block hk) ?_]
  · exact hk
  · intro e
    rcases ho.2 with ⟨rfl, _⟩ | ⟨g, cap, cur, rfl, _, hgg, _⟩
    · simp [Value.ownBlock] at e
    · simp [Value.ownBlock] at e
      subst e
      have := hk.symm.trans hgg
      simp at this
      exact ht this.2.1
theorem own_slice {W : World} {base : Nat} {v : Value} {n : Nat} {xs : List Value} (ho : W.ownsRow base 9 1 v n xs) : ∃ ao cv, v = .slice ao n cv := by
  rcases ho.2 with ⟨rfl, rfl⟩ | ⟨g, cap, cur, rfl, _⟩
  · exact ⟨_, _, rfl⟩
  · exact ⟨_, _, rfl⟩
theorem own_setVar {W : World} {base bw : Nat} {v u u' : Value} {n : Nat} {xs : List Value} (ho : W.ownsRow base 9 1 v n xs) (hk : W.heap[bw]? = some (.cells #[u] 51 (0, 0))) :
    (W.setCell ⟨bw, 0, none⟩ u').ownsRow base 9 1 v n xs := by
  refine ⟨ho.1, ?_⟩
  rcases ho.2 with h | ⟨g, cap, cur, hv, hb, hg, rest⟩
  · exact .inl h
  · refine .inr ⟨g, cap, cur, hv, hb, ?_, rest⟩
    rw [Below.heap_setCell _ _ _ _ (fun e => ?_)]
    · exact hg
    · have e' : g = bw := e
      subst e'
      have := hk.symm.trans hg
      simp at this
theorem TI.below {w W W1 : World} {q : Q} {ws : List ByteArray} (H : TI w q ws W) (hb : Below W.heap.size W W1) : TI w q ws W1 := by
  obtain ⟨v, hv, ho⟩ := H.var
  refine ⟨below_seq H.bel hb, kept_old hb H.q, ⟨v, kept_old hb hv, ?_⟩, kept_old hb H.all⟩
  refine ⟨ho.1, ?_⟩
  rcases ho.2 with h | ⟨g, cap, cur, hv, hb', hg, rest⟩
  · exact .inl h
  · exact .inr ⟨g, cap, cur, hv, hb', kept_old hb hg, rest⟩
theorem TI.put {w W W1 : World} {q : Q} {ws ws' : List ByteArray} {v v' : Value} (H : TI w q ws W) (hv : W.heap[w.heap.size + 1]? = some (.cells #[v] 51 (0, 0))) (ho : W.ownsRow w.heap.size 9 1 v ws.length (ws.map Value.string))
    (hg : W.grownBy W1 v.ownBlock) (ho' : W1.ownsRow w.heap.size 9 1 v' ws'.length (ws'.map Value.string)) :
    TI w q ws' (W1.setCell ⟨w.heap.size + 1, 0, none⟩ v') ∧ K29 W (W1.setCell ⟨w.heap.size + 1, 0, none⟩ v') := by
  have k := fun {k : Nat} {cs : Array Value} {t : TypeId} {fr : Nat × Nat} (hk : W.heap[k]? = some (.cells cs t fr)) (ht : t ≠ 9) => own_kept ho hg hk ht
  have hs := H.bel.size
  have hb1 : Below w.heap.size w W1 := H.bel.grown hg hs (fun j hj => (ho.lt j hj).1)
  have k1 := k hv (by decide)
  have hne : ∀ {j : Nat} {cs : Array Value} {t : TypeId} {fr : Nat × Nat}, W.heap[j]? = some (.cells cs t fr) → t ≠ 51 → t ≠ 9 → (W1.setCell ⟨w.heap.size + 1, 0, none⟩ v').heap[j]? = some (.cells cs t fr) := fun {j cs t fr} hj h51 h9 => by
    rw [Below.heap_setCell _ _ _ _ (fun e => ?_)]
    · exact k hj h9
    · have e' : j = w.heap.size + 1 := e
      subst e'
      have := hj.symm.trans hv
      simp at this
      exact h51 this.2.1
  refine ⟨⟨hb1.setCell (Nat.le_succ _) _, hne H.q (by decide) (by decide), ⟨v', ?_, own_setVar ho' k1⟩, hne H.all (by decide) (by decide)⟩, fun j cs fr hj => hne hj (by decide) (by decide)⟩
  have := block_setCell k1 0 v'
  simpa using this

theorem put_any {w W : World} {q : Q} {ws : List ByteArray} (H : TI w q ws W) (b : Bool) (xs : List ByteArray) {m : Nat} (hm : xs.length = m) {xb : Nat} {xa : Array Value} (hx : W.heap[xb]? = some (.cells xa 9 (0, 0))) (hxa : xa = (xs.map Value.string).toArray)
    (hlen : ws.length + m ≤ 1000) :
    Calls Tryz.prog 35 #[.bool b, .slice (some ⟨xb, 0, none⟩) m m, .pointer (some ⟨w.heap.size + 1, 0, none⟩)] W fun e W' => e = .returned (.tuple #[]) ∧ TI w q (if b then ws ++ xs else ws) W' ∧ K29 W W' := by
  cases b with
  | false =>
    go_enter Tryz.func35, Tryz.ntmps35
    go_wp2
    go_end0
    exact ⟨rfl, H, fun k cs fr h => h⟩
  | true =>
    obtain ⟨v, hv, ho⟩ := H.var
    have cv := cell_of_one hv
    have fv := free_of_one hv
    subst hm hxa
    have hnews : ∀ (j : Nat) (u : Value), (xs.map Value.string)[j]? = some u → W.cell? ((⟨xb, 0, none⟩ : Addr).add j) = some u := fun j u hu => by
      have hadd : (⟨xb, 0, none⟩ : Addr).add j = ⟨xb, j, none⟩ := by unfold Addr.add; split <;> simp_all
      rw [hadd, cell_of_row W xb j _ 9 (0, 0) hx]
      simpa using hu
    have HN := Lib.hid hnews
    clear hnews
    have HO := Lib.hid ho
    have hs := H.bel.size
    clear ho
    obtain ⟨i0, hi, hz0, hz1, hz2⟩ := info_parts (P := Tryz.prog) (e := 9) (z := .string ByteArray.empty) (size := 1) (bytes := 16) (by kernel_rfl)
    go_enter Tryz.func35, Tryz.ntmps35
    go_wp2_with (at_builtin; refine wpList_append_own _ rfl _ _ 51 rfl w.heap.size 9 i0 (.string ByteArray.empty) 1 16 Tryz.underlying51 hi hz0 hz1 hz2 rfl (by decide) _ _ _ rfl HO.out ⟨xb, 0, none⟩ xs.length xs.length (xs.map Value.string) rfl (by simp) HN.out (by simp [Value.oneCell']) (by simp only [maxLen]; omega) (by omega) hs ?_; intro v' w' ho' hg' _; obtain ⟨ao, cv, rfl⟩ := own_slice ho'; have k1 := own_kept HO.out hg' hv (by decide); have c1 := cell_of_one k1; have f1 := free_of_one k1)
    go_end0
    rw [show (ws.map Value.string) ++ xs.map Value.string = (ws ++ xs).map Value.string by simp] at ho'
    have e1 : ws.length + xs.length = (ws ++ xs).length := by simp
    exact ⟨rfl, H.put hv HO.out hg' (e1 ▸ ho')⟩
end Go.Proofs.YtopccnoinngmbaaGreatDoor

/- ask.Text walked: its pieces. -/
namespace Go.Proofs.YtopccnoinngmbaaGreatDoor
open Go.RowKit
set_option maxRecDepth 100000
set_option maxHeartbeats 16000000
set_option linter.unusedVariables false
set_option linter.unusedSimpArgs false


theorem TI.cell {w W : World} {q : Q} {ws : List ByteArray} (H : TI w q ws W) (k : Nat) : W.cell? ⟨w.heap.size, k, none⟩ = q.cells[k]? := cell_at H.q k
theorem TI.cKind {w W : World} {q : Q} {ws : List ByteArray} (H : TI w q ws W) : W.cell? ⟨w.heap.size, 0, none⟩ = some (.int .u8 q.kind) := H.cell 0
theorem TI.cDev {w W : World} {q : Q} {ws : List ByteArray} (H : TI w q ws W) : W.cell? ⟨w.heap.size, 1, none⟩ = some (.string q.dev) := H.cell 1
theorem TI.cIfc {w W : World} {q : Q} {ws : List ByteArray} (H : TI w q ws W) : W.cell? ⟨w.heap.size, 2, none⟩ = some (.string q.ifc) := H.cell 2
theorem TI.cVrf {w W : World} {q : Q} {ws : List ByteArray} (H : TI w q ws W) : W.cell? ⟨w.heap.size, 3, none⟩ = some (.string q.vrf) := H.cell 3
theorem TI.cEn {w W : World} {q : Q} {ws : List ByteArray} (H : TI w q ws W) : W.cell? ⟨w.heap.size, 4, none⟩ = some (.int .u8 q.en) := H.cell 4
theorem TI.cHops {w W : World} {q : Q} {ws : List ByteArray} (H : TI w q ws W) : W.cell? ⟨w.heap.size, 20, none⟩ = some (.int .i64 q.hops) := H.cell 20
theorem TI.cAddr {w W : World} {q : Q} {ws : List ByteArray} (H : TI w q ws W) : W.cell? ⟨w.heap.size, 21, none⟩ = some (.int .u32 q.addr) := H.cell 21
/-- The ranges of a question's fields. -/
structure Q.Ok (q : Q) : Prop where
  k0 : 0 ≤ q.kind
  k1 : q.kind < 256
  e0 : 0 ≤ q.en
  e1 : q.en < 256
  p0 : -9223372036854775808 ≤ q.proto
  p1 : q.proto ≤ 9223372036854775807
  s0 : 0 ≤ q.src
  s1 : q.src < 4294967296
  sb0 : -9223372036854775808 ≤ q.sbits
  sb1 : q.sbits ≤ 9223372036854775807
  d0 : 0 ≤ q.dst
  d1 : q.dst < 4294967296
  db0 : -9223372036854775808 ≤ q.dbits
  db1 : q.dbits ≤ 9223372036854775807
  sl0 : 0 ≤ q.slo
  sl1 : q.slo < 4294967296
  sh0 : 0 ≤ q.shi
  sh1 : q.shi < 4294967296
  dl0 : 0 ≤ q.dlo
  dl1 : q.dlo < 4294967296
  dh0 : 0 ≤ q.dhi
  dh1 : q.dhi < 4294967296
  hd : q.hd.Ok
  h0 : -9223372036854775808 ≤ q.hops
  h1 : q.hops ≤ 9223372036854775807
  a0 : 0 ≤ q.addr
  a1 : q.addr < 4294967296

theorem TI.new {w W : World} {q : Q} {ws : List ByteArray} (H : TI w q ws W) (o : Obj) : TI w q ws (W.alloc o) := H.below (below_new W o)
theorem TI.drew {w W : World} {q : Q} {ws : List ByteArray} (H : TI w q ws W) : TI w q ws W.drew := H.below ⟨rfl, rfl, rfl, Nat.le_refl _, fun _ _ => rfl⟩
theorem TI_start (w : World) (q : Q) : TI w q [] (((w.alloc (.cells q.cells 34)).alloc (.cells #[.slice none 0 0] 51)).alloc (.cells #[.int .u32 0, .int .u32 65535] 27)) := by
  have b0 := below_new w (.cells q.cells 34)
  have b1 := below_new (w.alloc (.cells q.cells 34)) (.cells #[.slice none 0 0] 51)
  have b2 := below_new ((w.alloc (.cells q.cells 34)).alloc (.cells #[.slice none 0 0] 51)) (.cells #[.int .u32 0, .int .u32 65535] 27)
  refine ⟨below_seq (below_seq b0 b1) b2, kept_old b2 (kept_old b1 (heap_alloc_new _ _)), ⟨.slice none 0 0, kept_old b2 (at_alloc (by simp only [size_alloc])), World.ownsRow_nil _ _ _ _⟩, at_alloc (by simp only [size_alloc])⟩
/-- Words behind words, under a condition. -/
def onto (b : Bool) (ws xs : List ByteArray) : List ByteArray := if b then ws ++ xs else ws
theorem onto_len (b : Bool) (ws xs : List ByteArray) : (onto b ws xs).length ≤ ws.length + xs.length := by
  unfold onto; split <;> simp
/-- The words of ask.Text, one statement after the other. -/
def tw1 (q : Q) : List ByteArray := [wordL kindsL q.kind]
def tw2 (q : Q) : List ByteArray := onto (decide (q.kind < 7)) (tw1 q) [q.dev]
def tw3 (q : Q) : List ByteArray := onto (decide (q.kind < 5)) (tw2 q) [q.ifc]
def tw4 (q : Q) : List ByteArray := onto (decide (q.kind < 3)) (tw3 q) [wordL endsL q.en]
theorem tw4_len (q : Q) : (tw1 q).length ≤ 1 ∧ (tw2 q).length ≤ 2 ∧ (tw3 q).length ≤ 3 ∧ (tw4 q).length ≤ 4 := by
  have h2 := onto_len (decide (q.kind < 7)) (tw1 q) [q.dev]
  have h3 := onto_len (decide (q.kind < 5)) (tw2 q) [q.ifc]
  have h4 := onto_len (decide (q.kind < 3)) (tw3 q) [wordL endsL q.en]
  have h1 : (tw1 q).length = 1 := rfl
  have e2 : (tw2 q) = onto (decide (q.kind < 7)) (tw1 q) [q.dev] := rfl
  have e3 : (tw3 q) = onto (decide (q.kind < 5)) (tw2 q) [q.ifc] := rfl
  have e4 : (tw4 q) = onto (decide (q.kind < 3)) (tw3 q) [wordL endsL q.en] := rfl
  rw [← e2] at h2
  rw [← e3] at h3
  rw [← e4] at h4
  simp only [List.length_cons, List.length_nil] at h2 h3 h4
  omega
theorem put_as {w W : World} {q : Q} {ws : List ByteArray} (H : TI w q ws W) (b : Bool) (xs : List ByteArray) {ws' : List ByteArray} (he : onto b ws xs = ws') {m : Nat} (hm : xs.length = m) {xa : Array Value} (hxa : xa = (xs.map Value.string).toArray)
    (hlen : ws.length + m ≤ 1000) :
    Calls Tryz.prog 35 #[.bool b, .slice (some ⟨W.heap.size, 0, none⟩) m m, .pointer (some ⟨w.heap.size + 1, 0, none⟩)] (W.alloc (.cells xa 9)) fun e W' => e = .returned (.tuple #[]) ∧ TI w q ws' W' ∧ K29 W W' := by
  subst he
  exact (put_any (H.new _) b xs hm (heap_alloc_new _ _) hxa hlen).mono fun e W' ⟨h1, h2, h3⟩ => ⟨h1, h2, (K29.of_below (below_new _ _)).trans h3⟩

def Q.heads (q : Q) : Array Value := #[.bool q.permit, .int .i64 q.proto, .int .u32 q.src, .int .i64 q.sbits, .int .u32 q.dst, .int .i64 q.dbits, .int .u32 q.slo, .int .u32 q.shi, .int .u32 q.dlo, .int .u32 q.dhi]
/-- The memory of ask.Text, the heads in a variable. -/
structure TH (w : World) (q : Q) (ws : List ByteArray) (hb : Nat) (W : World) : Prop where
  t : TI w q ws W
  h : W.heap[hb]? = some (.cells q.heads 29 (0, 0))
section
variable {w W W1 : World} {q : Q} {ws : List ByteArray} {hb : Nat}
theorem TH.below (H : TH w q ws hb W) (h : Below W.heap.size W W1) : TH w q ws hb W1 := ⟨H.t.below h, kept_old h H.h⟩
theorem TH.new (H : TH w q ws hb W) (o : Obj) : TH w q ws hb (W.alloc o) := H.below (below_new W o)
theorem TH.drew (H : TH w q ws hb W) : TH w q ws hb W.drew := H.below ⟨rfl, rfl, rfl, Nat.le_refl _, fun _ _ => rfl⟩
theorem TH.cell (H : TH w q ws hb W) (k : Nat) : W.cell? ⟨hb, k, none⟩ = q.heads[k]? := cell_at H.h k
theorem TH.c1 (H : TH w q ws hb W) : W.cell? ⟨hb, 1, none⟩ = some (.int .i64 q.proto) := H.cell 1
theorem TH.c2 (H : TH w q ws hb W) : W.cell? ⟨hb, 2, none⟩ = some (.int .u32 q.src) := H.cell 2
theorem TH.c3 (H : TH w q ws hb W) : W.cell? ⟨hb, 3, none⟩ = some (.int .i64 q.sbits) := H.cell 3
theorem TH.c4 (H : TH w q ws hb W) : W.cell? ⟨hb, 4, none⟩ = some (.int .u32 q.dst) := H.cell 4
theorem TH.c5 (H : TH w q ws hb W) : W.cell? ⟨hb, 5, none⟩ = some (.int .i64 q.dbits) := H.cell 5
theorem TH.c6 (H : TH w q ws hb W) : W.cell? ⟨hb, 6, none⟩ = some (.int .u32 q.slo) := H.cell 6
theorem TH.c7 (H : TH w q ws hb W) : W.cell? ⟨hb, 7, none⟩ = some (.int .u32 q.shi) := H.cell 7
theorem TH.c8 (H : TH w q ws hb W) : W.cell? ⟨hb, 8, none⟩ = some (.int .u32 q.dlo) := H.cell 8
theorem TH.c9 (H : TH w q ws hb W) : W.cell? ⟨hb, 9, none⟩ = some (.int .u32 q.dhi) := H.cell 9
theorem TH.a0 (H : TH w q ws hb W) : W.cell? ⟨w.heap.size + 1 + 1, 0, none⟩ = some (.int .u32 0) := cell_at H.t.all 0
theorem TH.a1 (H : TH w q ws hb W) : W.cell? ⟨w.heap.size + 1 + 1, 1, none⟩ = some (.int .u32 65535) := cell_at H.t.all 1
theorem TH.put_as (H : TH w q ws hb W) (b : Bool) (xs : List ByteArray) {ws' : List ByteArray} (he : onto b ws xs = ws') {m : Nat} (hm : xs.length = m) {xa : Array Value} (hxa : xa = (xs.map Value.string).toArray)
    (hlen : ws.length + m ≤ 1000) :
    Calls Tryz.prog 35 #[.bool b, .slice (some ⟨W.heap.size, 0, none⟩) m m, .pointer (some ⟨w.heap.size + 1, 0, none⟩)] (W.alloc (.cells xa 9)) fun e W' => e = .returned (.tuple #[]) ∧ TH w q ws' hb W' :=
  (Go.Proofs.YtopccnoinngmbaaGreatDoor.put_as H.t b xs he hm hxa hlen).mono fun e W' ⟨h1, h2, h3⟩ => ⟨h1, h2, h3 _ _ _ H.h⟩
end
def wd (l : List UInt8) : ByteArray := ⟨l.toArray⟩
def tA (q : Q) : List ByteArray := onto (q.sbits != 0) (tw4 q) [wFrom, wd (textP q.src q.sbits)]
def tB (q : Q) : List ByteArray := onto (q.dbits != 0) (tA q) [wTo, wd (textP q.dst q.dbits)]
def tC (q : Q) : List ByteArray := onto (q.proto != -1) (tB q) [wProto, wd (Lib.itoa q.proto)]
def tD (q : Q) : List ByteArray := onto (!(q.slo == 0 && q.shi == 65535)) (tC q) [wSports, wd (textS q.slo q.shi)]
def tE (q : Q) : List ByteArray := onto (!(q.dlo == 0 && q.dhi == 65535)) (tD q) [wDports, wd (textS q.dlo q.dhi)]
theorem tE_len (q : Q) : (tA q).length ≤ 6 ∧ (tB q).length ≤ 8 ∧ (tC q).length ≤ 10 ∧ (tD q).length ≤ 12 ∧ (tE q).length ≤ 14 := by
  obtain ⟨-, -, -, h4⟩ := tw4_len q
  have hA := onto_len (q.sbits != 0) (tw4 q) [wFrom, wd (textP q.src q.sbits)]
  have hB := onto_len (q.dbits != 0) (tA q) [wTo, wd (textP q.dst q.dbits)]
  have hC := onto_len (q.proto != -1) (tB q) [wProto, wd (Lib.itoa q.proto)]
  have hD := onto_len (!(q.slo == 0 && q.shi == 65535)) (tC q) [wSports, wd (textS q.slo q.shi)]
  have hE := onto_len (!(q.dlo == 0 && q.dhi == 65535)) (tD q) [wDports, wd (textS q.dlo q.dhi)]
  have eA : tA q = onto (q.sbits != 0) (tw4 q) [wFrom, wd (textP q.src q.sbits)] := rfl
  have eB : tB q = onto (q.dbits != 0) (tA q) [wTo, wd (textP q.dst q.dbits)] := rfl
  have eC : tC q = onto (q.proto != -1) (tB q) [wProto, wd (Lib.itoa q.proto)] := rfl
  have eD : tD q = onto (!(q.slo == 0 && q.shi == 65535)) (tC q) [wSports, wd (textS q.slo q.shi)] := rfl
  have eE : tE q = onto (!(q.dlo == 0 && q.dhi == 65535)) (tD q) [wDports, wd (textS q.dlo q.dhi)] := rfl
  rw [← eA] at hA; rw [← eB] at hB; rw [← eC] at hC; rw [← eD] at hD; rw [← eE] at hE
  simp only [List.length_cons, List.length_nil] at hA hB hC hD hE
  omega
def theCond (n : Nat) : Code → Option Code
  | .cond o a b => match o with
    | .tmp m => if m == n then some (.cond o a b) else match theCond n a with
      | some c => some c
      | none => theCond n b
    | _ => match theCond n a with
      | some c => some c
      | none => theCond n b
  | .seq a b => match theCond n a with
    | some c => some c
    | none => theCond n b
  | .block _ c => theCond n c
  | .loop c => theCond n c
  | .scope c => theCond n c
  | _ => none
noncomputable def cTif : Code := ((Tryz.f6.body.bind (theCond 50)).getD .skip)
noncomputable def cTrest : Code := ((Tryz.f6.body.bind (piece 17)).getD .skip)
end Go.Proofs.YtopccnoinngmbaaGreatDoor
