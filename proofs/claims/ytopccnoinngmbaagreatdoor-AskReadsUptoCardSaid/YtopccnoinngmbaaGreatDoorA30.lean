/-
  The law's own function walked, out of what it calls.
  The reference's Parse walked: its end
-/
import Derived.Test.YtopccnoinngmbaaGreatDoorA29
import Derived.Deep.Quiet
import Derived.BigQuiet

/- The law's own function walked, out of what it calls. -/
namespace Go.Proofs.YtopccnoinngmbaaGreatDoor
open Go.RowKit
set_option maxRecDepth 100000
set_option maxHeartbeats 16000000
set_option linter.unusedVariables false
set_option linter.unusedSimpArgs false

/-- The law's memory: the question, the count. -/
structure C2 (w : World) (A : Array Value) (hi lo : Int) (W : World) : Prop where
  bel : Below w.heap.size w W
  q : W.heap[w.heap.size]? = some (.cells A 34 (0, 0))
  c : W.heap[w.heap.size + 1]? = some (.cells #[.int .u64 hi, .int .u64 lo] 37 (0, 0))
theorem C2.next {w W W1 : World} {A : Array Value} {hi lo : Int} (H : C2 w A hi lo W) (h : Below W.heap.size W W1) : C2 w A hi lo W1 := ⟨below_seq H.bel h, kept_old h H.q, kept_old h H.c⟩
theorem C2.start (w : World) (A : Array Value) (hi lo : Int) : C2 w A hi lo ((w.alloc (.cells A 34)).alloc (.cells #[.int .u64 hi, .int .u64 lo] 37)) := by
  refine ⟨below_seq (below_new w _) (below_new _ _), kept_old (below_new _ _) (heap_alloc_new _ _), ?_⟩
  have h := heap_alloc_new (w.alloc (.cells A 34)) (.cells #[.int .u64 hi, .int .u64 lo] 37)
  rwa [sz_alloc] at h
/-- .. and what was read. -/
structure C3 (w : World) (A X : Array Value) (hi lo : Int) (xa ya : Nat) (W : World) : Prop where
  t : C2 w A hi lo W
  x : W.heap[xa]? = some (.cells X 34 (0, 0))
  y : W.heap[ya]? = some (.cells X 41 (0, 0))
theorem C3.next {w W W1 : World} {A X : Array Value} {hi lo : Int} {xa ya : Nat} (H : C3 w A X hi lo xa ya W) (h : Below W.heap.size W W1) : C3 w A X hi lo xa ya W1 := ⟨H.t.next h, kept_old h H.x, kept_old h H.y⟩
theorem below_drawn (w : World) : Below w.heap.size w { w with drawn := w.drawn + 1 } := ⟨rfl, rfl, rfl, Nat.le_refl _, fun _ _ => rfl⟩
theorem wp_region_quiet_at {P : Program} {C : World → Prop} {id : Nat} {Q : Exit → Act → World → Prop} {a : Act} {w : World} {l : List Oper} (hm : P.follows .mixedOrders = true) (hB : Region.lexB .any l.toArray = true) (hC : C { w with drawn := w.drawn + 1 })
    (h : wpQuiet P l.toArray C (fun a' => ∀ w', C w' → Q .normal a' w') l a) : (Code.region id l.toArray true).wp P Q a w :=
  wp_region_quiet (C := C) hm hB hC (by simpa using h)
theorem quiet_load_row {P : Program} {C : World → Prop} {o : Oper} {a : Act} {K : Act → Prop} (ty : TypeId) (x : Operand) (ho : o.op = .load ty x)
    (g : Nat) (hx : a.eval x = .pointer (some ⟨g, 0, none⟩)) (t : TypeId) (cs : Array Value) (fr : Nat × Nat) (d : TypeDesc) (hg : ∀ w, C w → w.heap[g]? = some (.cells cs t fr))
    (hu : P.underlying ty = some d) (hd : (match d with | .struct _ | .array _ _ => true | _ => false) = true) (hi : (P.info? ty).map (·.size) = some cs.size)
    (h : K (a.put o.dst (.agg cs))) : o.quiet P a C K := by
  refine ⟨.agg cs, fun w hw => ?_, h⟩
  unfold Oper.quietAt execOp
  simp only [ho, hx, Instr.loadAt, Instr.sureAddr, Sem.run_bind, Sem.run_pure, Result.andThen_ok, run_loadVar_row w g t ty cs fr d (hg w hw) hu hd hi]
  exact ⟨rfl, rfl⟩
/-- What a callee makes of an argument. -/
def Gives (f : FuncId) (args : Array Value) (v : Value) : Prop := ∀ w, Calls Tryz.prog f args w fun e w' => e = .returned v ∧ Below w.heap.size w w'
def GivesE (f : FuncId) (args : Array Value) (v : Value) : Prop := ∀ w, Env w → Calls Tryz.prog f args w fun e w' => e = .returned v ∧ Below w.heap.size w w'

theorem reads_true {s : ByteArray} {A X : Array Value} {hi lo er : Int} {D T : ByteArray} {w : World} (E : Env w)
    (hA : Hid (A.size = 22 ∧ A.all (·.oneCell') = true)) (hX : Hid (X.size = 22 ∧ X.all (·.oneCell') = true))
    (h4 : GivesE 4 #[.string s] (.tuple #[.agg X, .int .i64 er])) (h5 : Gives 5 #[.string s] (.tuple #[.agg X, .int .i64 er]))
    (h6 : GivesE 6 #[.agg A] (.tuple #[.string T, .int .i64 0]))
    (h7 : Gives 7 #[.agg A] (.agg A)) (h7x : Gives 7 #[.agg X] (.agg X))
    (h8 : Gives 8 #[.agg #[.int .u64 hi, .int .u64 lo]] (.string D)) (h9 : Gives 9 #[.agg #[.int .u64 hi, .int .u64 lo]] (.string D))
    (h10 : Gives 10 #[.agg A] (.bool true)) (h11 : Gives 11 #[.agg A] (.string T))
    (he : ∀ w, (Op.equalIn 10000 41 (.agg X) (.agg X)).run Tryz.prog w = .ok true w) :
    Calls Tryz.prog 3 #[.string s, .agg A, .agg #[.int .u64 hi, .int .u64 lo]] w fun e w' => e = .returned (.bool true) ∧ Below w.heap.size w w' := by
  have H0 := C2.start w A hi lo
  go_enter Tryz.func3, Tryz.ntmps3
  go_upto_region 4 with (first | (go_at_call 4; refine (h4 _ (E.next H0.bel)).mono ?_; rintro e w1 ⟨rfl, hb1⟩; have H1 := H0.next hb1; have S1 := H1.next (below_setRow (below_new w1 (.cells Q.zero.cells 34)) (Nat.le_refl _) X); have x1 := setRow_heap _ _ _ X _ _ (heap_alloc_new w1 (.cells Q.zero.cells 34))) | ((with_reducible refine wpList_is (o := ⟨none, .store 34 (.tmp 7) (.tmp 16), _, _, _, _⟩) ?_); refine wpList_store_row (P := Tryz.prog) rfl 34 (.tmp 7) (.tmp 16) rfl w1.heap.size X rfl rfl 34 Q.zero.cells (heap_alloc_new _ _) (by rw [hX.out.1]; kernel_rfl) (by rw [hX.out.1]; rfl) hX.out.2 ?_; dsimp only [Act.put]) | (go_at_call 5; refine (h5 _).mono ?_; rintro e w2 ⟨rfl, hb2⟩; have H2 := S1.next hb2; have x2 := kept_old hb2 x1; have S2 := H2.next (below_setRow (below_new w2 (.cells Q.zero.cells 41)) (Nat.le_refl _) X); have x3 := kept_old (below_setRow (below_new w2 (.cells Q.zero.cells 41)) (Nat.le_refl _) X) x2; have y3 := setRow_heap _ _ _ X _ _ (heap_alloc_new w2 (.cells Q.zero.cells 41))) | ((with_reducible refine wpList_is (o := ⟨none, .store 41 (.tmp 9) (.tmp 21), _, _, _, _⟩) ?_); refine wpList_store_row (P := Tryz.prog) rfl 41 (.tmp 9) (.tmp 21) rfl w2.heap.size X rfl rfl 41 Q.zero.cells (heap_alloc_new _ _) (by rw [hX.out.1]; kernel_rfl) (by rw [hX.out.1]; rfl) hX.out.2 ?_; dsimp only [Act.put]) | ((with_reducible refine wpList_is (o := ⟨some 24, .load 34 (.tmp 4), _, _, _, _⟩) ?_); refine wpList_load_row_r (P := Tryz.prog) 34 (.tmp 4) rfl rfl w.heap.size rfl 34 A (0, 0) _ S2.q rfl rfl (by rw [hA.out.1]; kernel_rfl) ?_; dsimp only [Act.put]) | (go_at_call 6; refine (h6 _ (E.next S2.bel)).mono ?_; rintro e w3 ⟨rfl, hb3⟩; have H3 : C3 w A X hi lo _ _ w3 := ⟨S2.next hb3, kept_old hb3 x3, kept_old hb3 y3⟩))
  clear S1 S2 H0 H1 H2 x1 x2 x3 y3 hb1 hb2 hb3
  refine wp_region_quiet_at (C := C3 w A X hi lo _ _) (by kernel_rfl) (by kernel_rfl) (H3.next (below_drawn _)) ?_
  refine BigFrame.wpQuiet_want rfl (fun K hK => ?_)
  refine quiet_load_row 34 (.tmp 7) rfl _ rfl _ _ _ _ (fun w' hw' => hw'.x) rfl rfl (by rw [hX.out.1]; kernel_rfl) ?_
  refine hK _ ?_
  clear hK K
  try simp only [Act.put, List.setIfInBounds_toArray, List.set_cons_zero, List.set_cons_succ]
  refine wpQuiet_step (fun K hK => ?_)
  go_simp
  refine ⟨_, fun w' hw' => ((h7x w').mono fun e w'' ⟨he', hb'⟩ => ⟨he', hw'.next hb'⟩), hK _ ?_⟩
  clear hK K
  refine BigFrame.wpQuiet_want rfl (fun K hK => ?_)
  refine quiet_load_row 41 (.tmp 9) rfl _ rfl _ _ _ _ (fun w' hw' => hw'.y) rfl rfl (by rw [hX.out.1]; kernel_rfl) ?_
  refine hK _ ?_
  clear hK K
  try simp only [Act.put, List.setIfInBounds_toArray, List.set_cons_zero, List.set_cons_succ]
  refine wpQuiet_step (fun K hK => ?_)
  go_simp
  (first | (refine hK _ ?_; clear hK K) | (refine ⟨_, fun _ _ => rfl, hK _ ?_⟩; clear hK K))
  refine wpQuiet_step (fun K hK => ?_)
  go_simp
  (first | (refine hK _ ?_; clear hK K) | (refine ⟨_, fun _ _ => rfl, hK _ ?_⟩; clear hK K))
  refine wpQuiet_step (fun K hK => ?_)
  go_simp
  (first | (refine hK _ ?_; clear hK K) | (refine ⟨_, fun _ _ => rfl, hK _ ?_⟩; clear hK K))
  refine wpQuiet_step (fun K hK => ?_)
  go_simp
  (first | (refine hK _ ?_; clear hK K) | (refine ⟨_, fun _ _ => rfl, hK _ ?_⟩; clear hK K))
  refine wpQuiet_step (fun K hK => ?_)
  go_simp
  (first | (refine hK _ ?_; clear hK K) | (refine ⟨_, fun _ _ => rfl, hK _ ?_⟩; clear hK K))
  refine wpQuiet_step (fun K hK => ?_)
  go_simp
  (first | (refine hK _ ?_; clear hK K) | (refine ⟨_, fun _ _ => rfl, hK _ ?_⟩; clear hK K))
  refine wpQuiet_step (fun K hK => ?_)
  go_simp
  (first | (refine hK _ ?_; clear hK K) | (refine ⟨_, fun _ _ => rfl, hK _ ?_⟩; clear hK K))
  refine BigFrame.wpQuiet_want rfl (fun K hK => ?_)
  refine quiet_load_row 37 (.tmp 5) rfl _ rfl _ _ _ _ (fun w' hw' => hw'.t.c) rfl rfl (by kernel_rfl) ?_
  refine hK _ ?_
  clear hK K
  try simp only [Act.put, List.setIfInBounds_toArray, List.set_cons_zero, List.set_cons_succ]
  refine wpQuiet_step (fun K hK => ?_)
  go_simp
  refine ⟨_, fun w' hw' => ((h8 w').mono fun e w'' ⟨he', hb'⟩ => ⟨he', hw'.next hb'⟩), hK _ ?_⟩
  clear hK K
  refine BigFrame.wpQuiet_want rfl (fun K hK => ?_)
  refine quiet_load_row 37 (.tmp 5) rfl _ rfl _ _ _ _ (fun w' hw' => hw'.t.c) rfl rfl (by kernel_rfl) ?_
  refine hK _ ?_
  clear hK K
  try simp only [Act.put, List.setIfInBounds_toArray, List.set_cons_zero, List.set_cons_succ]
  refine wpQuiet_step (fun K hK => ?_)
  go_simp
  refine ⟨_, fun w' hw' => ((h9 w').mono fun e w'' ⟨he', hb'⟩ => ⟨he', hw'.next hb'⟩), hK _ ?_⟩
  clear hK K
  refine wpQuiet_step (fun K hK => ?_)
  go_simp
  (first | (refine hK _ ?_; clear hK K) | (refine ⟨_, fun _ _ => rfl, hK _ ?_⟩; clear hK K))
  refine wpQuiet_step (fun K hK => ?_)
  go_simp
  (first | (refine hK _ ?_; clear hK K) | (refine ⟨_, fun _ _ => rfl, hK _ ?_⟩; clear hK K))
  refine wpQuiet_nil ?_
  intro w4 H4
  clear he
  go_wp2_with (first | ((with_reducible refine wpList_is (o := ⟨some 44, .load 34 (.tmp 4), _, _, _, _⟩) ?_); refine wpList_load_row_r (P := Tryz.prog) 34 (.tmp 4) rfl rfl w.heap.size rfl 34 A (0, 0) _ H4.t.q rfl rfl (by rw [hA.out.1]; kernel_rfl) ?_; dsimp only [Act.put]) | ((with_reducible refine wpList_is (o := ⟨some 58, .load 34 (.tmp 4), _, _, _, _⟩) ?_); refine wpList_load_row_r (P := Tryz.prog) 34 (.tmp 4) rfl rfl w.heap.size rfl 34 A (0, 0) _ H6.t.q rfl rfl (by rw [hA.out.1]; kernel_rfl) ?_; dsimp only [Act.put]) | (go_at_call 7; refine (h7 _).mono ?_; rintro e w7 ⟨rfl, hb7⟩; have H7 := H6.next hb7) | (go_at_call 7; refine (h7 _).mono ?_; rintro e w5 ⟨rfl, hb5⟩; have H5 := H4.next hb5) | (go_at_call 10; refine (h10 _).mono ?_; rintro e w6 ⟨rfl, hb6⟩; have H6 := H5.next hb6) | (go_at_call 11; refine (h11 _).mono ?_; rintro e w8 ⟨rfl, hb8⟩; have H8 := H7.next hb8))
  go_ret
  exact ⟨by simp, H8.t.bel⟩
theorem reads_false {s : ByteArray} {A X : Array Value} {hi lo er : Int} {D : ByteArray} {w : World} (E : Env w)
    (hA : Hid (A.size = 22 ∧ A.all (·.oneCell') = true)) (hX : Hid (X.size = 22 ∧ X.all (·.oneCell') = true))
    (h4 : GivesE 4 #[.string s] (.tuple #[.agg X, .int .i64 er])) (h5 : Gives 5 #[.string s] (.tuple #[.agg X, .int .i64 er]))
    (h6 : GivesE 6 #[.agg A] (.tuple #[.string ⟨#[]⟩, .int .i64 1]))
    (h7 : Gives 7 #[.agg A] (.agg A)) (h7x : Gives 7 #[.agg X] (.agg X))
    (h8 : Gives 8 #[.agg #[.int .u64 hi, .int .u64 lo]] (.string D)) (h9 : Gives 9 #[.agg #[.int .u64 hi, .int .u64 lo]] (.string D))
    (h10 : Gives 10 #[.agg A] (.bool false))
    (he : ∀ w, (Op.equalIn 10000 41 (.agg X) (.agg X)).run Tryz.prog w = .ok true w) :
    Calls Tryz.prog 3 #[.string s, .agg A, .agg #[.int .u64 hi, .int .u64 lo]] w fun e w' => e = .returned (.bool true) ∧ Below w.heap.size w w' := by
  have H0 := C2.start w A hi lo
  go_enter Tryz.func3, Tryz.ntmps3
  go_upto_region 4 with (first | (go_at_call 4; refine (h4 _ (E.next H0.bel)).mono ?_; rintro e w1 ⟨rfl, hb1⟩; have H1 := H0.next hb1; have S1 := H1.next (below_setRow (below_new w1 (.cells Q.zero.cells 34)) (Nat.le_refl _) X); have x1 := setRow_heap _ _ _ X _ _ (heap_alloc_new w1 (.cells Q.zero.cells 34))) | ((with_reducible refine wpList_is (o := ⟨none, .store 34 (.tmp 7) (.tmp 16), _, _, _, _⟩) ?_); refine wpList_store_row (P := Tryz.prog) rfl 34 (.tmp 7) (.tmp 16) rfl w1.heap.size X rfl rfl 34 Q.zero.cells (heap_alloc_new _ _) (by rw [hX.out.1]; kernel_rfl) (by rw [hX.out.1]; rfl) hX.out.2 ?_; dsimp only [Act.put]) | (go_at_call 5; refine (h5 _).mono ?_; rintro e w2 ⟨rfl, hb2⟩; have H2 := S1.next hb2; have x2 := kept_old hb2 x1; have S2 := H2.next (below_setRow (below_new w2 (.cells Q.zero.cells 41)) (Nat.le_refl _) X); have x3 := kept_old (below_setRow (below_new w2 (.cells Q.zero.cells 41)) (Nat.le_refl _) X) x2; have y3 := setRow_heap _ _ _ X _ _ (heap_alloc_new w2 (.cells Q.zero.cells 41))) | ((with_reducible refine wpList_is (o := ⟨none, .store 41 (.tmp 9) (.tmp 21), _, _, _, _⟩) ?_); refine wpList_store_row (P := Tryz.prog) rfl 41 (.tmp 9) (.tmp 21) rfl w2.heap.size X rfl rfl 41 Q.zero.cells (heap_alloc_new _ _) (by rw [hX.out.1]; kernel_rfl) (by rw [hX.out.1]; rfl) hX.out.2 ?_; dsimp only [Act.put]) | ((with_reducible refine wpList_is (o := ⟨some 24, .load 34 (.tmp 4), _, _, _, _⟩) ?_); refine wpList_load_row_r (P := Tryz.prog) 34 (.tmp 4) rfl rfl w.heap.size rfl 34 A (0, 0) _ S2.q rfl rfl (by rw [hA.out.1]; kernel_rfl) ?_; dsimp only [Act.put]) | (go_at_call 6; refine (h6 _ (E.next S2.bel)).mono ?_; rintro e w3 ⟨rfl, hb3⟩; have H3 : C3 w A X hi lo _ _ w3 := ⟨S2.next hb3, kept_old hb3 x3, kept_old hb3 y3⟩))
  clear S1 S2 H0 H1 H2 x1 x2 x3 y3 hb1 hb2 hb3
  refine wp_region_quiet_at (C := C3 w A X hi lo _ _) (by kernel_rfl) (by kernel_rfl) (H3.next (below_drawn _)) ?_
  refine BigFrame.wpQuiet_want rfl (fun K hK => ?_)
  refine quiet_load_row 34 (.tmp 7) rfl _ rfl _ _ _ _ (fun w' hw' => hw'.x) rfl rfl (by rw [hX.out.1]; kernel_rfl) ?_
  refine hK _ ?_
  clear hK K
  try simp only [Act.put, List.setIfInBounds_toArray, List.set_cons_zero, List.set_cons_succ]
  refine wpQuiet_step (fun K hK => ?_)
  go_simp
  refine ⟨_, fun w' hw' => ((h7x w').mono fun e w'' ⟨he', hb'⟩ => ⟨he', hw'.next hb'⟩), hK _ ?_⟩
  clear hK K
  refine BigFrame.wpQuiet_want rfl (fun K hK => ?_)
  refine quiet_load_row 41 (.tmp 9) rfl _ rfl _ _ _ _ (fun w' hw' => hw'.y) rfl rfl (by rw [hX.out.1]; kernel_rfl) ?_
  refine hK _ ?_
  clear hK K
  try simp only [Act.put, List.setIfInBounds_toArray, List.set_cons_zero, List.set_cons_succ]
  refine wpQuiet_step (fun K hK => ?_)
  go_simp
  (first | (refine hK _ ?_; clear hK K) | (refine ⟨_, fun _ _ => rfl, hK _ ?_⟩; clear hK K))
  refine wpQuiet_step (fun K hK => ?_)
  go_simp
  (first | (refine hK _ ?_; clear hK K) | (refine ⟨_, fun _ _ => rfl, hK _ ?_⟩; clear hK K))
  refine wpQuiet_step (fun K hK => ?_)
  go_simp
  (first | (refine hK _ ?_; clear hK K) | (refine ⟨_, fun _ _ => rfl, hK _ ?_⟩; clear hK K))
  refine wpQuiet_step (fun K hK => ?_)
  go_simp
  (first | (refine hK _ ?_; clear hK K) | (refine ⟨_, fun _ _ => rfl, hK _ ?_⟩; clear hK K))
  refine wpQuiet_step (fun K hK => ?_)
  go_simp
  (first | (refine hK _ ?_; clear hK K) | (refine ⟨_, fun _ _ => rfl, hK _ ?_⟩; clear hK K))
  refine wpQuiet_step (fun K hK => ?_)
  go_simp
  (first | (refine hK _ ?_; clear hK K) | (refine ⟨_, fun _ _ => rfl, hK _ ?_⟩; clear hK K))
  refine wpQuiet_step (fun K hK => ?_)
  go_simp
  (first | (refine hK _ ?_; clear hK K) | (refine ⟨_, fun _ _ => rfl, hK _ ?_⟩; clear hK K))
  refine BigFrame.wpQuiet_want rfl (fun K hK => ?_)
  refine quiet_load_row 37 (.tmp 5) rfl _ rfl _ _ _ _ (fun w' hw' => hw'.t.c) rfl rfl (by kernel_rfl) ?_
  refine hK _ ?_
  clear hK K
  try simp only [Act.put, List.setIfInBounds_toArray, List.set_cons_zero, List.set_cons_succ]
  refine wpQuiet_step (fun K hK => ?_)
  go_simp
  refine ⟨_, fun w' hw' => ((h8 w').mono fun e w'' ⟨he', hb'⟩ => ⟨he', hw'.next hb'⟩), hK _ ?_⟩
  clear hK K
  refine BigFrame.wpQuiet_want rfl (fun K hK => ?_)
  refine quiet_load_row 37 (.tmp 5) rfl _ rfl _ _ _ _ (fun w' hw' => hw'.t.c) rfl rfl (by kernel_rfl) ?_
  refine hK _ ?_
  clear hK K
  try simp only [Act.put, List.setIfInBounds_toArray, List.set_cons_zero, List.set_cons_succ]
  refine wpQuiet_step (fun K hK => ?_)
  go_simp
  refine ⟨_, fun w' hw' => ((h9 w').mono fun e w'' ⟨he', hb'⟩ => ⟨he', hw'.next hb'⟩), hK _ ?_⟩
  clear hK K
  refine wpQuiet_step (fun K hK => ?_)
  go_simp
  (first | (refine hK _ ?_; clear hK K) | (refine ⟨_, fun _ _ => rfl, hK _ ?_⟩; clear hK K))
  refine wpQuiet_step (fun K hK => ?_)
  go_simp
  (first | (refine hK _ ?_; clear hK K) | (refine ⟨_, fun _ _ => rfl, hK _ ?_⟩; clear hK K))
  refine wpQuiet_nil ?_
  intro w4 H4
  clear he
  go_wp2_with (first | ((with_reducible refine wpList_is (o := ⟨some 44, .load 34 (.tmp 4), _, _, _, _⟩) ?_); refine wpList_load_row_r (P := Tryz.prog) 34 (.tmp 4) rfl rfl w.heap.size rfl 34 A (0, 0) _ H4.t.q rfl rfl (by rw [hA.out.1]; kernel_rfl) ?_; dsimp only [Act.put]) | (go_at_call 7; refine (h7 _).mono ?_; rintro e w5 ⟨rfl, hb5⟩; have H5 := H4.next hb5) | (go_at_call 10; refine (h10 _).mono ?_; rintro e w6 ⟨rfl, hb6⟩; have H6 := H5.next hb6))
  go_ret
  exact ⟨rfl, H6.t.bel⟩
end Go.Proofs.YtopccnoinngmbaaGreatDoor

/- The reference's Parse walked: its end -/
namespace Go.Proofs.YtopccnoinngmbaaGreatDoor
open Go.RowKit
set_option maxRecDepth 100000
set_option maxHeartbeats 16000000
set_option linter.unusedVariables false
set_option linter.unusedSimpArgs false

theorem rparse_end_no {u1 u4 u7 u8 u9 u10 u11 u12 u13 u14 u15 u16 u17 u18 u19 u20 u21 u22 u23 u24 u25 u26 u27 u28 u29 u30 u31 u32 u33 u34 u35 u36 u37 u38 u39 u40 u41 u42 u43 u44 u45 u46 u47 u48 u49 u50 u51 u52 u53 u54 u55 u56 u57 u58 u59 u60 u61 u62 u63 u64 u65 u66 u67 u68 u69 u70 u71 u72 u73 u74 u75 u76 u77 u78 u79 u80 u81 u82 u83 u84 u85 u86 u87 u88 u89 u90 u91 u92 u93 u94 u95 u96 u97 u98 u99 u100 u101 u102 u103 u104 u105 u106 u107 u108 u109 u110 u111 u112 u113 u114 u115 u116 u117 u118 u119 u120 u121 u122 u123 u124 u125 u126 u127 u128 u129 u130 u131 u132 u133 u134 u135 u136 u137 u138 u139 u140 u141 u142 u143 u144 u145 u146 u147 u148 u149 u150 u151 u152 u153 u154 u155 u156 u157 u158 u159 u160 u161 u162 u163 u164 u165 u166 u167 u168 u169 u170 u171 u172 u173 u174 u175 u176 u177 u178 u179 u180 u181 u182 u183 u184 u185 u186 u187 u188 u189 u190 u191 u192 u193 u194 u195 u196 u197 u198 u199 u200 u201 u202 u203 u204 u205 u206 u207 u208 u209 u210 u211 u212 u213 u214 u215 u216 u217 u218 u219 u220 u221 u222 u223 u224 u225 u226 u227 u228 u229 u230 u231 u232 u233 u234 : Value} {s : ByteArray} {w wx : World} {b o qa : Nat} {ws : List ByteArray} {q : Q} {out : Value} (H : RI w b o ws qa q wx) (HO : Hid (outR false q s = out)) :
    Code.wp Tryz.prog cREnd (bodyPost Tryz.prog Tryz.f5 (Rq w out)) ⟨#[.string s, u1, .pointer (some ⟨w.heap.size, 0, none⟩), .int .i64 0, u4, .pointer (some ⟨qa, 0, none⟩), .bool false, u7, u8, u9, u10, u11, u12, u13, u14, u15, u16, u17, u18, u19, u20, u21, u22, u23, u24, u25, u26, u27, u28, u29, u30, u31, u32, u33, u34, u35, u36, u37, u38, u39, u40, u41, u42, u43, u44, u45, u46, u47, u48, u49, u50, u51, u52, u53, u54, u55, u56, u57, u58, u59, u60, u61, u62, u63, u64, u65, u66, u67, u68, u69, u70, u71, u72, u73, u74, u75, u76, u77, u78, u79, u80, u81, u82, u83, u84, u85, u86, u87, u88, u89, u90, u91, u92, u93, u94, u95, u96, u97, u98, u99, u100, u101, u102, u103, u104, u105, u106, u107, u108, u109, u110, u111, u112, u113, u114, u115, u116, u117, u118, u119, u120, u121, u122, u123, u124, u125, u126, u127, u128, u129, u130, u131, u132, u133, u134, u135, u136, u137, u138, u139, u140, u141, u142, u143, u144, u145, u146, u147, u148, u149, u150, u151, u152, u153, u154, u155, u156, u157, u158, u159, u160, u161, u162, u163, u164, u165, u166, u167, u168, u169, u170, u171, u172, u173, u174, u175, u176, u177, u178, u179, u180, u181, u182, u183, u184, u185, u186, u187, u188, u189, u190, u191, u192, u193, u194, u195, u196, u197, u198, u199, u200, u201, u202, u203, u204, u205, u206, u207, u208, u209, u210, u211, u212, u213, u214, u215, u216, u217, u218, u219, u220, u221, u222, u223, u224, u225, u226, u227, u228, u229, u230, u231, u232, u233, u234], []⟩ wx := by
  unfold cREnd
  conv => arg 2; whnf
  generalize hQ : (bodyPost Tryz.prog Tryz.f5 (Rq w out)) = Qf
  have HO2 : Hid (Value.tuple #[.agg Q.zero.cells, .int .i64 4] = out) := Lib.hid HO.out
  go_wp2_with (first | ((with_reducible refine wpList_is (o := ⟨none, .store 41 (.tmp 2) (.tmp 233), _, _, _, _⟩) ?_); refine wpList_store_row (P := Tryz.prog) rfl 41 (.tmp 2) (.tmp 233) rfl w.heap.size Q.zero.cells rfl rfl 41 Q.zero.cells H.res (by kernel_rfl) rfl (Q.one Q.zero) ?_; dsimp only [Act.put]))
  subst hQ
  have hr := fun (tm : Array Value) h2 h3 => results5_row (tmps := tm) (e := 4) h2 h3 (H.res_row Q.zero.cells) rfl
  refine bodyPost_ret (hr _ rfl rfl) rfl ?_
  exact ⟨congrArg _ HO2.out, H.res_bel _⟩
theorem rparse_end_hi {u1 u4 u7 u8 u9 u10 u11 u12 u13 u14 u15 u16 u17 u18 u19 u20 u21 u22 u23 u24 u25 u26 u27 u28 u29 u30 u31 u32 u33 u34 u35 u36 u37 u38 u39 u40 u41 u42 u43 u44 u45 u46 u47 u48 u49 u50 u51 u52 u53 u54 u55 u56 u57 u58 u59 u60 u61 u62 u63 u64 u65 u66 u67 u68 u69 u70 u71 u72 u73 u74 u75 u76 u77 u78 u79 u80 u81 u82 u83 u84 u85 u86 u87 u88 u89 u90 u91 u92 u93 u94 u95 u96 u97 u98 u99 u100 u101 u102 u103 u104 u105 u106 u107 u108 u109 u110 u111 u112 u113 u114 u115 u116 u117 u118 u119 u120 u121 u122 u123 u124 u125 u126 u127 u128 u129 u130 u131 u132 u133 u134 u135 u136 u137 u138 u139 u140 u141 u142 u143 u144 u145 u146 u147 u148 u149 u150 u151 u152 u153 u154 u155 u156 u157 u158 u159 u160 u161 u162 u163 u164 u165 u166 u167 u168 u169 u170 u171 u172 u173 u174 u175 u176 u177 u178 u179 u180 u181 u182 u183 u184 u185 u186 u187 u188 u189 u190 u191 u192 u193 u194 u195 u196 u197 u198 u199 u200 u201 u202 u203 u204 u205 u206 u207 u208 u209 u210 u211 u212 u213 u214 u215 u216 u217 u218 u219 u220 u221 u222 u223 u224 u225 u226 u227 u228 u229 u230 u231 u232 u233 u234 : Value} {s : ByteArray} {w wx : World} {b o qa : Nat} {ws : List ByteArray} {q : Q} {out : Value} (H : RI w b o ws qa q wx) (hq : q.Ok) (sm : q.Sm) (hk : 7 ≤ q.kind) (HO : Hid (outR true q s = out)) :
    Code.wp Tryz.prog cREnd (bodyPost Tryz.prog Tryz.f5 (Rq w out)) ⟨#[.string s, u1, .pointer (some ⟨w.heap.size, 0, none⟩), .int .i64 0, u4, .pointer (some ⟨qa, 0, none⟩), .bool true, u7, u8, u9, u10, u11, u12, u13, u14, u15, u16, u17, u18, u19, u20, u21, u22, u23, u24, u25, u26, u27, u28, u29, u30, u31, u32, u33, u34, u35, u36, u37, u38, u39, u40, u41, u42, u43, u44, u45, u46, u47, u48, u49, u50, u51, u52, u53, u54, u55, u56, u57, u58, u59, u60, u61, u62, u63, u64, u65, u66, u67, u68, u69, u70, u71, u72, u73, u74, u75, u76, u77, u78, u79, u80, u81, u82, u83, u84, u85, u86, u87, u88, u89, u90, u91, u92, u93, u94, u95, u96, u97, u98, u99, u100, u101, u102, u103, u104, u105, u106, u107, u108, u109, u110, u111, u112, u113, u114, u115, u116, u117, u118, u119, u120, u121, u122, u123, u124, u125, u126, u127, u128, u129, u130, u131, u132, u133, u134, u135, u136, u137, u138, u139, u140, u141, u142, u143, u144, u145, u146, u147, u148, u149, u150, u151, u152, u153, u154, u155, u156, u157, u158, u159, u160, u161, u162, u163, u164, u165, u166, u167, u168, u169, u170, u171, u172, u173, u174, u175, u176, u177, u178, u179, u180, u181, u182, u183, u184, u185, u186, u187, u188, u189, u190, u191, u192, u193, u194, u195, u196, u197, u198, u199, u200, u201, u202, u203, u204, u205, u206, u207, u208, u209, u210, u211, u212, u213, u214, u215, u216, u217, u218, u219, u220, u221, u222, u223, u224, u225, u226, u227, u228, u229, u230, u231, u232, u233, u234], []⟩ wx := by
  unfold cREnd
  conv => arg 2; whnf
  generalize hQ : (bodyPost Tryz.prog Tryz.f5 (Rq w out)) = Qf
  have sd := sm.d
  have si := sm.i
  have c0 := H.c0
  have c1 := H.c1
  have c2 := H.c2
  have k0 := hq.k0
  have k1 := hq.k1
  have hk1 : ¬ q.kind < 7 := by omega
  have hk2 : ¬ q.kind < 5 := by omega
  by_cases hw : wrT q = s.data.toList
  · have hw2 : (wrT q == s.toList) = true := by rw [ByteArray.toList_eq]; simp [hw]
    have HO2 : Hid (Value.tuple #[.agg q.cells, .int .i64 0] = out) := Lib.hid (by
      have hbad : rBad true q s = false := by unfold rBad; simp [hk1, hk2, hw]
      have ho := HO.out
      rw [outR, hbad] at ho
      exact ho)
    have hw3 : (wrT q != s.toList) = false := by rw [bne, hw2]; rfl
    clear hw
    go_wp2_with (first | ((with_reducible refine wpList_is (o := ⟨some 228, .load 41 (.tmp 5), _, _, _, _⟩) ?_); refine wpList_load_row_r (P := Tryz.prog) 41 (.tmp 5) rfl rfl qa rfl 41 q.cells (0, 0) _ H.q rfl rfl (by kernel_rfl) ?_; dsimp only [Act.put]) | (go_at_call 11; refine (write_any q hq sm _).mono ?_; rintro e w2 ⟨rfl, hb2⟩; have H2 := H.below hb2) | ((with_reducible refine wpList_is (o := ⟨some 234, .load 41 (.tmp 5), _, _, _, _⟩) ?_); refine wpList_load_row_r (P := Tryz.prog) 41 (.tmp 5) rfl rfl qa rfl 41 q.cells (0, 0) _ H2.q rfl rfl (by kernel_rfl) ?_; dsimp only [Act.put]) | ((with_reducible refine wpList_is (o := ⟨none, .store 41 (.tmp 2) (.tmp 234), _, _, _, _⟩) ?_); refine wpList_store_row (P := Tryz.prog) rfl 41 (.tmp 2) (.tmp 234) rfl w.heap.size q.cells rfl rfl 41 Q.zero.cells H2.res (by kernel_rfl) rfl (Q.one q) ?_; dsimp only [Act.put]))
    subst hQ
    have hr := fun (tm : Array Value) h2 h3 => results5_row (tmps := tm) (e := 0) h2 h3 (H2.res_row q.cells) rfl
    refine bodyPost_ret (hr _ rfl rfl) rfl ?_
    exact ⟨congrArg _ HO2.out, H2.res_bel _⟩
  · have hw2 : (wrT q == s.toList) = false := by rw [ByteArray.toList_eq]; simp [hw]
    have HO2 : Hid (Value.tuple #[.agg Q.zero.cells, .int .i64 4] = out) := Lib.hid (by
      have hbad : rBad true q s = true := by unfold rBad; simp [hk1, hk2, hw]
      have ho := HO.out
      rw [outR, hbad] at ho
      exact ho)
    have hw3 : (wrT q != s.toList) = true := by rw [bne, hw2]; rfl
    clear hw
    go_wp2_with (first | ((with_reducible refine wpList_is (o := ⟨some 228, .load 41 (.tmp 5), _, _, _, _⟩) ?_); refine wpList_load_row_r (P := Tryz.prog) 41 (.tmp 5) rfl rfl qa rfl 41 q.cells (0, 0) _ H.q rfl rfl (by kernel_rfl) ?_; dsimp only [Act.put]) | (go_at_call 11; refine (write_any q hq sm _).mono ?_; rintro e w2 ⟨rfl, hb2⟩; have H2 := H.below hb2) | ((with_reducible refine wpList_is (o := ⟨none, .store 41 (.tmp 2) (.tmp 233), _, _, _, _⟩) ?_); refine wpList_store_row (P := Tryz.prog) rfl 41 (.tmp 2) (.tmp 233) rfl w.heap.size Q.zero.cells rfl rfl 41 Q.zero.cells H2.res (by kernel_rfl) rfl (Q.one Q.zero) ?_; dsimp only [Act.put]))
    subst hQ
    have hr := fun (tm : Array Value) h2 h3 => results5_row (tmps := tm) (e := 4) h2 h3 (H2.res_row Q.zero.cells) rfl
    refine bodyPost_ret (hr _ rfl rfl) rfl ?_
    exact ⟨congrArg _ HO2.out, H2.res_bel _⟩
end Go.Proofs.YtopccnoinngmbaaGreatDoor
