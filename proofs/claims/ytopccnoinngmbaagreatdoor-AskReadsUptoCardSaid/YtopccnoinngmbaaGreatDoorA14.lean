/-
  The closures name and prefix of ask.Parse.
  ask.Parse's steps as plain functions of the words that are left, of whether something was wrong, and of the question so far.
-/
import Derived.Test.YtopccnoinngmbaaGreatDoorA12
import Derived.Test.YtopccnoinngmbaaGreatDoorA08

/- The closures name and prefix of ask.Parse. -/
namespace Go.Proofs.YtopccnoinngmbaaGreatDoor
open Go.RowKit
set_option maxRecDepth 100000
set_option maxHeartbeats 4000000
set_option linter.unusedVariables false
set_option linter.unusedSimpArgs false

theorem isName_nil : isName [] = false := rfl
theorem head_small {w : World} {ra ba wv iv : Nat} {rs : List ByteArray} {bad : Bool} (h : PSt w ra ba wv iv rs bad) : (rs.headD ⟨#[]⟩).size ≤ 16777216 := by
  cases rs with
  | nil => exact Nat.zero_le _
  | cons x xs => exact h.small x (List.mem_cons_self)

theorem clname_any {ra ba wv iv : Nat} {rs : List ByteArray} {bad : Bool} {w : World} (h : PSt w ra ba wv iv rs bad) :
    Calls Tryz.prog 14 #[.pointer (some ⟨wv, 0, none⟩), .pointer (some ⟨ba, 0, none⟩)] w fun e w' =>
      e = .returned (.string (rs.headD ⟨#[]⟩)) ∧ PSt w' ra ba wv iv rs.tail (bad || !isName (rs.headD ⟨#[]⟩).data.toList) ∧ Fr (RB ra ba) w w' := by
  have hw := word_any h
  have hx := head_small h
  have hb : (bad || !isName (rs.headD ⟨#[]⟩).data.toList) = ((bad || rs.isEmpty) || !isName (rs.headD ⟨#[]⟩).data.toList) := by
    cases rs with
    | nil => simp [isName]
    | cons x xs => simp
  rw [hb]
  have cw := cell_of_one h.word
  generalize (bad || rs.isEmpty) = b1 at hw ⊢
  generalize rs.headD ⟨#[]⟩ = x at hw hx ⊢
  generalize rs.tail = rs' at hw ⊢
  have HN := fun w : World => name_any (w := w) x hx
  generalize isName x.data.toList = ok at HN ⊢
  clear hb
  cases b1 with
  | true =>
    go_enter Tryz.func14, Tryz.ntmps14
    go_wp2_with (go_at_call 13; refine hw.mono ?_; rintro e w1 ⟨rfl, hp, hf⟩; have c1 := cell_of_one hp.flag; have f1 := free_of_one hp.flag)
    go_ret
    exact ⟨rfl, by simpa using hp.setFlag true, hf.trans (Fr.setCell _ _ (.inr rfl) _)⟩
  | false =>
    go_enter Tryz.func14, Tryz.ntmps14
    go_wp2_with (first | (go_at_call 13; refine hw.mono ?_; rintro e w1 ⟨rfl, hp, hf⟩; have c1 := cell_of_one hp.flag; have f1 := free_of_one hp.flag) | (go_at_call 15; refine (HN _).mono ?_; rintro e w2 ⟨rfl, hb2⟩; have hp2 := hp.frame hb2.block; have c2 := cell_of_one hp2.flag; have f2 := free_of_one hp2.flag))
    go_ret
    exact ⟨rfl, by simpa using hp2.setFlag (!ok), (hf.trans (Fr.of_below hb2)).trans (Fr.setCell _ _ (.inr rfl) _)⟩

theorem Env.fr {S : Nat → Prop} {w w' : World} (E : Env w) (h : Fr S w w') (hs : ∀ k, S k → 13 ≤ k) : Env w' :=
  E.below (h.belowAt (Below.refl 13 w) E.many hs) (Nat.le_refl _)
/-- A prefix that says something. -/
def okPre (x : ByteArray) : Bool := match pPrefix x with
  | some (_, b) => !(b == 0)
  | none => false
def preV (x : ByteArray) : Int × Int := (pPrefix x).getD (0, 0)
theorem PSt.ne {w : World} {ra ba wv iv : Nat} {rs : List ByteArray} {bad : Bool} (h : PSt w ra ba wv iv rs bad) : ¬ RB ra ba w.heap.size := by
  obtain ⟨A, c, hr, _⟩ := h.rest
  have := lt_of_block hr
  have := lt_of_block h.flag
  rintro (e | e) <;> omega

theorem pre_no {ra ba wv iv : Nat} {rs : List ByteArray} {bad : Bool} {w : World} (s : ByteArray) (h : PSt w ra ba wv iv rs bad) (hs : rs.head? ≠ some s) :
    Calls Tryz.prog 17 #[.string s, .pointer (some ⟨iv, 0, none⟩), .pointer (some ⟨wv, 0, none⟩), .pointer (some ⟨ba, 0, none⟩)] w fun e w' =>
      e = .returned (.agg #[.int .u32 0, .int .i64 0]) ∧ PSt w' ra ba wv iv rs bad ∧ Fr (RB ra ba) w w' := by
  have h0 : PSt (w.alloc (.cells #[.int .u32 0, .int .i64 0] 25)) ra ba wv iv rs bad := h.frame (below_new w _).block
  have hi := is_any s h0
  rw [if_neg hs, decide_eq_false hs] at hi
  have ci := cell_of_one h0.is
  have hne := h.ne
  have k0 : (w.alloc (.cells #[.int .u32 0, .int .i64 0] 25)).heap[w.heap.size]? = some (.cells #[.int .u32 0, .int .i64 0] 25 (0, 0)) := heap_alloc_new _ _
  clear hs
  go_enter Tryz.func17, Tryz.ntmps17
  go_wp2_with (go_at_call 16; refine hi.mono ?_; rintro e w1 ⟨rfl, hp1, hf1⟩; obtain ⟨c0, c1, f0, f1⟩ := two_of (hf1.kept k0 hne))
  refine bodyPost_ret (v := .agg #[.int .u32 0, .int .i64 0]) (by simp [results, Tryz.results17, go_sem, c0, c1]) rfl ⟨rfl, ?_, ?_⟩
  · have k1 := hf1.kept k0 hne
    exact (hp1.other k1 (by decide) _ _).other (block_setCell k1 0 _) (by decide) _ _
  · exact ((Fr.below_then (below_new w _) hf1).new (Nat.le_refl _) _).new (Nat.le_refl _) _

/-- What is left behind prefix's last statements. -/
theorem pre_end1 {ra ba wv iv : Nat} {rs : List ByteArray} {bad : Bool} {w : World} (h : PSt w ra ba wv iv rs bad) {P : Nat} {cs : Array Value} {fr : Nat × Nat} (k : w.heap[P]? = some (.cells cs 25 fr)) (b : Bool) (u0 u1 : Value) (o : Obj) :
    PSt ((((w.setCell ⟨ba, 0, none⟩ (.bool b)).setCell ⟨P, 0, none⟩ u0).setCell ⟨P, 1, none⟩ u1).alloc o) ra ba wv iv rs b := by
  have hne : P ≠ ba := fun e => by
    subst e
    have := k.symm.trans h.flag
    simp at this
  have k1 : (w.setCell ⟨ba, 0, none⟩ (.bool b)).heap[P]? = some (.cells cs 25 fr) := (Below.heap_setCell _ _ _ _ hne).trans k
  exact (((h.setFlag b).other k1 (by decide) _ _).other (block_setCell k1 0 _) (by decide) _ _).frame (below_new _ _).block
theorem pre_end3 {w : World} {P ba : Nat} {v0 v1 : Value} (k : w.heap[P]? = some (.cells #[v0, v1] 25 (0, 0))) (hne : P ≠ ba) (b : Bool) (u0 u1 : Value) (o : Obj) :
    ((((w.setCell ⟨ba, 0, none⟩ (.bool b)).setCell ⟨P, 0, none⟩ u0).setCell ⟨P, 1, none⟩ u1).alloc o).cell? ⟨P, 0, none⟩ = some u0 ∧ ((((w.setCell ⟨ba, 0, none⟩ (.bool b)).setCell ⟨P, 0, none⟩ u0).setCell ⟨P, 1, none⟩ u1).alloc o).cell? ⟨P, 1, none⟩ = some u1 := by
  have k1 : (w.setCell ⟨ba, 0, none⟩ (.bool b)).heap[P]? = some (.cells #[v0, v1] 25 (0, 0)) := (Below.heap_setCell _ _ _ _ hne).trans k
  have k2 := kept_old (below_new _ o) (block_setCell (block_setCell k1 0 u0) 1 u1)
  exact ⟨by rw [cell_at k2]; rfl, by rw [cell_at k2]; rfl⟩
theorem pre_end2 {ra ba : Nat} {w w4 : World} {o : Obj} (h : Fr (RB ra ba) (w.alloc o) w4) (b : Bool) (u0 u1 : Value) (o' : Obj) :
    Fr (RB ra ba) w ((((w4.setCell ⟨ba, 0, none⟩ (.bool b)).setCell ⟨w.heap.size, 0, none⟩ u0).setCell ⟨w.heap.size, 1, none⟩ u1).alloc o') :=
  ((((Fr.below_then (below_new w _) h).trans (Fr.setCell _ _ (.inr rfl) _)).new (Nat.le_refl _) _).new (Nat.le_refl _) _).trans (Fr.alloc _ _ _)
theorem pre_yes {ra ba wv iv : Nat} {rs : List ByteArray} {bad : Bool} {w : World} (s : ByteArray) (h : PSt w ra ba wv iv rs bad) (hs : rs.head? = some s) (E : Env w) (hra : 13 ≤ ra) (hba : 13 ≤ ba) :
    Calls Tryz.prog 17 #[.string s, .pointer (some ⟨iv, 0, none⟩), .pointer (some ⟨wv, 0, none⟩), .pointer (some ⟨ba, 0, none⟩)] w fun e w' =>
      e = .returned (.agg #[.int .u32 (preV (rs.tail.headD ⟨#[]⟩)).1, .int .i64 (preV (rs.tail.headD ⟨#[]⟩)).2]) ∧ PSt w' ra ba wv iv rs.tail.tail (bad || !okPre (rs.tail.headD ⟨#[]⟩)) ∧ Fr (RB ra ba) w w' := by
  have h0 : PSt (w.alloc (.cells #[.int .u32 0, .int .i64 0] 25)) ra ba wv iv rs bad := h.frame (below_new w _).block
  have E0 : Env (w.alloc (.cells #[.int .u32 0, .int .i64 0] 25)) := E.next (below_new w _)
  have hS : ∀ k, RB ra ba k → 13 ≤ k := fun k hk => by rcases hk with e | e <;> omega
  have hi := is_any s h0
  rw [if_pos hs, decide_eq_true hs] at hi
  have ci := cell_of_one h0.is
  have hne := h.ne
  have k0 : (w.alloc (.cells #[.int .u32 0, .int .i64 0] 25)).heap[w.heap.size]? = some (.cells #[.int .u32 0, .int .i64 0] 25 (0, 0)) := heap_alloc_new _ _
  have hwd : ∀ w1, PSt w1 ra ba wv iv rs.tail bad → Calls Tryz.prog 13 #[.pointer (some ⟨ra, 0, none⟩), .pointer (some ⟨ba, 0, none⟩)] w1 fun e w' => e = .returned (.string (rs.tail.headD ⟨#[]⟩)) ∧ PSt w' ra ba wv iv rs.tail.tail (bad || rs.tail.isEmpty) ∧ Fr (RB ra ba) w1 w' := fun w1 h1 => word_any h1
  have hxs : (rs.tail.headD ⟨#[]⟩).size ≤ 16777216 := by
    cases rs with
    | nil => exact Nat.zero_le _
    | cons y ys => cases ys with
      | nil => exact Nat.zero_le _
      | cons x xs => exact h.small x (List.mem_cons_of_mem _ List.mem_cons_self)
  have hem : rs.tail.isEmpty = true → okPre (rs.tail.headD ⟨#[]⟩) = false := fun he => by
    have : rs.tail = [] := List.isEmpty_iff.1 he
    rw [this]
    decide +kernel
  generalize rs.tail.headD ⟨#[]⟩ = x at hwd hxs hem ⊢
  generalize rs.tail.tail = rs' at hwd ⊢
  generalize rs.tail.isEmpty = em at hwd hem
  have hpp := fun {w : World} (E : Env w) => parsePrefix_any x hxs E
  have hPB : w.heap.size ≠ ba := fun e => hne (.inr e)
  cases hx : pPrefix x with
  | none =>
    have ho : okPre x = false := by simp [okPre, hx]
    have hv : preV x = (0, 0) := by simp [preV, hx]
    rw [hx] at hpp
    rw [ho, hv]
    simp only [Bool.not_false, Bool.or_true]
    have hpp' : ∀ {w : World}, Env w → Calls Tryz.prog 18 #[.string x] w fun e w' => (∃ er : Int, e = .returned (.tuple #[.agg #[.int .u32 0, .int .i64 0], .int .i64 er]) ∧ (er == 0) = false ∧ ¬ er = 0) ∧ Below w.heap.size w w' := fun E => (hpp E).mono fun e w' ⟨⟨a, b, er, he, hor⟩, hb⟩ => ⟨by
      rcases hor with ⟨h1, _⟩ | ⟨_, h2, h3, h4⟩
      · cases h1
      · subst h3; subst h4; exact ⟨er, he, by simpa using h2, h2⟩, hb⟩
    clear ho hv hx hem hpp
    generalize (bad || em) = b1 at hwd
    cases b1 with
    | true =>
      go_enter Tryz.func17, Tryz.ntmps17
      go_wp2_with (first | (go_at_call 16; refine hi.mono ?_; rintro e w1 ⟨rfl, hp1, hf1⟩; have q1 := cell_of_one hp1.word) | (go_at_call 13; refine (hwd _ hp1).mono ?_; rintro e w2 ⟨rfl, hp2, hf2⟩) | (go_at_call 18; refine (hpp' ((E0.fr hf1 hS).fr hf2 hS)).mono ?_; rintro e w3 ⟨⟨er, rfl, her, her2⟩, hb3⟩; have hp3 := hp2.frame hb3.block; have hf3 := (hf1.trans hf2).trans (Fr.of_below hb3); have k3 := hf3.kept k0 hne; have lb := lt_of_block hp3.flag; have lp := lt_of_block k3; have q4 := cell_of_one hp3.flag; have g4 := free_of_one hp3.flag; obtain ⟨c0, c1, f0, f1⟩ := two_of k3))
      refine bodyPost_ret (v := .agg #[.int .u32 0, .int .i64 0]) ?_ rfl ⟨rfl, pre_end1 hp3 k3 _ _ _ _, pre_end2 hf3 _ _ _ _⟩
      simp [results, Tryz.results17, go_sem, pre_end3 k3 hPB]
    | false =>
      go_enter Tryz.func17, Tryz.ntmps17
      go_wp2_with (first | (go_at_call 16; refine hi.mono ?_; rintro e w1 ⟨rfl, hp1, hf1⟩; have q1 := cell_of_one hp1.word) | (go_at_call 13; refine (hwd _ hp1).mono ?_; rintro e w2 ⟨rfl, hp2, hf2⟩) | (go_at_call 18; refine (hpp' ((E0.fr hf1 hS).fr hf2 hS)).mono ?_; rintro e w3 ⟨⟨er, rfl, her, her2⟩, hb3⟩; have hp3 := hp2.frame hb3.block; have hf3 := (hf1.trans hf2).trans (Fr.of_below hb3); have k3 := hf3.kept k0 hne; have lb := lt_of_block hp3.flag; have lp := lt_of_block k3; have q4 := cell_of_one hp3.flag; have g4 := free_of_one hp3.flag; obtain ⟨c0, c1, f0, f1⟩ := two_of k3))
      refine bodyPost_ret (v := .agg #[.int .u32 0, .int .i64 0]) ?_ rfl ⟨rfl, pre_end1 hp3 k3 _ _ _ _, pre_end2 hf3 _ _ _ _⟩
      simp [results, Tryz.results17, go_sem, pre_end3 k3 hPB]
  | some ab =>
    obtain ⟨a, b⟩ := ab
    have hv : preV x = (a, b) := by simp [preV, hx]
    have ho : okPre x = !(b == 0) := by simp [okPre, hx]
    rw [hx] at hpp
    have hpp' : ∀ {w : World}, Env w → Calls Tryz.prog 18 #[.string x] w fun e w' => e = .returned (.tuple #[.agg #[.int .u32 a, .int .i64 b], .int .i64 0]) ∧ Below w.heap.size w w' := fun E => (hpp E).mono fun e w' ⟨⟨a', b', er, he, hor⟩, hb⟩ => ⟨(by
      rcases hor with ⟨h1, h2⟩ | ⟨h1, _⟩
      · cases h1; subst h2; exact he
      · cases h1), hb⟩
    rw [hv, ho]
    rw [ho] at hem
    clear hv ho hx hpp
    by_cases hz : b = 0
    · subst hz
      simp only [beq_self_eq_true, Bool.not_true, Bool.not_false, Bool.or_true]
      clear hem
      generalize (bad || em) = b1 at hwd
      cases b1 with
      | true =>
        go_enter Tryz.func17, Tryz.ntmps17
        go_wp2_with (first | (go_at_call 16; refine hi.mono ?_; rintro e w1 ⟨rfl, hp1, hf1⟩; have q1 := cell_of_one hp1.word) | (go_at_call 13; refine (hwd _ hp1).mono ?_; rintro e w2 ⟨rfl, hp2, hf2⟩) | (go_at_call 18; refine (hpp' ((E0.fr hf1 hS).fr hf2 hS)).mono ?_; rintro e w3 ⟨rfl, hb3⟩; have hp3 := hp2.frame hb3.block; have hf3 := (hf1.trans hf2).trans (Fr.of_below hb3); have k3 := hf3.kept k0 hne; have lb := lt_of_block hp3.flag; have lp := lt_of_block k3; have q4 := cell_of_one hp3.flag; have g4 := free_of_one hp3.flag; obtain ⟨c0, c1, f0, f1⟩ := two_of k3))
        refine bodyPost_ret (v := .agg #[.int .u32 a, .int .i64 0]) ?_ rfl ⟨rfl, pre_end1 hp3 k3 _ _ _ _, pre_end2 hf3 _ _ _ _⟩
        simp [results, Tryz.results17, go_sem, pre_end3 k3 hPB]
      | false =>
        go_enter Tryz.func17, Tryz.ntmps17
        go_wp2_with (first | (go_at_call 16; refine hi.mono ?_; rintro e w1 ⟨rfl, hp1, hf1⟩; have q1 := cell_of_one hp1.word) | (go_at_call 13; refine (hwd _ hp1).mono ?_; rintro e w2 ⟨rfl, hp2, hf2⟩) | (go_at_call 18; refine (hpp' ((E0.fr hf1 hS).fr hf2 hS)).mono ?_; rintro e w3 ⟨rfl, hb3⟩; have hp3 := hp2.frame hb3.block; have hf3 := (hf1.trans hf2).trans (Fr.of_below hb3); have k3 := hf3.kept k0 hne; have lb := lt_of_block hp3.flag; have lp := lt_of_block k3; have q4 := cell_of_one hp3.flag; have g4 := free_of_one hp3.flag; obtain ⟨c0, c1, f0, f1⟩ := two_of k3))
        refine bodyPost_ret (v := .agg #[.int .u32 a, .int .i64 0]) ?_ rfl ⟨rfl, pre_end1 hp3 k3 _ _ _ _, pre_end2 hf3 _ _ _ _⟩
        simp [results, Tryz.results17, go_sem, pre_end3 k3 hPB]
    · have hz' : (b == 0) = false := by simpa using hz
      rw [hz'] at hem ⊢
      have he0 : em = false := by
        cases em with
        | false => rfl
        | true => exact absurd (hem rfl) (by decide)
      subst he0
      simp only [Bool.not_false, Bool.not_true, Bool.or_false] at hwd ⊢
      clear hem hz
      cases bad with
      | true =>
        go_enter Tryz.func17, Tryz.ntmps17
        go_wp2_with (first | (go_at_call 16; refine hi.mono ?_; rintro e w1 ⟨rfl, hp1, hf1⟩; have q1 := cell_of_one hp1.word) | (go_at_call 13; refine (hwd _ hp1).mono ?_; rintro e w2 ⟨rfl, hp2, hf2⟩) | (go_at_call 18; refine (hpp' ((E0.fr hf1 hS).fr hf2 hS)).mono ?_; rintro e w3 ⟨rfl, hb3⟩; have hp3 := hp2.frame hb3.block; have hf3 := (hf1.trans hf2).trans (Fr.of_below hb3); have k3 := hf3.kept k0 hne; have lb := lt_of_block hp3.flag; have lp := lt_of_block k3; have q4 := cell_of_one hp3.flag; have g4 := free_of_one hp3.flag; obtain ⟨c0, c1, f0, f1⟩ := two_of k3))
        refine bodyPost_ret (v := .agg #[.int .u32 a, .int .i64 b]) ?_ rfl ⟨rfl, pre_end1 hp3 k3 _ _ _ _, pre_end2 hf3 _ _ _ _⟩
        simp [results, Tryz.results17, go_sem, pre_end3 k3 hPB]
      | false =>
        go_enter Tryz.func17, Tryz.ntmps17
        go_wp2_with (first | (go_at_call 16; refine hi.mono ?_; rintro e w1 ⟨rfl, hp1, hf1⟩; have q1 := cell_of_one hp1.word) | (go_at_call 13; refine (hwd _ hp1).mono ?_; rintro e w2 ⟨rfl, hp2, hf2⟩) | (go_at_call 18; refine (hpp' ((E0.fr hf1 hS).fr hf2 hS)).mono ?_; rintro e w3 ⟨rfl, hb3⟩; have hp3 := hp2.frame hb3.block; have hf3 := (hf1.trans hf2).trans (Fr.of_below hb3); have k3 := hf3.kept k0 hne; have lb := lt_of_block hp3.flag; have lp := lt_of_block k3; have q4 := cell_of_one hp3.flag; have g4 := free_of_one hp3.flag; obtain ⟨c0, c1, f0, f1⟩ := two_of k3))
        refine bodyPost_ret (v := .agg #[.int .u32 a, .int .i64 b]) ?_ rfl ⟨rfl, pre_end1 hp3 k3 _ _ _ _, pre_end2 hf3 _ _ _ _⟩
        simp [results, Tryz.results17, go_sem, pre_end3 k3 hPB]
end Go.Proofs.YtopccnoinngmbaaGreatDoor

/- ask.Parse's steps as plain functions of the words that are left, of whether something was wrong, and of the question so far. -/
namespace Go.Proofs.YtopccnoinngmbaaGreatDoor
open Go.RowKit
set_option linter.unusedVariables false

/-- A question. -/
structure Q where
  kind : Int
  dev : ByteArray
  ifc : ByteArray
  vrf : ByteArray
  en : Int
  permit : Bool
  proto : Int
  src : Int
  sbits : Int
  dst : Int
  dbits : Int
  slo : Int
  shi : Int
  dlo : Int
  dhi : Int
  hd : Hd
  hops : Int
  addr : Int
def Q.zero : Q := ⟨0, ⟨#[]⟩, ⟨#[]⟩, ⟨#[]⟩, 0, false, 0, 0, 0, 0, 0, 0, 0, 0, 0, ⟨0, 0, 0, 0, 0⟩, 0, 0⟩
def Q.cells (q : Q) : Array Value :=
  #[.int .u8 q.kind, .string q.dev, .string q.ifc, .string q.vrf, .int .u8 q.en, .bool q.permit, .int .i64 q.proto, .int .u32 q.src, .int .i64 q.sbits, .int .u32 q.dst, .int .i64 q.dbits,
    .int .u32 q.slo, .int .u32 q.shi, .int .u32 q.dlo, .int .u32 q.dhi, .int .u32 q.hd.src, .int .u32 q.hd.dst, .int .u8 q.hd.proto, .int .u16 q.hd.sport, .int .u16 q.hd.dport, .int .i64 q.hops, .int .u32 q.addr]

/-- The words that are left; whether something was wrong. -/
abbrev St := List ByteArray × Bool
def St.head (s : St) : ByteArray := s.1.headD ⟨#[]⟩
def St.word (s : St) : St := (s.1.tail, s.2 || s.1.isEmpty)
def St.name (s : St) : St := (s.1.tail, s.2 || !isName s.head.data.toList)
def St.bad (s : St) (b : Bool) : St := (s.1, s.2 || b)
def wFrom : ByteArray := ⟨#[102, 114, 111, 109]⟩
def wTo : ByteArray := ⟨#[116, 111]⟩
def wProto : ByteArray := ⟨#[112, 114, 111, 116, 111]⟩
def wSports : ByteArray := ⟨#[115, 112, 111, 114, 116, 115]⟩
def wDports : ByteArray := ⟨#[100, 112, 111, 114, 116, 115]⟩
def wVrf : ByteArray := ⟨#[118, 114, 102]⟩
def St.preV (s : St) (t : ByteArray) : Int × Int := if s.1.head? = some t then Go.Proofs.YtopccnoinngmbaaGreatDoor.preV (s.1.tail.headD ⟨#[]⟩) else (0, 0)
def St.pre (s : St) (t : ByteArray) : St := if s.1.head? = some t then (s.1.tail.tail, s.2 || !okPre (s.1.tail.headD ⟨#[]⟩)) else s
def St.skip (s : St) : St := (s.1.tail, s.2)

/-- name, name, heads. -/
def stA1 (s : St) : St := s.name.name
def qA1 (s : St) (q : Q) : Q := { q with dev := s.head, ifc := s.name.head, permit := true, proto := -1, src := 0, sbits := 0, dst := 0, dbits := 0, slo := 0, shi := 65535, dlo := 0, dhi := 65535 }
/-- the end. -/
def stA2 (s : St) : St := s.word.bad (pl endsL s.head == 0)
def qA2 (s : St) (q : Q) : Q := { q with en := pl endsL s.head }
/-- from, to. -/
def stA3 (s : St) : St := (s.pre wFrom).pre wTo
def qA3 (s : St) (q : Q) : Q := { q with src := (s.preV wFrom).1, sbits := (s.preV wFrom).2, dst := ((s.pre wFrom).preV wTo).1, dbits := ((s.pre wFrom).preV wTo).2 }
/-- Is the next word this one? It is taken then. -/
def St.isW (s : St) (t : ByteArray) : Bool := decide (s.1.head? = some t)
def St.after (s : St) (t : ByteArray) : St := if s.isW t then s.skip else s
/-- proto. -/
def stA4 (s : St) : St := if s.isW wProto then ((s.after wProto).word).bad (!(num (s.after wProto).head 255).isSome) else s
def qA4 (s : St) (q : Q) : Q := if s.isW wProto then { q with proto := (num (s.after wProto).head 255).getD 0 } else q
/-- sports. -/
def stA5 (s : St) : St := if s.isW wSports then ((s.after wSports).word).bad (!(pPorts (s.after wSports).head).isSome) else s
def qA5 (s : St) (q : Q) : Q := if s.isW wSports then { q with slo := (portV (s.after wSports).head).1, shi := (portV (s.after wSports).head).2 } else q
/-- dports. -/
def stA6 (s : St) : St := if s.isW wDports then ((s.after wDports).word).bad (!(pPorts (s.after wDports).head).isSome) else s
def qA6 (s : St) (q : Q) : Q := if s.isW wDports then { q with dlo := (portV (s.after wDports).head).1, dhi := (portV (s.after wDports).head).2 } else q

/-- The memory of ask.Parse: its result's cells, the closures' variables, the question. -/
structure QI (w : World) (qa : Nat) (s : St) (q : Q) (W : World) : Prop where
  bel : Below w.heap.size w W
  res : W.heap[w.heap.size]? = some (.cells Q.zero.cells 34 (0, 0))
  st : PSt W (w.heap.size + 1 + 1) (w.heap.size + 1 + 1 + 1) (w.heap.size + 1 + 1 + 1 + 1) (w.heap.size + 1 + 1 + 1 + 1 + 1) s.1 s.2
  q : W.heap[qa]? = some (.cells q.cells 34 (0, 0))
  far : w.heap.size + 1 + 1 + 1 + 1 + 1 < qa

theorem QI.env {w W : World} {qa : Nat} {s : St} {q : Q} (H : QI w qa s q W) (E : Env w) : Env W := E.next H.bel
theorem QI.below {w W W1 : World} {qa : Nat} {s : St} {q : Q} (H : QI w qa s q W) (hb : Below W.heap.size W W1) : QI w qa s q W1 :=
  ⟨below_seq H.bel hb, kept_old hb H.res, H.st.frame hb.block, kept_old hb H.q, H.far⟩
theorem QI.clos {w W W1 : World} {qa : Nat} {s s' : St} {q : Q} (H : QI w qa s q W) (hs : PSt W1 (w.heap.size + 1 + 1) (w.heap.size + 1 + 1 + 1) (w.heap.size + 1 + 1 + 1 + 1) (w.heap.size + 1 + 1 + 1 + 1 + 1) s'.1 s'.2)
    (hf : Fr (RB (w.heap.size + 1 + 1) (w.heap.size + 1 + 1 + 1)) W W1) : QI w qa s' q W1 := by
  have far := H.far
  refine ⟨hf.belowAt H.bel H.bel.size (fun k hk => by rcases hk with e | e <;> omega), hf.kept H.res (fun hk => by rcases hk with e | e <;> omega), hs, hf.kept H.q (fun hk => by rcases hk with e | e <;> omega), H.far⟩
theorem QI.set {w W : World} {qa : Nat} {s : St} {q q' : Q} (H : QI w qa s q W) (j : Nat) (u : Value) (e : q.cells.setIfInBounds j u = q'.cells) : QI w qa s q' (W.setCell ⟨qa, j, none⟩ u) := by
  have far := H.far
  exact ⟨H.bel.setCell (by show w.heap.size ≤ qa; omega) _, (Below.heap_setCell _ _ _ _ (by show w.heap.size ≠ qa; omega)).trans H.res, H.st.other H.q (by decide) j u, e ▸ block_setCell H.q j u, H.far⟩
theorem QI.flag {w W : World} {qa : Nat} {s : St} {q : Q} (H : QI w qa s q W) (b : Bool) : QI w qa (s.1, b) q (W.setCell ⟨w.heap.size + 1 + 1 + 1, 0, none⟩ (.bool b)) := by
  have far := H.far
  exact ⟨H.bel.setCell (by show w.heap.size ≤ w.heap.size + 1 + 1 + 1; omega) _, (Below.heap_setCell _ _ _ _ (by show w.heap.size ≠ w.heap.size + 1 + 1 + 1; omega)).trans H.res, H.st.setFlag b, (Below.heap_setCell _ _ _ _ (by show qa ≠ w.heap.size + 1 + 1 + 1; omega)).trans H.q, H.far⟩
theorem QI.or1 {w W : World} {qa : Nat} {s : St} {q : Q} (H : QI w qa s q W) (h : s.2 = true) (c : Bool) : QI w qa (s.bad c) q (W.setCell ⟨w.heap.size + 1 + 1 + 1, 0, none⟩ (.bool true)) := by
  have := H.flag true
  unfold St.bad
  rw [h, Bool.true_or]
  exact this
theorem QI.or0 {w W : World} {qa : Nat} {s : St} {q : Q} (H : QI w qa s q W) (h : ¬ s.2 = true) (c : Bool) : QI w qa (s.bad c) q (W.setCell ⟨w.heap.size + 1 + 1 + 1, 0, none⟩ (.bool c)) := by
  have := H.flag c
  unfold St.bad
  rw [Bool.eq_false_iff.2 h, Bool.false_or]
  exact this
theorem QI.alloc {w W : World} {qa : Nat} {s : St} {q : Q} (H : QI w qa s q W) (o : Obj) : QI w qa s q (W.alloc o) := H.below (below_new W o)
theorem QI.cells {w W : World} {qa : Nat} {s : St} {q : Q} (H : QI w qa s q W) (j : Nat) : W.cell? ⟨qa, j, none⟩ = q.cells[j]? := cell_at H.q j
theorem QI.free {w W : World} {qa : Nat} {s : St} {q : Q} (H : QI w qa s q W) (j : Nat) : W.frozen? ⟨qa, j, none⟩ = false := free_at H.q j
end Go.Proofs.YtopccnoinngmbaaGreatDoor
