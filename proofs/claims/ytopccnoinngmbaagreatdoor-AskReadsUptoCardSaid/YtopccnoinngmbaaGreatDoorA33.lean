/-
  Plain law: the heads' parts, all of them.
  The reference's Parse walked: the kind 7
-/
import Derived.Test.YtopccnoinngmbaaGreatDoorA32
import Derived.Test.YtopccnoinngmbaaGreatDoorA31

/- Plain law: the heads' parts, all of them. -/
namespace Go.Proofs.YtopccnoinngmbaaGreatDoor
open Go.RowKit
set_option maxRecDepth 100000
set_option linter.unusedVariables false
set_option linter.unusedSimpArgs false

/-- One stage ahead of others. -/
theorem law_step {t : ByteArray} {F N : List ByteArray → Bool → Q → Q → Prop} {S rest : Q → List ByteArray} {ok : ByteArray → Bool} {up : ByteArray → Q → Q} {C : Q → Bool} {tx : Q → ByteArray} {q0 q : Q}
    (hs : S q = if C q then [t, tx q] else [])
    (hrest : (rest q).head? ≠ some t)
    (hC0 : rParts (rest q) q0 = (q, true) → C q = false)
    (F0 : ∀ r b, r.head? ≠ some t → (F r b q0 q ↔ N r b q0 q))
    (F1 : ∀ b, ¬ F [t] b q0 q)
    (F2 : ∀ v r b, F (t :: v :: r) b q0 q ↔ N r (b || !(ok v)) (up v q0) q)
    (both : ∀ v, (ok v = true ∧ rPart q0 t v = (up v q0, true) ∧ (rParts (rest q) (up v q0) = (q, true) → C q = true ∧ tx q = v)) ∨
      (ok v = false ∧ ((rPart q0 t v).2 = false ∨ (rParts (rest q) (rPart q0 t v).1 = (q, true) → C q = false))))
    (hN : ∀ r b, N r b q0 q ↔ b = false ∧ rParts r q0 = (q, true) ∧ r = rest q)
    (hN2 : ∀ v r b, N r b (up v q0) q ↔ b = false ∧ rParts r (up v q0) = (q, true) ∧ r = rest q) (r : List ByteArray) (b : Bool) :
    F r b q0 q ↔ b = false ∧ rParts r q0 = (q, true) ∧ r = S q ++ rest q := by
  by_cases hw : ∃ r', r = t :: r'
  · obtain ⟨r', rfl⟩ := hw
    match r' with
    | [] =>
      refine ⟨fun h => absurd h (F1 b), ?_⟩
      rintro ⟨-, -, h⟩
      rw [hs] at h
      split at h
      · simp at h
      · rw [List.nil_append] at h
        rw [← h] at hrest
        exact absurd rfl hrest
    | v :: r'' =>
      rw [F2, hN2, rParts_cons]
      rcases both v with ⟨p1, p2, p3⟩ | ⟨p1, p2⟩
      · rw [p1, p2]
        simp only [Bool.not_true, Bool.or_false, if_true]
        constructor
        · rintro ⟨rfl, h2, rfl⟩
          obtain ⟨c1, c2⟩ := p3 h2
          exact ⟨rfl, h2, by rw [hs, c1, c2]; rfl⟩
        · rintro ⟨rfl, h2, h3⟩
          rw [hs] at h3
          split at h3
          · simp only [List.cons_append, List.nil_append, List.cons.injEq, true_and] at h3
            exact ⟨rfl, h2, h3.2⟩
          · rw [List.nil_append] at h3
            rw [← h3] at hrest
            exact absurd rfl hrest
      · rw [p1]
        constructor
        · rintro ⟨h, -⟩; simp at h
        · rintro ⟨-, h2, h3⟩
          exfalso
          split at h2
          · rename_i ht
            rw [hs] at h3
            split at h3
            · rename_i hc
              simp only [List.cons_append, List.nil_append, List.cons.injEq, true_and] at h3
              rcases p2 with p2 | p2
              · rw [p2] at ht; cases ht
              · rw [p2 (by rw [← h3.2]; exact h2)] at hc; cases hc
            · rw [List.nil_append] at h3
              rw [← h3] at hrest
              exact absurd rfl hrest
          · simp at h2
  · have hh : r.head? ≠ some t := by
      intro h; cases r with
      | nil => cases h
      | cons x l => simp at h; exact hw ⟨l, by rw [h]⟩
    rw [F0 r b hh, hN]
    constructor
    · rintro ⟨rfl, h2, rfl⟩
      exact ⟨rfl, h2, by rw [hs, hC0 h2]; rfl⟩
    · rintro ⟨rfl, h2, h3⟩
      rw [hs] at h3
      split at h3
      · subst h3; exact absurd rfl hh
      · subst h3; exact ⟨rfl, h2, rfl⟩

/-- sports and behind. -/
def F5 (r : List ByteArray) (b : Bool) (q0 q : Q) : Prop := F6 (stA5 (r, b)).1 (stA5 (r, b)).2 (qA5 (r, b) q0) q
theorem sD_if (q : Q) : sD q = if (q.slo != 0 || q.shi != 65535) then [wSports, wd (textS q.slo q.shi)] else [] := rfl
theorem lawD {q0 q : Q} (h0 : q0.slo = 0 ∧ q0.shi = 65535 ∧ q0.dlo = 0 ∧ q0.dhi = 65535) (r : List ByteArray) (b : Bool) : F5 r b q0 q ↔ b = false ∧ rParts r q0 = (q, true) ∧ r = sD q ++ sE q := by
  obtain ⟨h1, h2, h3, h4⟩ := h0
  refine law_step (N := F6) (ok := fun v => (pPorts v).isSome) (up := fun v q0 => { q0 with slo := (portV v).1, shi := (portV v).2 }) (tx := fun q => wd (textS q.slo q.shi)) (C := fun q => (q.slo != 0 || q.shi != 65535)) (t := wSports) (sD_if q) ?_ ?_ ?_ ?_ ?_ ?_ (fun r b => lawE h3 h4) (fun v r b => lawE h3 h4) r b
  · intro h; have := hE q _ h; revert this; decide
  · intro h; have := keepE h; rw [← this]; show (q0.slo != 0 || q0.shi != 65535) = false; rw [h1, h2]; rfl
  · intro r b hh
    unfold F5 stA5 qA5
    rw [if_neg (by rw [isW_ne hh]; decide), if_neg (by rw [isW_ne hh]; decide)]
  · intro b h
    have hi : St.isW ([wSports], b) wSports = true := isW_eq.2 ⟨_, rfl⟩
    unfold F5 stA5 qA5 St.after at h
    rw [if_pos hi, if_pos hi, if_pos hi] at h
    have := (lawE (r := []) (b := (b || true) || !(pPorts ⟨#[]⟩).isSome) (q := q) (q0 := { q0 with slo := (portV ⟨#[]⟩).1, shi := (portV ⟨#[]⟩).2 }) h3 h4).1 h
    simp at this
  · intro v r b
    have hi : St.isW (wSports :: v :: r, b) wSports = true := isW_eq.2 ⟨_, rfl⟩
    unfold F5 stA5 qA5 St.after
    rw [if_pos hi, if_pos hi, if_pos hi]
    simp only [St.skip, St.word, St.bad, St.head, List.tail_cons, List.headD_cons, List.isEmpty_cons, Bool.or_false]
  · intro v
    rw [rpt_sports]
    rcases ports_both v with ⟨p1, p2, p3, p4, p5⟩ | ⟨p1, p2⟩
    · refine .inl ⟨p1, by rw [p2, p3], ?_⟩
      intro h
      have := keepE h
      rw [← this]
      show ((portV v).1 != 0 || (portV v).2 != 65535) = true ∧ wd (textS (portV v).1 (portV v).2) = v
      rw [p3]
      exact ⟨by simpa using p5, wd_eq p4⟩
    · refine .inr ⟨p1, ?_⟩
      rcases p2 with p2 | ⟨-, p2⟩
      · exact .inl p2
      · refine .inr fun h => ?_
        have := keepE h
        rw [← this]
        show ((rPv v).1 != 0 || (rPv v).2 != 65535) = false
        rw [p2]; rfl

/-- proto and behind. -/
def F4 (r : List ByteArray) (b : Bool) (q0 q : Q) : Prop := F5 (stA4 (r, b)).1 (stA4 (r, b)).2 (qA4 (r, b) q0) q
theorem lawC {q0 q : Q} (h5 : q0.proto = -1) (h0 : q0.slo = 0 ∧ q0.shi = 65535 ∧ q0.dlo = 0 ∧ q0.dhi = 65535) (r : List ByteArray) (b : Bool) : F4 r b q0 q ↔ b = false ∧ rParts r q0 = (q, true) ∧ r = sC q ++ (sD q ++ sE q) := by
  refine law_step (N := F5) (rest := fun q => sD q ++ sE q) (ok := fun v => (num v 255).isSome) (up := fun v q0 => { q0 with proto := (num v 255).getD 0 }) (tx := fun q => wd (Lib.itoa q.proto)) (C := fun q => (q.proto != -1)) (t := wProto) rfl ?_ ?_ ?_ ?_ ?_ ?_ (fun r b => lawD h0 r b) (fun v r b => lawD (q0 := { q0 with proto := (num v 255).getD 0 }) h0 r b) r b
  · intro h; have := hD q _ h; revert this; decide
  · intro h; have := keepD h; rw [← this]; show (q0.proto != -1) = false; rw [h5]; rfl
  · intro r b hh
    unfold F4 stA4 qA4
    rw [if_neg (by rw [isW_ne hh]; decide), if_neg (by rw [isW_ne hh]; decide)]
  · intro b h
    have hi : St.isW ([wProto], b) wProto = true := isW_eq.2 ⟨_, rfl⟩
    unfold F4 stA4 qA4 St.after at h
    rw [if_pos hi, if_pos hi, if_pos hi] at h
    have := (lawD (b := (b || true) || !(num ⟨#[]⟩ 255).isSome) (q := q) (q0 := { q0 with proto := (num ⟨#[]⟩ 255).getD 0 }) h0 []).1 h
    simp at this
  · intro v r b
    have hi : St.isW (wProto :: v :: r, b) wProto = true := isW_eq.2 ⟨_, rfl⟩
    unfold F4 stA4 qA4 St.after
    rw [if_pos hi, if_pos hi, if_pos hi]
    simp only [St.skip, St.word, St.bad, St.head, List.tail_cons, List.headD_cons, List.isEmpty_cons, Bool.or_false]
  · intro v
    rw [rpt_proto]
    cases hn : num v 255 with
    | none => exact .inr ⟨rfl, .inl rfl⟩
    | some n =>
      obtain ⟨n0, n1⟩ := num_bounds hn
      refine .inl ⟨rfl, by simp [n0], ?_⟩
      intro h
      have := keepD h
      rw [← this]
      show (n != -1) = true ∧ wd (Lib.itoa n) = v
      exact ⟨by simp; omega, wd_eq (num_text (by decide) hn)⟩

theorem pre_both (v : ByteArray) :
    (okPre v = true ∧ (pPrefix v).isSome = true ∧ textP (preV v).1 (preV v).2 = v.data.toList ∧ ((preV v).2 != 0) = true) ∨
    (okPre v = false ∧ ((pPrefix v).isSome = false ∨ ((preV v).2 != 0) = false)) := by
  unfold okPre preV
  cases h : pPrefix v with
  | none => exact .inr ⟨rfl, .inl rfl⟩
  | some p =>
    obtain ⟨a, b⟩ := p
    obtain ⟨h1, h2, h3⟩ := pPrefix_text h
    by_cases hb : b = 0
    · subst hb; exact .inr ⟨rfl, .inr rfl⟩
    · refine .inl ⟨by simpa using hb, rfl, h1, by simpa using hb⟩
theorem pre_ne {r : List ByteArray} {b : Bool} {t : ByteArray} (h : r.head? ≠ some t) : St.pre (r, b) t = (r, b) ∧ St.preV (r, b) t = (0, 0) := by
  unfold St.pre St.preV
  exact ⟨if_neg h, if_neg h⟩
theorem pre_eq (r : List ByteArray) (b : Bool) (t : ByteArray) : St.pre (t :: r, b) t = (r.tail, b || !okPre (r.headD ⟨#[]⟩)) ∧ St.preV (t :: r, b) t = preV (r.headD ⟨#[]⟩) := by
  unfold St.pre St.preV
  exact ⟨if_pos rfl, if_pos rfl⟩
theorem okPre_empty : okPre ⟨#[]⟩ = false := by decide +kernel

/-- to and behind. -/
def FB (r : List ByteArray) (b : Bool) (q0 q : Q) : Prop := F4 (St.pre (r, b) wTo).1 (St.pre (r, b) wTo).2 { q0 with dst := (St.preV (r, b) wTo).1, dbits := (St.preV (r, b) wTo).2 } q
theorem lawB {q0 q : Q} (h6 : q0.dst = 0 ∧ q0.dbits = 0) (h5 : q0.proto = -1) (h0 : q0.slo = 0 ∧ q0.shi = 65535 ∧ q0.dlo = 0 ∧ q0.dhi = 65535) (r : List ByteArray) (b : Bool) : FB r b q0 q ↔ b = false ∧ rParts r q0 = (q, true) ∧ r = sB q ++ (sC q ++ (sD q ++ sE q)) := by
  refine law_step (N := F4) (rest := fun q => sC q ++ (sD q ++ sE q)) (ok := okPre) (up := fun v q0 => { q0 with dst := (preV v).1, dbits := (preV v).2 }) (tx := fun q => wd (textP q.dst q.dbits)) (C := fun q => (q.dbits != 0)) (t := wTo) rfl ?_ ?_ ?_ ?_ ?_ ?_ (fun r b => lawC h5 h0 r b) (fun v r b => lawC (q0 := { q0 with dst := (preV v).1, dbits := (preV v).2 }) h5 h0 r b) r b
  · intro h; have := hC q _ h; revert this; decide
  · intro h; have := keepC h; rw [← this]; show (q0.dbits != 0) = false; rw [h6.2]; rfl
  · intro r b hh
    unfold FB
    rw [(pre_ne hh).1, (pre_ne hh).2]
    have : ({ q0 with dst := 0, dbits := 0 } : Q) = q0 := by
      obtain ⟨e1, e2⟩ := h6
      cases q0; simp only at e1 e2; subst e1; subst e2; rfl
    rw [this]
  · intro b h
    unfold FB at h
    rw [(pre_eq [] b wTo).1] at h
    have := (lawC (b := b || !okPre ⟨#[]⟩) (q := q) (q0 := { q0 with dst := (St.preV ([wTo], b) wTo).1, dbits := (St.preV ([wTo], b) wTo).2 }) h5 h0 []).1 h
    rw [okPre_empty] at this
    simp at this
  · intro v r b
    unfold FB
    rw [(pre_eq _ b wTo).1, (pre_eq _ b wTo).2]
    simp only [List.tail_cons, List.headD_cons]
  · intro v
    rw [rpt_to]
    rcases pre_both v with ⟨p1, p2, p3, p4⟩ | ⟨p1, p2⟩
    · refine .inl ⟨p1, by rw [p2], ?_⟩
      intro h
      have := keepC h
      rw [← this]
      exact ⟨p4, wd_eq p3⟩
    · refine .inr ⟨p1, ?_⟩
      rcases p2 with p2 | p2
      · exact .inl p2
      · refine .inr fun h => ?_
        have := keepC h
        rw [← this]
        exact p2

/-- from and behind. -/
def FA (r : List ByteArray) (b : Bool) (q0 q : Q) : Prop := FB (St.pre (r, b) wFrom).1 (St.pre (r, b) wFrom).2 { q0 with src := (St.preV (r, b) wFrom).1, sbits := (St.preV (r, b) wFrom).2 } q
theorem lawA {q0 q : Q} (h7 : q0.src = 0 ∧ q0.sbits = 0) (h6 : q0.dst = 0 ∧ q0.dbits = 0) (h5 : q0.proto = -1) (h0 : q0.slo = 0 ∧ q0.shi = 65535 ∧ q0.dlo = 0 ∧ q0.dhi = 65535) (r : List ByteArray) (b : Bool) :
    FA r b q0 q ↔ b = false ∧ rParts r q0 = (q, true) ∧ r = sA q ++ (sB q ++ (sC q ++ (sD q ++ sE q))) := by
  refine law_step (N := FB) (rest := fun q => sB q ++ (sC q ++ (sD q ++ sE q))) (ok := okPre) (up := fun v q0 => { q0 with src := (preV v).1, sbits := (preV v).2 }) (tx := fun q => wd (textP q.src q.sbits)) (C := fun q => (q.sbits != 0)) (t := wFrom) rfl ?_ ?_ ?_ ?_ ?_ ?_ (fun r b => lawB h6 h5 h0 r b) (fun v r b => lawB (q0 := { q0 with src := (preV v).1, sbits := (preV v).2 }) h6 h5 h0 r b) r b
  · intro h; have := hB q _ h; revert this; decide
  · intro h; have := keepB h; rw [← this]; show (q0.sbits != 0) = false; rw [h7.2]; rfl
  · intro r b hh
    unfold FA
    rw [(pre_ne hh).1, (pre_ne hh).2]
    have : ({ q0 with src := 0, sbits := 0 } : Q) = q0 := by
      obtain ⟨e1, e2⟩ := h7
      cases q0; simp only at e1 e2; subst e1; subst e2; rfl
    rw [this]
  · intro b h
    unfold FA at h
    rw [(pre_eq [] b wFrom).1] at h
    have := (lawB (b := b || !okPre ⟨#[]⟩) (q := q) (q0 := { q0 with src := (St.preV ([wFrom], b) wFrom).1, sbits := (St.preV ([wFrom], b) wFrom).2 }) h6 h5 h0 []).1 h
    rw [okPre_empty] at this
    simp at this
  · intro v r b
    unfold FA
    rw [(pre_eq _ b wFrom).1, (pre_eq _ b wFrom).2]
    simp only [List.tail_cons, List.headD_cons]
  · intro v
    rw [rpt_from]
    rcases pre_both v with ⟨p1, p2, p3, p4⟩ | ⟨p1, p2⟩
    · refine .inl ⟨p1, by rw [p2], ?_⟩
      intro h
      have := keepB h
      rw [← this]
      exact ⟨p4, wd_eq p3⟩
    · refine .inr ⟨p1, ?_⟩
      rcases p2 with p2 | p2
      · exact .inl p2
      · refine .inr fun h => ?_
        have := keepB h
        rw [← this]
        exact p2
/-- The words of the heads. -/
def segs (q : Q) : List ByteArray := sA q ++ (sB q ++ (sC q ++ (sD q ++ sE q)))
/-- The heads are read to the end, and nothing was wrong. -/
theorem law_fin3 {q0 q : Q} (h7 : q0.src = 0 ∧ q0.sbits = 0) (h6 : q0.dst = 0 ∧ q0.dbits = 0) (h5 : q0.proto = -1) (h0 : q0.slo = 0 ∧ q0.shi = 65535 ∧ q0.dlo = 0 ∧ q0.dhi = 65535) (s : St) :
    fin3 s q0 = (([], false), q) ↔ s.2 = false ∧ rParts s.1 q0 = (q, true) ∧ s.1 = segs q := by
  refine Iff.trans ?_ (lawA h7 h6 h5 h0 s.1 s.2)
  unfold FA FB F4 F5 F6 fin3 stA3 qA3
  rw [Prod.mk.injEq]
end Go.Proofs.YtopccnoinngmbaaGreatDoor

/- The reference's Parse walked: the kind 7 -/
namespace Go.Proofs.YtopccnoinngmbaaGreatDoor
open Go.RowKit
set_option maxRecDepth 100000
set_option maxHeartbeats 16000000
set_option linter.unusedVariables false
set_option linter.unusedSimpArgs false

theorem Q.sm7 (a : Int) : ({ Q.zero with kind := 7, addr := a } : Q).Sm := ⟨Nat.zero_le _, Nat.zero_le _, Nat.zero_le _⟩
theorem Q.zok : Q.zero.Ok := by
  constructor <;> first | decide | (constructor <;> decide)
theorem Q.ok7 (a : Int) (h0 : 0 ≤ a) (h1 : a < 4294967296) : ({ Q.zero with kind := 7, addr := a } : Q).Ok :=
  { Q.zok with k0 := show (0 : Int) ≤ 7 by decide, k1 := show (7 : Int) < 256 by decide, a0 := h0, a1 := h1 }
theorem rparse_k7 {u1 u7 u8 u9 u10 u11 u12 u13 u14 u15 u16 u17 u18 u19 u20 u21 u22 u23 u24 u25 u26 u27 u28 u29 u30 u31 u32 u33 u34 u35 u36 u37 u38 u39 u40 u41 u42 u43 u44 u45 u46 u47 u48 u49 u50 u51 u52 u53 u54 u55 u56 u57 u58 u59 u60 u61 u62 u63 u64 u65 u66 u67 u68 u69 u70 u71 u72 u73 u74 u75 u76 u77 u78 u79 u80 u81 u82 u83 u84 u85 u86 u87 u88 u89 u90 u91 u92 u93 u94 u95 u96 u97 u98 u99 u100 u101 u102 u103 u104 u105 u106 u107 u108 u109 u110 u111 u112 u113 u114 u115 u116 u117 u118 u119 u120 u121 u122 u123 u124 u125 u126 u127 u128 u129 u130 u131 u132 u133 u134 u135 u136 u137 u138 u139 u140 u141 u142 u143 u144 u145 u146 u147 u148 u149 u150 u151 u152 u153 u154 u155 u156 u157 u158 u159 u160 u161 u162 u163 u164 u165 u166 u167 u168 u169 u170 u171 u172 u173 u174 u175 u176 u177 u178 u179 u180 u181 u182 u183 u184 u185 u186 u187 u188 u189 u190 u191 u192 u193 u194 u195 u196 u197 u198 u199 u200 u201 u202 u203 u204 u205 u206 u207 u208 u209 u210 u211 u212 u213 u214 u215 u216 u217 u218 u219 u220 u221 u222 u223 u224 u225 u226 u227 u228 u229 u230 u231 u232 u233 u234 : Value} {s : ByteArray} {w wx : World} {b o qa n c : Nat} {ws : List ByteArray} {q : Q} {out : Value} {K1 : Act → World → Prop} (HK : Hid (∀ a w', Code.wp Tryz.prog cREnd (bodyPost Tryz.prog Tryz.f5 (Rq w out)) a w' → K1 a w')) (H : RI w b o ws qa q wx)
    (hz : Hid (q = { Q.zero with kind := 7 })) (hn : ws.length = n) (hm : n ≤ 4194305) (hsm : Hid (∀ x ∈ ws, x.size ≤ 4194304)) (HO : Hid ((if n = 2 then outR (pAddr (ws.getD 1 ⟨#[]⟩)).isSome { Q.zero with kind := 7, addr := (pAddr (ws.getD 1 ⟨#[]⟩)).getD 0 } s else Value.tuple #[.agg Q.zero.cells, .int .i64 4]) = out)) :
    Code.wp Tryz.prog cRBlock (Exit.then K1 (bodyPost Tryz.prog Tryz.f5 (Rq w out))) ⟨#[.string s, u1, .pointer (some ⟨w.heap.size, 0, none⟩), .int .i64 0, .slice (some ⟨b, o, none⟩) n c, .pointer (some ⟨qa, 0, none⟩), .bool true, u7, u8, u9, u10, u11, u12, u13, u14, u15, u16, u17, u18, u19, u20, u21, u22, u23, u24, u25, u26, u27, u28, u29, u30, u31, u32, u33, u34, u35, u36, u37, u38, u39, u40, u41, u42, u43, u44, u45, u46, u47, u48, u49, u50, u51, u52, u53, u54, u55, u56, u57, u58, u59, u60, u61, u62, u63, u64, u65, u66, u67, u68, u69, u70, u71, u72, u73, u74, u75, u76, u77, u78, u79, u80, u81, u82, u83, u84, u85, u86, u87, u88, u89, u90, u91, u92, u93, u94, u95, u96, u97, u98, u99, u100, u101, u102, u103, u104, u105, u106, u107, u108, u109, u110, u111, u112, u113, u114, u115, u116, u117, u118, u119, u120, u121, u122, u123, u124, u125, u126, u127, u128, u129, u130, u131, u132, u133, u134, u135, u136, u137, u138, u139, u140, u141, u142, u143, u144, u145, u146, u147, u148, u149, u150, u151, u152, u153, u154, u155, u156, u157, u158, u159, u160, u161, u162, u163, u164, u165, u166, u167, u168, u169, u170, u171, u172, u173, u174, u175, u176, u177, u178, u179, u180, u181, u182, u183, u184, u185, u186, u187, u188, u189, u190, u191, u192, u193, u194, u195, u196, u197, u198, u199, u200, u201, u202, u203, u204, u205, u206, u207, u208, u209, u210, u211, u212, u213, u214, u215, u216, u217, u218, u219, u220, u221, u222, u223, u224, u225, u226, u227, u228, u229, u230, u231, u232, u233, u234], []⟩ wx := by
  unfold cRBlock
  conv => arg 2; whnf
  have HN := Lib.hid hn
  have c0 := H.k0 (κ := 7) (by rw [hz.out])
  clear hn
  by_cases h2 : n = 2
  · subst h2
    replace HO := Lib.hid ((if_pos rfl).symm.trans HO.out)
    obtain ⟨x1, hx1⟩ : ∃ x, ws[1]? = some x := ⟨ws[1]'(by have := HN.out; omega), by simp⟩
    have w1 := H.word hx1
    have z1 := hsm.out x1 (List.mem_of_getElem? hx1)
    have X1 := Lib.hid hx1
    clear hx1
    rw [show ws.getD 1 ⟨#[]⟩ = x1 by simp [List.getD_eq_getElem?_getD, X1.out]] at HO
    have c21 := H.c21
    have f21 := H.free 21
    have hlt := lt_of_block H.q
    cases ha : pAddr x1 with
    | none =>
      rw [ha] at HO
      have HA := Lib.hid ha
      clear ha
      go_wp2_with (go_at_call 34; refine (parse01_none HA.out (by omega) _).mono ?_; rintro e w1 ⟨rfl, hb1⟩; have H1 := H.below hb1; have c21 := H1.c21; have f21 := H1.free 21)
      have H2 := H1.set (q' := { q with addr := 0 }) 21 (.int .u32 0) rfl
      rw [hz.out] at H2
      exact HK.out _ _ (rparse_end H2 (fun h => by cases h) (Q.sm7 _) HO)
    | some a =>
      rw [ha] at HO
      obtain ⟨la, ua⟩ := pAddr_bounds ha
      have HA := Lib.hid ha
      clear ha
      go_wp2_with (go_at_call 34; refine (parse01_some HA.out (by omega) _).mono ?_; rintro e w1 ⟨rfl, hb1⟩; have H1 := H.below hb1; have c21 := H1.c21; have f21 := H1.free 21)
      have H2 := H1.set (q' := { q with addr := a }) 21 (.int .u32 a) rfl
      rw [hz.out] at H2
      exact HK.out _ _ (rparse_end H2 (fun _ => Q.ok7 a la ua) (Q.sm7 _) HO)
  · replace HO := Lib.hid ((if_neg h2).symm.trans HO.out)
    have h3 : ((n : Int) != 2) = true := by simp; omega
    clear h2
    go_wp2_with ((with_reducible refine wpList_is (o := ⟨none, .store 41 (.tmp 2) (.tmp 191), _, _, _, _⟩) ?_); refine wpList_store_row (P := Tryz.prog) rfl 41 (.tmp 2) (.tmp 191) rfl w.heap.size Q.zero.cells rfl rfl 41 Q.zero.cells H.res (by kernel_rfl) rfl (Q.one Q.zero) ?_; dsimp only [Act.put])
    have hr := fun (tm : Array Value) h2 h3 => results5_row (tmps := tm) (e := 4) h2 h3 (H.res_row Q.zero.cells) rfl
    refine bodyPost_ret (hr _ rfl rfl) rfl ?_
    exact ⟨congrArg _ HO.out, H.res_bel _⟩
end Go.Proofs.YtopccnoinngmbaaGreatDoor
