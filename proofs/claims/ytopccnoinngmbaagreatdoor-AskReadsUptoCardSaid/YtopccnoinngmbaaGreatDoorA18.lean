/-
  What ask.Parse's kinds 4 to 7 need.
  ask.Parse walked: no kind
  ask.Parse walked: the kind 1
  ask.Parse walked: the kind 2
-/
import Derived.Test.YtopccnoinngmbaaGreatDoorA17

/- What ask.Parse's kinds 4 to 7 need. -/
namespace Go.Proofs.YtopccnoinngmbaaGreatDoor
open Go.RowKit
set_option maxRecDepth 100000
set_option linter.unusedVariables false
set_option linter.unusedSimpArgs false

/-- The words with blanks between. -/
def joinB (ws : List ByteArray) : ByteArray := ⟨(joinL 32 (ws.map (·.data.toList))).toArray⟩
theorem join_any {A : Option Addr} {c : Nat} {ws : List ByteArray} {n : Nat} {W : World} (hn : ws.length = n) (h : SS W A ws) (hc : n ≤ c) (hc2 : c ≤ 1099511627776) (hj : (joinB ws).size ≤ 16777216) :
    Calls Tryz.prog 24 #[.slice A n c, .string ⟨#[32]⟩] W fun e w' => e = .returned (.string (joinB ws)) ∧ Below W.heap.size W w' := by
  subst hn
  rcases h with rfl | ⟨b, o, cs, fr, rfl, hb, hcs⟩
  · exact (Tryz.strings_Join_none A c ⟨#[32]⟩ W).mono fun e w' ⟨he, hw⟩ => ⟨he, hw ▸ Below.refl _ _⟩
  · have hj2 : (joinL 32 (ws.map (·.data.toList))).length ≤ 16777216 := by
      have : (joinB ws).size = (joinL 32 (ws.map (·.data.toList))).length := by unfold joinB; show Array.size _ = _; simp
      omega
    have he : Lib.join (ws.map (·.data.toList)) (⟨#[32]⟩ : ByteArray).data.toList = joinL 32 (ws.map (·.data.toList)) := join_eq 32 _
    have := Tryz.strings_Join b o c ws ⟨#[32]⟩ W (fun j x hx => by simp [World.cell?, hb, hcs j x hx]) (lt_of_block hb) (by omega) hc (by rw [he]; omega)
    rw [he] at this
    exact this
theorem headParse_any (s : ByteArray) (hs : s.size ≤ 16777216) {w : World} (E : Env w) :
    Calls Tryz.prog 23 #[.string s] w fun e w' => HeadPost (pHead s) e ∧ Below w.heap.size w w' := by
  by_cases h3 : (spl 32 s).length = 3
  · obtain ⟨x, y, z, h⟩ : ∃ x y z, spl 32 s = [x, y, z] := by
      match hl : spl 32 s, h3 with
      | [x, y, z], _ => exact ⟨x, y, z, rfl⟩
    exact headParse_three h hs E
  · have hp : pHead s = none := by
      unfold pHead
      split
      · rename_i x y z h; rw [h] at h3; exact absurd rfl h3
      · rfl
    rw [hp]
    refine headParse_other rfl rfl h3 ?_ hs E
    rw [spl_length]
    have := Lib.countB_le ⟨#[32]⟩ (Nat.le_refl 1) s.size s (Nat.le_refl _)
    omega
def headV (o : Option Hd) : Hd := o.getD ⟨0, 0, 0, 0, 0⟩
def errV {α : Type} (o : Option α) : Int := match o with
  | some _ => 0
  | none => 4
theorem headParse_as {s : ByteArray} {h : Hd} {c : Int} (h1 : headV (pHead s) = h) (h2 : errV (pHead s) = c) (hs : s.size ≤ 16777216) {w : World} (E : Env w) :
    Calls Tryz.prog 23 #[.string s] w fun e w' => e = .returned (.tuple #[.agg #[.int .u32 h.src, .int .u32 h.dst, .int .u8 h.proto, .int .u16 h.sport, .int .u16 h.dport], .int .i64 c]) ∧ Below w.heap.size w w' := by
  subst h1; subst h2
  refine (headParse_any s hs E).mono fun e w' ⟨he, hb⟩ => ⟨?_, hb⟩
  cases hp : pHead s <;> rw [hp] at he <;> exact he
theorem addr_as {s : ByteArray} {a c : Int} (h1 : (pAddr s).getD 0 = a) (h2 : errV (pAddr s) = c) (hs : s.size ≤ 16777216) {w : World} (E : Env w) :
    Calls Tryz.prog 25 #[.string s] w fun e w' => e = .returned (.tuple #[.int .u32 a, .int .i64 c]) ∧ Below w.heap.size w w' := by
  subst h1; subst h2
  refine (addrParse_any s hs E).mono fun e w' ⟨he, hb⟩ => ⟨?_, hb⟩
  cases hp : pAddr s <;> rw [hp] at he <;> exact he

section
variable {w W : World} {qa : Nat} {s : St} {q : Q}
theorem QI.emptied (H : QI w qa s q W) : QI w qa ([], s.2) q (W.setCell ⟨w.heap.size + 1 + 1, 0, none⟩ (.slice none 0 0)) := by
  have far := H.far
  exact ⟨H.bel.setCell (by show w.heap.size ≤ w.heap.size + 1 + 1; omega) _, (Below.heap_setCell _ _ _ _ (by show w.heap.size ≠ w.heap.size + 1 + 1; omega)).trans H.res,
    H.st.setRest (rs' := []) (Nat.zero_le _) (Nat.zero_le _) (.inl rfl) (fun x hx => by simp at hx), (Below.heap_setCell _ _ _ _ (by show qa ≠ w.heap.size + 1 + 1; omega)).trans H.q, H.far⟩
theorem QI.drew (H : QI w qa s q W) : QI w qa s q W.drew := H.below ⟨rfl, rfl, rfl, Nat.le_refl _, fun _ _ => rfl⟩
theorem QI.setDev (H : QI w qa s q W) (x : ByteArray) : QI w qa s { q with dev := x } (W.setCell ⟨qa, 1, none⟩ (.string x)) := H.set 1 _ rfl
theorem QI.setVrf (H : QI w qa s q W) (x : ByteArray) : QI w qa s { q with vrf := x } (W.setCell ⟨qa, 3, none⟩ (.string x)) := H.set 3 _ rfl
theorem QI.setHops (H : QI w qa s q W) (n : Int) : QI w qa s { q with hops := n } (W.setCell ⟨qa, 20, none⟩ (.int .i64 n)) := H.set 20 _ rfl
theorem QI.setAddr (H : QI w qa s q W) (n : Int) : QI w qa s { q with addr := n } (W.setCell ⟨qa, 21, none⟩ (.int .u32 n)) := H.set 21 _ rfl
theorem QI.setHd (H : QI w qa s q W) (a b c d e : Int) : QI w qa s { q with hd := ⟨a, b, c, d, e⟩ }
    (((((W.setCell ⟨qa, 15, none⟩ (.int .u32 a)).setCell ⟨qa, 16, none⟩ (.int .u32 b)).setCell ⟨qa, 17, none⟩ (.int .u8 c)).setCell ⟨qa, 18, none⟩ (.int .u16 d)).setCell ⟨qa, 19, none⟩ (.int .u16 e)) :=
  ((((H.set (q' := { q with hd := ⟨a, q.hd.dst, q.hd.proto, q.hd.sport, q.hd.dport⟩ }) 15 _ rfl).set (q' := { q with hd := ⟨a, b, q.hd.proto, q.hd.sport, q.hd.dport⟩ }) 16 _ rfl).set
    (q' := { q with hd := ⟨a, b, c, q.hd.sport, q.hd.dport⟩ }) 17 _ rfl).set (q' := { q with hd := ⟨a, b, c, d, q.hd.dport⟩ }) 18 _ rfl).set (q' := { q with hd := ⟨a, b, c, d, e⟩ }) 19 _ rfl
end
/-- What the kind 4 makes behind the two names: s: the words from the hops on. -/
def stH (s : St) : St := ([], s.word.2 || !(num s.head 255).isSome || (pHead (joinB s.word.1)).isNone)
def qH (s : St) (q : Q) : Q := { q with hops := (num s.head 255).getD 0, hd := headV (pHead (joinB s.word.1)) }
theorem stH_of {s : St} {ok : Bool} {c : Int} (h1 : (num s.head 255).isSome = ok) (h2 : errV (pHead (joinB s.word.1)) = c) : stH s = ([], (s.word.2 || !ok) || (c != 0)) := by
  subst h1; subst h2
  unfold stH
  cases pHead (joinB s.word.1) <;> rfl
theorem qH_of {s : St} {q : Q} {n : Int} {h : Hd} (h1 : (num s.head 255).getD 0 = n) (h2 : headV (pHead (joinB s.word.1)) = h) : qH s q = { q with hops := n, hd := ⟨h.src, h.dst, h.proto, h.sport, h.dport⟩ } := by
  subst h1; subst h2; rfl
/-- The kinds 5 and 6. -/
def stV (s : St) : St := if s.isW wVrf then (s.after wVrf).name else s
def qV (s : St) (q : Q) : Q := if s.isW wVrf then { q with vrf := (s.after wVrf).head } else q
theorem stV_no {s : St} (h : s.isW wVrf = false) : stV s = s := by unfold stV; rw [h]; rfl
theorem qV_no {s : St} {q : Q} (h : s.isW wVrf = false) : qV s q = q := by unfold qV; rw [h]; rfl
theorem stV_yes {s : St} (h : s.isW wVrf = true) : stV s = (s.after wVrf).name := by unfold stV; rw [h]; rfl
theorem qV_yes {s : St} {q : Q} (h : s.isW wVrf = true) : qV s q = { q with vrf := (s.after wVrf).head } := by unfold qV; rw [h]; rfl
/-- The kind 7. -/
def stO (s : St) : St := s.word.bad (pAddr s.head).isNone
def qO (s : St) (q : Q) : Q := { q with addr := (pAddr s.head).getD 0 }
theorem stO_of {s : St} {c : Int} (h : errV (pAddr s.head) = c) : stO s = s.word.bad (c != 0) := by
  subst h; unfold stO
  cases pAddr s.head <;> rfl
end Go.Proofs.YtopccnoinngmbaaGreatDoor

/- ask.Parse walked: no kind -/
namespace Go.Proofs.YtopccnoinngmbaaGreatDoor
open Go.RowKit
set_option maxRecDepth 100000
set_option maxHeartbeats 16000000
set_option linter.unusedVariables false
set_option linter.unusedSimpArgs false

theorem parse_kind0 {u1 u11 u12 u13 u14 u15 u16 u17 u18 u19 u20 u21 u22 u23 u24 u25 u26 u27 u28 u29 u30 u31 u32 u33 u34 u36 u37 u38 u39 u40 u41 u42 u43 u44 u45 u46 u47 u48 u49 u50 u51 u52 u53 u54 u55 u56 u57 u58 u59 u60 u61 u62 u63 u64 u65 u66 u67 u68 u69 u70 u71 u72 u73 u74 u75 u76 u77 u78 u79 u80 u81 u82 u83 u84 u85 u86 u87 u88 u89 u90 u91 u92 u93 u94 u95 u96 u97 u98 u99 u100 u101 u102 u103 u104 u105 u106 u107 u108 u109 u110 u111 u112 u113 u114 u115 u116 u117 u118 u119 u120 u121 u122 u123 u124 u125 u126 u127 u128 u129 u130 u131 u132 u133 u134 u135 u136 u137 u138 u139 u140 u141 u142 u143 u144 u145 u146 u147 u148 u149 u150 u151 u152 u153 u154 u155 u156 u157 u158 u159 u160 u161 u162 u163 u164 u165 u166 u167 u168 u169 u170 u171 u172 u173 u174 u175 u176 u177 u178 u179 u180 u181 u182 u183 u184 : Value} {s : ByteArray} {w wx : World} {qa : Nat} {s0 : St} {out : Value} {K1 : Act → World → Prop} (HK : Hid (∀ a w', Code.wp Tryz.prog cEnd (bodyPost Tryz.prog Tryz.f4 (Rq w out)) a w' → K1 a w')) (E : Env w) (H3 : QI w qa s0 { Q.zero with kind := 0 } wx)
    (HO : Hid (outQ (s0.bad true) { Q.zero with kind := 0 } = out)) :
    Code.wp Tryz.prog cBlock (Exit.then K1 (bodyPost Tryz.prog Tryz.f4 (Rq w out))) ⟨#[.string s, u1, .pointer (some ⟨w.heap.size, 0, none⟩), .int .i64 0, .pointer (some ⟨w.heap.size + 1 + 1, 0, none⟩), .pointer (some ⟨w.heap.size + 1 + 1 + 1, 0, none⟩), .pointer (some ⟨w.heap.size + 1 + 1 + 1 + 1, 0, none⟩), .func (.func 14) #[] #[.pointer (some ⟨w.heap.size + 1 + 1 + 1 + 1, 0, none⟩), .pointer (some ⟨w.heap.size + 1 + 1 + 1, 0, none⟩)], .pointer (some ⟨w.heap.size + 1 + 1 + 1 + 1 + 1, 0, none⟩), .func (.func 17) #[] #[.pointer (some ⟨w.heap.size + 1 + 1 + 1 + 1 + 1, 0, none⟩), .pointer (some ⟨w.heap.size + 1 + 1 + 1 + 1, 0, none⟩), .pointer (some ⟨w.heap.size + 1 + 1 + 1, 0, none⟩)], .pointer (some ⟨qa, 0, none⟩), u11, u12, u13, u14, u15, u16, u17, u18, u19, u20, u21, u22, u23, u24, u25, u26, u27, u28, u29, u30, u31, u32, u33, u34, .int .u8 0, u36, u37, u38, u39, u40, u41, u42, u43, u44, u45, u46, u47, u48, u49, u50, u51, u52, u53, u54, u55, u56, u57, u58, u59, u60, u61, u62, u63, u64, u65, u66, u67, u68, u69, u70, u71, u72, u73, u74, u75, u76, u77, u78, u79, u80, u81, u82, u83, u84, u85, u86, u87, u88, u89, u90, u91, u92, u93, u94, u95, u96, u97, u98, u99, u100, u101, u102, u103, u104, u105, u106, u107, u108, u109, u110, u111, u112, u113, u114, u115, u116, u117, u118, u119, u120, u121, u122, u123, u124, u125, u126, u127, u128, u129, u130, u131, u132, u133, u134, u135, u136, u137, u138, u139, u140, u141, u142, u143, u144, u145, u146, u147, u148, u149, u150, u151, u152, u153, u154, u155, u156, u157, u158, u159, u160, u161, u162, u163, u164, u165, u166, u167, u168, u169, u170, u171, u172, u173, u174, u175, u176, u177, u178, u179, u180, u181, u182, u183, u184], []⟩ wx := by
  unfold cBlock
  conv => arg 2; whnf
  have cB := H3.cellB
  have fB := H3.freeB
  go_wp2
  exact HK.out _ _ (parse_end E (s6 := s0.bad true) (by have := H3.flag true; unfold St.bad; rw [Bool.or_true]; exact this) HO)
theorem parse_kind8 {u1 u11 u12 u13 u14 u15 u16 u17 u18 u19 u20 u21 u22 u23 u24 u25 u26 u27 u28 u29 u30 u31 u32 u33 u34 u36 u37 u38 u39 u40 u41 u42 u43 u44 u45 u46 u47 u48 u49 u50 u51 u52 u53 u54 u55 u56 u57 u58 u59 u60 u61 u62 u63 u64 u65 u66 u67 u68 u69 u70 u71 u72 u73 u74 u75 u76 u77 u78 u79 u80 u81 u82 u83 u84 u85 u86 u87 u88 u89 u90 u91 u92 u93 u94 u95 u96 u97 u98 u99 u100 u101 u102 u103 u104 u105 u106 u107 u108 u109 u110 u111 u112 u113 u114 u115 u116 u117 u118 u119 u120 u121 u122 u123 u124 u125 u126 u127 u128 u129 u130 u131 u132 u133 u134 u135 u136 u137 u138 u139 u140 u141 u142 u143 u144 u145 u146 u147 u148 u149 u150 u151 u152 u153 u154 u155 u156 u157 u158 u159 u160 u161 u162 u163 u164 u165 u166 u167 u168 u169 u170 u171 u172 u173 u174 u175 u176 u177 u178 u179 u180 u181 u182 u183 u184 : Value} {s : ByteArray} {w wx : World} {qa : Nat} {s0 : St} {out : Value} {K1 : Act → World → Prop} (HK : Hid (∀ a w', Code.wp Tryz.prog cEnd (bodyPost Tryz.prog Tryz.f4 (Rq w out)) a w' → K1 a w')) (E : Env w) (H3 : QI w qa s0 { Q.zero with kind := 8 } wx)
    (HO : Hid (outQ (s0.bad true) { Q.zero with kind := 8 } = out)) :
    Code.wp Tryz.prog cBlock (Exit.then K1 (bodyPost Tryz.prog Tryz.f4 (Rq w out))) ⟨#[.string s, u1, .pointer (some ⟨w.heap.size, 0, none⟩), .int .i64 0, .pointer (some ⟨w.heap.size + 1 + 1, 0, none⟩), .pointer (some ⟨w.heap.size + 1 + 1 + 1, 0, none⟩), .pointer (some ⟨w.heap.size + 1 + 1 + 1 + 1, 0, none⟩), .func (.func 14) #[] #[.pointer (some ⟨w.heap.size + 1 + 1 + 1 + 1, 0, none⟩), .pointer (some ⟨w.heap.size + 1 + 1 + 1, 0, none⟩)], .pointer (some ⟨w.heap.size + 1 + 1 + 1 + 1 + 1, 0, none⟩), .func (.func 17) #[] #[.pointer (some ⟨w.heap.size + 1 + 1 + 1 + 1 + 1, 0, none⟩), .pointer (some ⟨w.heap.size + 1 + 1 + 1 + 1, 0, none⟩), .pointer (some ⟨w.heap.size + 1 + 1 + 1, 0, none⟩)], .pointer (some ⟨qa, 0, none⟩), u11, u12, u13, u14, u15, u16, u17, u18, u19, u20, u21, u22, u23, u24, u25, u26, u27, u28, u29, u30, u31, u32, u33, u34, .int .u8 8, u36, u37, u38, u39, u40, u41, u42, u43, u44, u45, u46, u47, u48, u49, u50, u51, u52, u53, u54, u55, u56, u57, u58, u59, u60, u61, u62, u63, u64, u65, u66, u67, u68, u69, u70, u71, u72, u73, u74, u75, u76, u77, u78, u79, u80, u81, u82, u83, u84, u85, u86, u87, u88, u89, u90, u91, u92, u93, u94, u95, u96, u97, u98, u99, u100, u101, u102, u103, u104, u105, u106, u107, u108, u109, u110, u111, u112, u113, u114, u115, u116, u117, u118, u119, u120, u121, u122, u123, u124, u125, u126, u127, u128, u129, u130, u131, u132, u133, u134, u135, u136, u137, u138, u139, u140, u141, u142, u143, u144, u145, u146, u147, u148, u149, u150, u151, u152, u153, u154, u155, u156, u157, u158, u159, u160, u161, u162, u163, u164, u165, u166, u167, u168, u169, u170, u171, u172, u173, u174, u175, u176, u177, u178, u179, u180, u181, u182, u183, u184], []⟩ wx := by
  unfold cBlock
  conv => arg 2; whnf
  have cB := H3.cellB
  have fB := H3.freeB
  go_wp2
  exact HK.out _ _ (parse_end E (s6 := s0.bad true) (by have := H3.flag true; unfold St.bad; rw [Bool.or_true]; exact this) HO)
end Go.Proofs.YtopccnoinngmbaaGreatDoor

/- ask.Parse walked: the kind 1 -/
namespace Go.Proofs.YtopccnoinngmbaaGreatDoor
open Go.RowKit
set_option maxRecDepth 100000
set_option maxHeartbeats 16000000
set_option linter.unusedVariables false
set_option linter.unusedSimpArgs false

theorem parse_kind1 {u1 u11 u12 u13 u14 u15 u16 u17 u18 u19 u20 u21 u22 u23 u24 u25 u26 u27 u28 u29 u30 u31 u32 u33 u34 u36 u37 u38 u39 u40 u41 u42 u43 u44 u45 u46 u47 u48 u49 u50 u51 u52 u53 u54 u55 u56 u57 u58 u59 u60 u61 u62 u63 u64 u65 u66 u67 u68 u69 u70 u71 u72 u73 u74 u75 u76 u77 u78 u79 u80 u81 u82 u83 u84 u85 u86 u87 u88 u89 u90 u91 u92 u93 u94 u95 u96 u97 u98 u99 u100 u101 u102 u103 u104 u105 u106 u107 u108 u109 u110 u111 u112 u113 u114 u115 u116 u117 u118 u119 u120 u121 u122 u123 u124 u125 u126 u127 u128 u129 u130 u131 u132 u133 u134 u135 u136 u137 u138 u139 u140 u141 u142 u143 u144 u145 u146 u147 u148 u149 u150 u151 u152 u153 u154 u155 u156 u157 u158 u159 u160 u161 u162 u163 u164 u165 u166 u167 u168 u169 u170 u171 u172 u173 u174 u175 u176 u177 u178 u179 u180 u181 u182 u183 u184 : Value} {s : ByteArray} {w wx : World} {qa : Nat} {s0 : St} {out : Value} {K1 : Act → World → Prop} (HK : Hid (∀ a w', Code.wp Tryz.prog cEnd (bodyPost Tryz.prog Tryz.f4 (Rq w out)) a w' → K1 a w')) (E : Env w) (H3 : QI w qa s0 { Q.zero with kind := 1 } wx)
    (HO : Hid (run3 (stA2 (stA1 s0)) (qA2 (stA1 s0) (qA1 s0 { Q.zero with kind := 1 })) = out)) :
    Code.wp Tryz.prog cBlock (Exit.then K1 (bodyPost Tryz.prog Tryz.f4 (Rq w out))) ⟨#[.string s, u1, .pointer (some ⟨w.heap.size, 0, none⟩), .int .i64 0, .pointer (some ⟨w.heap.size + 1 + 1, 0, none⟩), .pointer (some ⟨w.heap.size + 1 + 1 + 1, 0, none⟩), .pointer (some ⟨w.heap.size + 1 + 1 + 1 + 1, 0, none⟩), .func (.func 14) #[] #[.pointer (some ⟨w.heap.size + 1 + 1 + 1 + 1, 0, none⟩), .pointer (some ⟨w.heap.size + 1 + 1 + 1, 0, none⟩)], .pointer (some ⟨w.heap.size + 1 + 1 + 1 + 1 + 1, 0, none⟩), .func (.func 17) #[] #[.pointer (some ⟨w.heap.size + 1 + 1 + 1 + 1 + 1, 0, none⟩), .pointer (some ⟨w.heap.size + 1 + 1 + 1 + 1, 0, none⟩), .pointer (some ⟨w.heap.size + 1 + 1 + 1, 0, none⟩)], .pointer (some ⟨qa, 0, none⟩), u11, u12, u13, u14, u15, u16, u17, u18, u19, u20, u21, u22, u23, u24, u25, u26, u27, u28, u29, u30, u31, u32, u33, u34, .int .u8 1, u36, u37, u38, u39, u40, u41, u42, u43, u44, u45, u46, u47, u48, u49, u50, u51, u52, u53, u54, u55, u56, u57, u58, u59, u60, u61, u62, u63, u64, u65, u66, u67, u68, u69, u70, u71, u72, u73, u74, u75, u76, u77, u78, u79, u80, u81, u82, u83, u84, u85, u86, u87, u88, u89, u90, u91, u92, u93, u94, u95, u96, u97, u98, u99, u100, u101, u102, u103, u104, u105, u106, u107, u108, u109, u110, u111, u112, u113, u114, u115, u116, u117, u118, u119, u120, u121, u122, u123, u124, u125, u126, u127, u128, u129, u130, u131, u132, u133, u134, u135, u136, u137, u138, u139, u140, u141, u142, u143, u144, u145, u146, u147, u148, u149, u150, u151, u152, u153, u154, u155, u156, u157, u158, u159, u160, u161, u162, u163, u164, u165, u166, u167, u168, u169, u170, u171, u172, u173, u174, u175, u176, u177, u178, u179, u180, u181, u182, u183, u184], []⟩ wx := by
  unfold cBlock
  conv => arg 2; whnf
  have HQ0 := Lib.hid (rfl : ({ Q.zero with kind := 1 } : Q) = { Q.zero with kind := 1 })
  have c0 := H3.cKind
  have hen := fun (W : World) (e : Env W) => ending_any s0.name.name.head e
  unfold endsT at hen
  have hpl := pl_bounds endsL s0.name.name.head
  have hpl0 : 0 ≤ pl endsL s0.name.name.head := hpl.1
  have hpl1 : pl endsL s0.name.name.head ≤ 8 := hpl.2
  clear hpl
  go_upto_region 15 with (first | (go_at_call 14; (with_reducible refine H3.name.mono ?_); rintro e w4 ⟨rfl, H4⟩) | (go_at_call 14; (with_reducible refine H4.name.mono ?_); rintro e w5 ⟨rfl, H5⟩) | (go_at_call 20; refine (heads_any _).mono ?_; rintro e w6 ⟨rfl, hb6⟩; have H6 := H5.below hb6; have c1 := H6.cDev; have f1 := H6.free 1; have c2 := H6.cIfc; have f2 := H6.free 2) | (refine wp_setRule rfl (.tmp 47) (.tmp 44) rfl rfl rfl rfl (H6.setNames s0.head s0.name.head) ?_; intro w7 H7; have k7 : w7.cell? ⟨qa, 0, none⟩ = some (.int .u8 1) := H7.cKind; have cw7 := H7.cellW) | (go_at_call 13; (with_reducible refine H7.word.mono ?_); rintro e w8 ⟨rfl, H8⟩; have E8 := H8.env E) | (go_at_call 19; refine (hen _ E8).mono ?_; rintro e w9 ⟨rfl, hb9⟩; have H9 := H8.below hb9; have c4 := H9.cEnd; have f4 := H9.free 4))
  have H10 := H9.setEnd (pl endsL s0.name.name.head)
  generalize World.setCell w9 ⟨qa, 4, none⟩ (.int .u8 (pl endsL s0.name.name.head)) = w10 at H10 ⊢
  have cB := H10.cellB
  have fB := H10.freeB
  have cE : w10.cell? ⟨qa, 4, none⟩ = some (.int .u8 (pl endsL s0.name.name.head)) := H10.cEnd
  go_cut [] (fun wx => QI w qa (stA2 (stA1 s0)) (qA2 (stA1 s0) (qA1 s0 { Q.zero with kind := 1 })) wx)
  case first =>
    go_wp2
    · rename_i hB
      go_meet
      exact H10.or1 hB _
    · rename_i hB
      go_meet
      exact H10.or0 hB _
  case rest =>
  have H11 := hcut
  apply_assumption
  exact parse_tail HK E H11 HO
end Go.Proofs.YtopccnoinngmbaaGreatDoor

/- ask.Parse walked: the kind 2 -/
namespace Go.Proofs.YtopccnoinngmbaaGreatDoor
open Go.RowKit
set_option maxRecDepth 100000
set_option maxHeartbeats 16000000
set_option linter.unusedVariables false
set_option linter.unusedSimpArgs false

theorem parse_kind2 {u1 u11 u12 u13 u14 u15 u16 u17 u18 u19 u20 u21 u22 u23 u24 u25 u26 u27 u28 u29 u30 u31 u32 u33 u34 u36 u37 u38 u39 u40 u41 u42 u43 u44 u45 u46 u47 u48 u49 u50 u51 u52 u53 u54 u55 u56 u57 u58 u59 u60 u61 u62 u63 u64 u65 u66 u67 u68 u69 u70 u71 u72 u73 u74 u75 u76 u77 u78 u79 u80 u81 u82 u83 u84 u85 u86 u87 u88 u89 u90 u91 u92 u93 u94 u95 u96 u97 u98 u99 u100 u101 u102 u103 u104 u105 u106 u107 u108 u109 u110 u111 u112 u113 u114 u115 u116 u117 u118 u119 u120 u121 u122 u123 u124 u125 u126 u127 u128 u129 u130 u131 u132 u133 u134 u135 u136 u137 u138 u139 u140 u141 u142 u143 u144 u145 u146 u147 u148 u149 u150 u151 u152 u153 u154 u155 u156 u157 u158 u159 u160 u161 u162 u163 u164 u165 u166 u167 u168 u169 u170 u171 u172 u173 u174 u175 u176 u177 u178 u179 u180 u181 u182 u183 u184 : Value} {s : ByteArray} {w wx : World} {qa : Nat} {s0 : St} {out : Value} {K1 : Act → World → Prop} (HK : Hid (∀ a w', Code.wp Tryz.prog cEnd (bodyPost Tryz.prog Tryz.f4 (Rq w out)) a w' → K1 a w')) (E : Env w) (H3 : QI w qa s0 { Q.zero with kind := 2 } wx)
    (HO : Hid (run3 (stA2 (stA1 s0)) (qA2 (stA1 s0) (qA1 s0 { Q.zero with kind := 2 })) = out)) :
    Code.wp Tryz.prog cBlock (Exit.then K1 (bodyPost Tryz.prog Tryz.f4 (Rq w out))) ⟨#[.string s, u1, .pointer (some ⟨w.heap.size, 0, none⟩), .int .i64 0, .pointer (some ⟨w.heap.size + 1 + 1, 0, none⟩), .pointer (some ⟨w.heap.size + 1 + 1 + 1, 0, none⟩), .pointer (some ⟨w.heap.size + 1 + 1 + 1 + 1, 0, none⟩), .func (.func 14) #[] #[.pointer (some ⟨w.heap.size + 1 + 1 + 1 + 1, 0, none⟩), .pointer (some ⟨w.heap.size + 1 + 1 + 1, 0, none⟩)], .pointer (some ⟨w.heap.size + 1 + 1 + 1 + 1 + 1, 0, none⟩), .func (.func 17) #[] #[.pointer (some ⟨w.heap.size + 1 + 1 + 1 + 1 + 1, 0, none⟩), .pointer (some ⟨w.heap.size + 1 + 1 + 1 + 1, 0, none⟩), .pointer (some ⟨w.heap.size + 1 + 1 + 1, 0, none⟩)], .pointer (some ⟨qa, 0, none⟩), u11, u12, u13, u14, u15, u16, u17, u18, u19, u20, u21, u22, u23, u24, u25, u26, u27, u28, u29, u30, u31, u32, u33, u34, .int .u8 2, u36, u37, u38, u39, u40, u41, u42, u43, u44, u45, u46, u47, u48, u49, u50, u51, u52, u53, u54, u55, u56, u57, u58, u59, u60, u61, u62, u63, u64, u65, u66, u67, u68, u69, u70, u71, u72, u73, u74, u75, u76, u77, u78, u79, u80, u81, u82, u83, u84, u85, u86, u87, u88, u89, u90, u91, u92, u93, u94, u95, u96, u97, u98, u99, u100, u101, u102, u103, u104, u105, u106, u107, u108, u109, u110, u111, u112, u113, u114, u115, u116, u117, u118, u119, u120, u121, u122, u123, u124, u125, u126, u127, u128, u129, u130, u131, u132, u133, u134, u135, u136, u137, u138, u139, u140, u141, u142, u143, u144, u145, u146, u147, u148, u149, u150, u151, u152, u153, u154, u155, u156, u157, u158, u159, u160, u161, u162, u163, u164, u165, u166, u167, u168, u169, u170, u171, u172, u173, u174, u175, u176, u177, u178, u179, u180, u181, u182, u183, u184], []⟩ wx := by
  unfold cBlock
  conv => arg 2; whnf
  have HQ0 := Lib.hid (rfl : ({ Q.zero with kind := 2 } : Q) = { Q.zero with kind := 2 })
  have c0 := H3.cKind
  have hen := fun (W : World) (e : Env W) => ending_any s0.name.name.head e
  unfold endsT at hen
  have hpl := pl_bounds endsL s0.name.name.head
  have hpl0 : 0 ≤ pl endsL s0.name.name.head := hpl.1
  have hpl1 : pl endsL s0.name.name.head ≤ 8 := hpl.2
  clear hpl
  go_upto_region 15 with (first | (go_at_call 14; (with_reducible refine H3.name.mono ?_); rintro e w4 ⟨rfl, H4⟩) | (go_at_call 14; (with_reducible refine H4.name.mono ?_); rintro e w5 ⟨rfl, H5⟩) | (go_at_call 20; refine (heads_any _).mono ?_; rintro e w6 ⟨rfl, hb6⟩; have H6 := H5.below hb6; have c1 := H6.cDev; have f1 := H6.free 1; have c2 := H6.cIfc; have f2 := H6.free 2) | (refine wp_setRule rfl (.tmp 47) (.tmp 44) rfl rfl rfl rfl (H6.setNames s0.head s0.name.head) ?_; intro w7 H7; have k7 : w7.cell? ⟨qa, 0, none⟩ = some (.int .u8 2) := H7.cKind; have cw7 := H7.cellW) | (go_at_call 13; (with_reducible refine H7.word.mono ?_); rintro e w8 ⟨rfl, H8⟩; have E8 := H8.env E) | (go_at_call 19; refine (hen _ E8).mono ?_; rintro e w9 ⟨rfl, hb9⟩; have H9 := H8.below hb9; have c4 := H9.cEnd; have f4 := H9.free 4))
  have H10 := H9.setEnd (pl endsL s0.name.name.head)
  generalize World.setCell w9 ⟨qa, 4, none⟩ (.int .u8 (pl endsL s0.name.name.head)) = w10 at H10 ⊢
  have cB := H10.cellB
  have fB := H10.freeB
  have cE : w10.cell? ⟨qa, 4, none⟩ = some (.int .u8 (pl endsL s0.name.name.head)) := H10.cEnd
  go_cut [] (fun wx => QI w qa (stA2 (stA1 s0)) (qA2 (stA1 s0) (qA1 s0 { Q.zero with kind := 2 })) wx)
  case first =>
    go_wp2
    · rename_i hB
      go_meet
      exact H10.or1 hB _
    · rename_i hB
      go_meet
      exact H10.or0 hB _
  case rest =>
  have H11 := hcut
  apply_assumption
  exact parse_tail HK E H11 HO
end Go.Proofs.YtopccnoinngmbaaGreatDoor
