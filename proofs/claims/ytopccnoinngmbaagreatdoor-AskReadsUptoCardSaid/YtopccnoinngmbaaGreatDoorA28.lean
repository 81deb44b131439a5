/-
  One start that fits: the settled world with the listed variables laid.
-/
import Derived.Test.YtopccnoinngmbaaGreatDoorRows
import Derived.Test.YtopccnoinngmbaaGreatDoorA14
import Derived.Deep.DeepHandedRow
import Derived.Deep.DeepWitnessRowRef
import Derived.Deep.DeepLaidRun
import Derived.Lib.TrailingZeros
import Derived.Lib.LaidU8
namespace Go.Proofs.YtopccnoinngmbaaGreatDoor
open Go.RowKit
set_option maxRecDepth 100000
set_option linter.unusedVariables false

abbrev synS : ByteArray := ⟨#[105, 110, 118, 97, 108, 105, 100, 32, 115, 121, 110, 116, 97, 120]⟩
abbrev rngS : ByteArray := ⟨#[118, 97, 108, 117, 101, 32, 111, 117, 116, 32, 111, 102, 32, 114, 97, 110, 103, 101]⟩
/-- So many blocks has the settled world. -/
noncomputable def low : Nat := (World.holding Tryz.prog default ⟨#[], #[], []⟩).heap.size
def putB (h : Array Obj) (g : Nat) (cs : Array Value) : Array Obj := h.modify g fun
  | .cells _ t frozen => .cells cs t frozen
  | o => o
noncomputable def laidWorld (os : Os) : World :=
  let w0 := World.holding Tryz.prog os ⟨#[.cells #[.string synS] 173, .cells #[.string rngS] 173, .cells (Lib.whiteT.map fun (z : Nat) => Value.int .u16 (z : Int)).toArray 146, .cells #[.slice (some ⟨low + 2, 0, none⟩) 7 7, .slice none 0 0, .int .i64 2] 144], #[], []⟩
  { w0 with heap := putB (putB (putB (putB (putB (putB (putB (putB (putB w0.heap 0 (Lib.asciiSpaceTab.map fun z => Value.int .u8 z).toArray) 3 #[.pointer (some ⟨low + 3, 0, none⟩)]) 5 #[.iface 171 (.pointer (some ⟨low, 0, none⟩))]) 6 #[.iface 171 (.pointer (some ⟨low + 1, 0, none⟩))])
      7 (Lib.pow10Tab.map fun z => Value.int .u64 z).toArray) 8 (Lib.firstTab.map fun z => Value.int .u8 z).toArray) 9 ((List.range 16).flatMap fun i => [Value.int .u8 (Lib.accLo i), Value.int .u8 (Lib.accHi i)]).toArray)
      10 (Lib.deBruijn32tab.map fun (z : Nat) => Value.int .u8 (z : Int)).toArray) 11 (Lib.deBruijn64tab.map fun (z : Nat) => Value.int .u8 (z : Int)).toArray }
/-- The arguments: no text, no question, no count. -/
def wargs : Array Value := #[.string ⟨#[]⟩, .agg Q.zero.cells, .agg #[.int .u64 0, .int .u64 0]]
theorem laid_met (os : Os) : laidMet Tryz.prog Rows.askReadsUptoRow.laid ((laidWorld os).forCall (fun _ _ => 0) ⟨#[], wargs, []⟩).memory :=
  laidMet_of_run3 10 (by kernel_rfl) (by kernel_rfl) (by kernel_rfl)
theorem wit_ref (os : Os) : ((laidWorld os).forCall (fun _ _ => 0) ⟨#[], wargs, []⟩).variablesRefB Tryz.prog = true := by kernel_rfl
theorem wit_rest (os : Os) : (((laidWorld os).forCall (fun _ _ => 0) ⟨#[], wargs, []⟩).heap.toList.drop Tryz.prog.globals.size).take ((begin Tryz.prog (fun _ _ => 0) default).world.heap.size - Tryz.prog.globals.size) =
      (begin Tryz.prog (fun _ _ => 0) default).world.heap.toList.drop Tryz.prog.globals.size := by kernel_rfl
theorem wit_ok (os : Os) : Input.okWideB Tryz.prog ((laidWorld os).forCall (fun _ _ => 0) ⟨#[], wargs, []⟩) 3 ⟨#[], wargs, []⟩ = true := by kernel_rfl
/-- It meets the row's conditions. -/
theorem wit_row (os : Os) {H : Type} (enc : TypeId × Value → H) :
    (Rows.OpenSpec.upto Rows.askReadsSpec).preRow enc Tryz.prog Tryz.f3 Rows.askReadsUptoRow.domain false Rows.askReadsUptoRow.laid ((laidWorld os).forCall (fun _ _ => 0) ⟨#[], wargs, []⟩).memory wargs := by
  have hw : (DataW.whole enc Tryz.prog ((laidWorld os).forCall (fun _ _ => 0) ⟨#[], wargs, []⟩).memory Tryz.f3.params.toList Rows.askReadsSpec.vars false wargs.toList 8).map (fun x => (x.1, x.2.1)) =
      some ([.lit (.string []), .agg [.lit (.int .u8 0), .lit (.string []), .lit (.string []), .lit (.string []), .lit (.int .u8 0),
        .agg [.lit (.bool false), .lit (.int .i64 0), .agg [.lit (.int .u32 0), .lit (.int .i64 0)], .agg [.lit (.int .u32 0), .lit (.int .i64 0)], .agg [.lit (.int .u32 0), .lit (.int .u32 0)], .agg [.lit (.int .u32 0), .lit (.int .u32 0)]],
        .agg [.lit (.int .u32 0), .lit (.int .u32 0), .lit (.int .u8 0), .lit (.int .u16 0), .lit (.int .u16 0)], .lit (.int .i64 0), .lit (.int .u32 0)], .agg [.lit (.int .u64 0), .lit (.int .u64 0)]], []) := by kernel_rfl
  obtain ⟨⟨x1, x2, x3⟩, hx, hx1⟩ := Option.map_eq_some_iff.1 hw
  simp only [Prod.mk.injEq] at hx1
  obtain ⟨rfl, rfl⟩ := hx1
  exact OpenSpec.preRow_of_cond 8 hx (by kernel_rfl) (fun k hk => by cases hk; kernel_rfl) (by kernel_rfl) (laid_met os)
end Go.Proofs.YtopccnoinngmbaaGreatDoor
