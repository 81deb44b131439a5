/-
  What the row's list gives: the library's variables.
-/
import Derived.Test.YtopccnoinngmbaaGreatDoorRows
import Derived.Test.YtopccnoinngmbaaGreatDoorA03
import Derived.Lib.LaidTab
import Derived.Stop.LaidErr
import Derived.Shelf.Vars
namespace Go.Proofs.YtopccnoinngmbaaGreatDoor
open Go.RowKit
set_option maxRecDepth 100000
set_option linter.unusedVariables false

theorem laid_plain {W : World} (hL : laidMetH Tryz.prog Rows.askReadsUptoRow.laid W) : laidMet Tryz.prog Rows.askReadsUptoRow.laid W := by
  unfold laidMetH at hL
  rw [show (Rows.askReadsUptoRow.laid.filter fun x => x.2.handleName?.isSome) = [] from by kernel_rfl] at hL
  exact hL
theorem gES : Tryz.prog.globalNamed "strconv.ErrSyntax" = some 5 := by kernel_rfl
theorem gESType : (Tryz.prog.globals[5]?).map (·.type) = some 95 := by kernel_rfl
theorem gER : Tryz.prog.globalNamed "strconv.ErrRange" = some 6 := by kernel_rfl
theorem gERType : (Tryz.prog.globals[6]?).map (·.type) = some 95 := by kernel_rfl
theorem gPowType : (Tryz.prog.globals[7]?).map (·.type) = some 162 := by kernel_rfl
theorem gSpaceType : (Tryz.prog.globals[0]?).map (·.type) = some 108 := by kernel_rfl
theorem cellsOf35 : Tryz.prog.cellsOf 35 = 1 := by kernel_rfl
theorem cellsOf162 : Tryz.prog.cellsOf 162 = 20 := by kernel_rfl
theorem cellsOf5 : Tryz.prog.cellsOf 5 = 1 := by kernel_rfl
theorem cellsOf108 : Tryz.prog.cellsOf 108 = 256 := by kernel_rfl
theorem cellsOf173 : Tryz.prog.cellsOf 173 = 1 := by kernel_rfl
theorem cellsOf9 : Tryz.prog.cellsOf 9 = 1 := by kernel_rfl
theorem star : "*" ++ "errors.errorString" = "*errors.errorString" := by decide
theorem row171 (u : TypeId) (h : Tryz.prog.typeName? 3 u = some "*errors.errorString") : u = 171 :=
  typeName_ptr_named (nm := "errors.errorString") (by rw [star]; kernel_rfl) (by kernel_rfl) (by decide) u (by rw [star]; exact h)
theorem maxLen_int {W : World} (hsh : W.ShapedOpen Tryz.prog) : ∃ m, W.cell? ⟨4, 0, none⟩ = some (.int .i64 m) :=
  Go.Proofs.cell_of_shapedOpen_int (zero := #[.int .i64 0]) (t := 3) hsh (of_decide_eq_true (by kernel_rfl)) (by kernel_rfl) rfl (by kernel_rfl) (by kernel_rfl) Tryz.underlying3
theorem many_of {W : World} (hsh : W.ShapedOpen Tryz.prog) : 13 ≤ W.heap.size := by
  obtain ⟨cs, hh, -, -⟩ := hsh.1 12 #[.pointer none] 125 (of_decide_eq_true (by kernel_rfl)) (by kernel_rfl)
  have := (Array.getElem?_eq_some_iff.1 hh).1
  omega
/-- What the walks ask of the world. -/
theorem env_of {W : World} (hL : laidMetH Tryz.prog Rows.askReadsUptoRow.laid W) (hsh : W.ShapedOpen Tryz.prog) : Env W := by
  have t0 := laid_plain hL
  have t1 := laidMet.tail t0
  have t2 := laidMet.tail t1
  have t3 := laidMet.tail t2
  have t4 := laidMet.tail t3
  have t5 := laidMet.tail t4
  have t6 := laidMet.tail t5
  have t7 := laidMet.tail t6
  refine ⟨Lib.tabIs_of_head gPow gPowType Tryz.underlying162 Tryz.underlying35 cellsOf35 cellsOf162 t2, Lib.tabIs_of_head gSpace gSpaceType Tryz.underlying108 Tryz.underlying5 cellsOf5 cellsOf108 t7, ?_, ?_, maxLen_int hsh, many_of hsh⟩
  · obtain ⟨a, s, hv, -, -, -⟩ := laid_sentinel t5 gES gESType Tryz.underlying95 row171 Tryz.underlying171 Tryz.underlying173 rfl rfl Tryz.underlying9 cellsOf173 cellsOf9
    exact ⟨_, _, by simpa using World.var?_cell gES hv 0⟩
  · obtain ⟨a, s, hv, -, -, -⟩ := laid_sentinel t4 gER gERType Tryz.underlying95 row171 Tryz.underlying171 Tryz.underlying173 rfl rfl Tryz.underlying9 cellsOf173 cellsOf9
    exact ⟨_, _, by simpa using World.var?_cell gER hv 0⟩
end Go.Proofs.YtopccnoinngmbaaGreatDoor
