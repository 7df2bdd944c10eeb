/- The library's text of a number: what strconv.Itoa makes where the table of powers of ten reads as it is laid. Conditions: those that each theorem names. -/
import Derived.Shelf.Strconv.Itoa3
import Derived.Lib.SmallJoins
import Derived.Lib.AppendIntMem
import Derived.Lib.LaidTab
import Derived.LaidMore
import Derived.Stop.LaidErr
import Derived.Stop.Joined
import Derived.Test.YtnaknegnpgodkaaDoorProg
import Derived.Test.YtnaknegnpgodkaaDoorRows
import Derived.Test.YtnaknegnpgodkaaDoorWMore
set_option linter.unusedVariables false
namespace Go.Proofs.YtnaknegnpgodkaaDoor.I
open Go.RowKit Go.Shelf Go.Lib
def lay_ren : Go.Shelf.Ren := ⟨fun | 171 => 28 | 243 => 46 | 246 => 50 | 283 => 58 | 284 => 59 | 285 => 60 | 286 => 61 | 129 => 67 | 317 => 66 | 318 => 68 | 319 => 69 | 320 => 70 | 337 => 74 | 338 => 75 | n => n, fun | 3 => 3 | 9 => 9 | 2 => 2 | 4 => 4 | 171 => 83 | 0 => 0 | 53 => 84 | 37 => 71 | 5 => 5 | 173 => 87 | 212 => 94 | 51 => 95 | 20 => 20 | 213 => 96 | 46 => 98 | 232 => 109 | 233 => 110 | n => n, fun | 17 => 0 | 18 => 3 | 19 => 4 | n => n⟩
theorem lay : Go.Proofs.LaysM.n171 Tryd.prog lay_ren := { mixed := by kernel_rfl, f129 := Tryd.func67.trans (congrArg some (by kernel_rfl)), f171 := Tryd.func28.trans (congrArg some (by kernel_rfl)), f243 := Tryd.func46.trans (congrArg some (by kernel_rfl)), f246 := Tryd.func50.trans (congrArg some (by kernel_rfl)), f283 := Tryd.func58.trans (congrArg some (by kernel_rfl)), f284 := Tryd.func59.trans (congrArg some (by kernel_rfl)), f285 := Tryd.func60.trans (congrArg some (by kernel_rfl)), f286 := Tryd.func61.trans (congrArg some (by kernel_rfl)), f317 := Tryd.func66.trans (congrArg some (by kernel_rfl)), f318 := Tryd.func68.trans (congrArg some (by kernel_rfl)), f319 := Tryd.func69.trans (congrArg some (by kernel_rfl)), f320 := Tryd.func70.trans (congrArg some (by kernel_rfl)), f337 := Tryd.func74.trans (congrArg some (by kernel_rfl)), f338 := Tryd.func75.trans (congrArg some (by kernel_rfl)), t0 := Tryd.underlying0, a0 := Tryd.isAgg0, z0 := Tryd.sizeOf0, v0 := Tryd.zeroValue0, t2 := Tryd.underlying2, a2 := Tryd.isAgg2, z2 := Tryd.sizeOf2, v2 := Tryd.zeroValue2, t3 := Tryd.underlying3, a3 := Tryd.isAgg3, z3 := Tryd.sizeOf3, v3 := Tryd.zeroValue3, t4 := Tryd.underlying4, a4 := Tryd.isAgg4, z4 := Tryd.sizeOf4, v4 := Tryd.zeroValue4, t5 := Tryd.underlying5, a5 := Tryd.isAgg5, z5 := Tryd.sizeOf5, v5 := Tryd.zeroValue5, t9 := Tryd.underlying9, a9 := Tryd.isAgg9, z9 := Tryd.sizeOf9, v9 := Tryd.zeroValue9, t20 := Tryd.underlying20, a20 := Tryd.isAgg20, z20 := Tryd.sizeOf20, v20 := Tryd.zeroValue20, t37 := Tryd.underlying71, a37 := Tryd.isAgg71, z37 := Tryd.sizeOf71, v37 := Tryd.zeroValue71, t46 := Tryd.underlying98, a46 := Tryd.isAgg98, z46 := Tryd.sizeOf98, v46 := Tryd.zeroValue98, t51 := Tryd.underlying95, a51 := Tryd.isAgg95, z51 := Tryd.sizeOf95, v51 := Tryd.zeroValue95, t53 := Tryd.underlying84, a53 := Tryd.isAgg84, z53 := Tryd.sizeOf84, v53 := Tryd.zeroValue84, t171 := Tryd.underlying83, a171 := Tryd.isAgg83, z171 := Tryd.sizeOf83, v171 := Tryd.zeroValue83, t173 := Tryd.underlying87, a173 := Tryd.isAgg87, z173 := Tryd.sizeOf87, v173 := Tryd.zeroValue87, t212 := Tryd.underlying94, a212 := Tryd.isAgg94, z212 := Tryd.sizeOf94, v212 := Tryd.zeroValue94, t213 := Tryd.underlying96, a213 := Tryd.isAgg96, z213 := Tryd.sizeOf96, t232 := Tryd.underlying109, a232 := Tryd.isAgg109, z232 := Tryd.sizeOf109, v232 := Tryd.zeroValue109, t233 := Tryd.underlying110, a233 := Tryd.isAgg110, z233 := Tryd.sizeOf110, v233 := Tryd.zeroValue110, g17 := by kernel_rfl, g18 := by kernel_rfl, g19 := by kernel_rfl, i0 := by kernel_rfl, i2 := by kernel_rfl, i3 := by kernel_rfl, i4 := by kernel_rfl, i5 := by kernel_rfl, i9 := by kernel_rfl, i20 := by kernel_rfl, i37 := by kernel_rfl, i46 := by kernel_rfl, i51 := by kernel_rfl, i53 := by kernel_rfl, i171 := by kernel_rfl, i173 := by kernel_rfl, i212 := by kernel_rfl, i232 := by kernel_rfl, i233 := by kernel_rfl, m17 := by kernel_rfl, m18 := by kernel_rfl, m19 := by kernel_rfl }
/-- The table of powers of ten reads in w as it is laid. -/
def TabOk (w : World) : Prop := TabIs Tryd.prog w (Rows.fnExactFracTextRow.named.headD default) .u64 pow10Tab
theorem TabOk.later {w w' : World} (h : TabOk w) (hb : Below w.heap.size w w') : TabOk w' := Go.Joins.tab_stays (show Tryd.prog.globalNamed _ = some 0 by kernel_rfl) h hb (Nat.le_refl _)
theorem itoa_calls (n : Int) (h0 : -9223372036854775808 ≤ n) (h1 : n ≤ 9223372036854775807) (w : World) (ht : TabOk w) :
    Calls Tryd.prog 28 #[.int .i64 n] w fun e w' => e = .returned (.string ⟨(itoa n).toArray⟩) ∧ Below w.heap.size w w' := by
  refine (Any.strconv_Itoa lay n h0 h1 w ht).mono ?_
  rintro e w' ⟨rfl, k, os, rfl⟩
  exact ⟨rfl, below_grow _ w (Nat.le_refl _) k os⟩
/-- What the row's condition says of the table. -/
theorem tab_of_laid {W : World} (h : laidMetH Tryd.prog Rows.fnExactFracTextRow.laid W) : TabOk W := by
  rw [MakeChecks.laidMetH_plain _ _ _ (by kernel_rfl)] at h
  have h3 := laidMet.tail (laidMet.tail h)
  exact tabIs_of_head (zs := pow10Tab) (k := .u64) (show Tryd.prog.globalNamed _ = some 0 by kernel_rfl) (show (Tryd.prog.globals[0]?).map (·.type) = some 94 by kernel_rfl) Tryd.underlying94 Tryd.underlying84 (by kernel_rfl) (by kernel_rfl) h3
end Go.Proofs.YtnaknegnpgodkaaDoor.I
