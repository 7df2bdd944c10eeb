/- The library's trimming of a text by the small letters: what it makes. Conditions: those that each theorem names. -/
import Derived.Shelf.Strings.SlTrimAscii
import Derived.Test.YtnaknegnpgodkaaDoorProg
import Derived.Test.YtnaknegnpgodkaaDoorM10
set_option linter.unusedVariables false
namespace Go.Proofs.YtnaknegnpgodkaaDoor.Tr
open Go.RowKit Go.Shelf Go.Lib
def lay_ren : Go.Shelf.Ren := ⟨fun | 160 => 47 | 232 => 52 | 231 => 51 | 227 => 53 | 234 => 55 | 233 => 54 | 236 => 57 | 235 => 56 | 228 => 62 | 271 => 65 | 151 => 64 | 197 => 63 | 120 => 73 | 152 => 72 | 260 => 71 | 137 => 76 | 119 => 77 | 224 => 78 | 225 => 79 | 217 => 80 | 266 => 81 | n => n, fun | 9 => 9 | 4 => 4 | 3 => 3 | 5 => 5 | 117 => 79 | 116 => 78 | 0 => 0 | 124 => 82 | 21 => 21 | 105 => 90 | 46 => 98 | 119 => 102 | 139 => 105 | 138 => 104 | n => n, fun | 3 => 1 | 4 => 2 | n => n⟩
theorem lay : Go.Proofs.Lays.n160 Tryd.prog lay_ren := { mixed := by kernel_rfl, f119 := Tryd.func77.trans (congrArg some (by kernel_rfl)), f120 := Tryd.func73.trans (congrArg some (by kernel_rfl)), f137 := Tryd.func76.trans (congrArg some (by kernel_rfl)), f151 := Tryd.func64.trans (congrArg some (by kernel_rfl)), f152 := Tryd.func72.trans (congrArg some (by kernel_rfl)), f160 := Tryd.func47.trans (congrArg some (by kernel_rfl)), f197 := Tryd.func63.trans (congrArg some (by kernel_rfl)), f217 := Tryd.func80.trans (congrArg some (by kernel_rfl)), f224 := Tryd.func78.trans (congrArg some (by kernel_rfl)), f225 := Tryd.func79.trans (congrArg some (by kernel_rfl)), f227 := Tryd.func53.trans (congrArg some (by kernel_rfl)), f228 := Tryd.func62.trans (congrArg some (by kernel_rfl)), f231 := Tryd.func51.trans (congrArg some (by kernel_rfl)), f232 := Tryd.func52.trans (congrArg some (by kernel_rfl)), f233 := Tryd.func54.trans (congrArg some (by kernel_rfl)), f234 := Tryd.func55.trans (congrArg some (by kernel_rfl)), f235 := Tryd.func56.trans (congrArg some (by kernel_rfl)), f236 := Tryd.func57.trans (congrArg some (by kernel_rfl)), f260 := Tryd.func71.trans (congrArg some (by kernel_rfl)), f266 := Tryd.func81.trans (congrArg some (by kernel_rfl)), f271 := Tryd.func65.trans (congrArg some (by kernel_rfl)), t0 := Tryd.underlying0, a0 := Tryd.isAgg0, z0 := Tryd.sizeOf0, v0 := Tryd.zeroValue0, t3 := Tryd.underlying3, a3 := Tryd.isAgg3, z3 := Tryd.sizeOf3, v3 := Tryd.zeroValue3, t4 := Tryd.underlying4, a4 := Tryd.isAgg4, z4 := Tryd.sizeOf4, v4 := Tryd.zeroValue4, t5 := Tryd.underlying5, a5 := Tryd.isAgg5, z5 := Tryd.sizeOf5, v5 := Tryd.zeroValue5, t9 := Tryd.underlying9, a9 := Tryd.isAgg9, z9 := Tryd.sizeOf9, v9 := Tryd.zeroValue9, t21 := Tryd.underlying21, a21 := Tryd.isAgg21, z21 := Tryd.sizeOf21, v21 := Tryd.zeroValue21, t46 := Tryd.underlying98, a46 := Tryd.isAgg98, z46 := Tryd.sizeOf98, v46 := Tryd.zeroValue98, t105 := Tryd.underlying90, a105 := Tryd.isAgg90, z105 := Tryd.sizeOf90, v105 := Tryd.zeroValue90, t116 := Tryd.underlying78, a116 := Tryd.isAgg78, z116 := Tryd.sizeOf78, t117 := Tryd.underlying79, a117 := Tryd.isAgg79, z117 := Tryd.sizeOf79, v117 := Tryd.zeroValue79, t119 := Tryd.underlying102, a119 := Tryd.isAgg102, z119 := Tryd.sizeOf102, t124 := Tryd.underlying82, a124 := Tryd.isAgg82, z124 := Tryd.sizeOf82, v124 := Tryd.zeroValue82, t138 := Tryd.underlying104, a138 := Tryd.isAgg104, z138 := Tryd.sizeOf104, v138 := Tryd.zeroValue104, t139 := Tryd.underlying105, a139 := Tryd.isAgg105, z139 := Tryd.sizeOf105, v139 := Tryd.zeroValue105, g3 := by kernel_rfl, g4 := by kernel_rfl }
def small : ByteArray := ⟨#[97, 98, 99, 100, 101, 102, 103, 104, 105, 106, 107, 108, 109, 110, 111, 112, 113, 114, 115, 116, 117, 118, 119, 120, 121, 122]⟩
theorem trim_calls (s : ByteArray) (hs : s.size ≤ 9223372036854775807) (w : World) :
    Calls Tryd.prog 47 #[.string s, .string small] w fun e w' => e = .returned (.string ⟨(trimS s.data.toList small.data.toList).toArray⟩) ∧ Below w.heap.size w w' :=
  Any.strings_Trim_laid lay (by kernel_rfl) s small w hs (by decide) (ascii_of_all (by decide))
theorem dropWhile_all {p : UInt8 → Bool} : ∀ (l : List UInt8), (∀ x ∈ l.dropWhile p, p x = true) → ∀ x ∈ l, p x = true
  | [], _, x, hx => by cases hx
  | y :: s, h, x, hx => by
    cases hy : p y with
    | true =>
      rw [List.dropWhile_cons, hy, if_pos rfl] at h
      rcases List.mem_cons.1 hx with rfl | hx
      · exact hy
      · exact dropWhile_all s h x hx
    | false =>
      rw [List.dropWhile_cons, hy, if_neg (by simp)] at h
      exact h x hx
theorem dropWhile_none {p : UInt8 → Bool} : ∀ (l : List UInt8), (∀ x ∈ l, p x = true) → l.dropWhile p = []
  | [], _ => rfl
  | y :: s, h => by
    rw [List.dropWhile_cons, h y (by simp), if_pos rfl]
    exact dropWhile_none s (fun x hx => h x (by simp [hx]))
theorem trim_none (l cs : List UInt8) : trimS l cs = [] ↔ ∀ x ∈ l, cs.contains x = true := by
  unfold trimS trimLeftS trimRightS
  constructor
  · intro h x hx
    have h1 : ∀ y ∈ (l.reverse.dropWhile (cs.contains ·)).reverse, cs.contains y = true := by
      refine dropWhile_all (p := (cs.contains ·)) _ ?_
      rw [h]
      intro x hx
      cases hx
    have h2 := dropWhile_all (p := (cs.contains ·)) l.reverse (fun y hy => h1 y (List.mem_reverse.2 hy))
    exact h2 x (List.mem_reverse.2 hx)
  · intro h
    have h1 : l.reverse.dropWhile (cs.contains ·) = [] := dropWhile_none (p := (cs.contains ·)) _ (fun x hx => h x (List.mem_reverse.1 hx))
    rw [h1]
    rfl
theorem small_iff (b : UInt8) : small.data.toList.contains b = (decide (97 ≤ b.toNat) && decide (b.toNat ≤ 122)) := by
  have h : ∀ n : Fin 256, small.data.toList.contains (UInt8.ofNat n.val) = (decide (97 ≤ n.val) && decide (n.val ≤ 122)) := by decide +kernel
  have := h ⟨b.toNat, b.toNat_lt⟩
  simpa using this
theorem trim_letters (s : ByteArray) : trimS s.data.toList small.data.toList = [] ↔ M.letters s = true := by
  rw [trim_none]
  unfold M.letters
  rw [List.all_eq_true]
  exact ⟨fun h x hx => by rw [← small_iff]; exact h x hx, fun h x hx => by rw [small_iff]; exact h x hx⟩
end Go.Proofs.YtnaknegnpgodkaaDoor.Tr
