/- Plain facts on numbers, lists and rounds that the contracts of this session lean on; no program stands here. Conditions: those that each lemma names. -/
import Derived.Test.YtdgpplnfkifkgaaWWords
import Derived.Test.YtdgpplnfkifkgaaWMore
set_option linter.unusedVariables false
namespace Go.Proofs.Ytdgpplnfkifkgaa.M
open Go.RowKit Go.Proofs.YtdgpplnfkifkgaaW.PrintWords Go.Proofs.YtdgpplnfkifkgaaW.PrintLast Go.Proofs.YtdgpplnfkifkgaaW.PrintMore

/-! ### wrapping -/
theorem wrap_id {x : Int} (h : -9223372036854775808 ≤ x) (h' : x ≤ 9223372036854775807) : wrap64 x = x := by unfold wrap64; omega
theorem wrap_succ {i : Nat} (h : (i : Int) < 9223372036854775807) : wrap64 ((i : Int) + 1) = ((i + 1 : Nat) : Int) := by rw [wrap_id (by omega) (by omega)]; omega

theorem wf_i64 {x : Int} (h : (Lit.int .i64 x).wf = true) : -9223372036854775808 ≤ x ∧ x ≤ 9223372036854775807 := by
  simp only [Lit.wf, Bool.and_eq_true, decide_eq_true_eq] at h
  exact ⟨h.1, h.2⟩

/-! ### lists -/
section
variable {α : Type}
theorem drop_nil {l : List α} {i : Nat} (h : l.drop i = []) : l.length ≤ i := List.drop_eq_nil_iff.1 h
theorem drop_cons {l : List α} {i : Nat} {x : α} {suf : List α} (h : l.drop i = x :: suf) : i < l.length ∧ l[i]? = some x ∧ l.drop (i + 1) = suf ∧ l.length = i + (suf.length + 1) := by
  have h1 : i < l.length := by
    rcases Nat.lt_or_ge i l.length with h1 | h1
    · exact h1
    · rw [List.drop_eq_nil_of_le h1] at h; cases h
  have h2 := List.drop_eq_getElem_cons h1
  rw [h] at h2
  injection h2 with h2 h3
  have h4 := congrArg List.length h3
  rw [List.length_drop] at h4
  exact ⟨h1, by rw [List.getElem?_eq_getElem h1, h2], h3.symm, by omega⟩
theorem getD_at {l : List α} {i : Nat} {x d : α} (h : l[i]? = some x) : l.getD ((i : Int)).toNat d = x := by
  rw [Int.toNat_natCast, List.getD_eq_getElem?_getD, h]; rfl
theorem take_set_succ {y l : List α} {i : Nat} {x : α} (ht : y.take i = l.take i) (hx : l[i]? = some x) (hi : i < y.length) : (y.set i x).take (i + 1) = l.take (i + 1) := by
  apply List.ext_getElem?
  intro j
  have h := congrArg (fun z : List α => z[j]?) ht
  simp only [List.getElem?_take] at h ⊢
  by_cases hj : j < i + 1
  · rw [if_pos hj, if_pos hj]
    by_cases e : j = i
    · subst e
      rw [List.getElem?_set_self hi, hx]
    · rw [List.getElem?_set_ne (by omega)]
      rw [if_pos (by omega), if_pos (by omega)] at h
      exact h
  · rw [if_neg hj, if_neg hj]
end
theorem rd_at {l : List Int} {i : Nat} {x : Int} (h : l[i]? = some x) : rd l (i : Int) = x := getD_at h

/-! ### fractions -/
/-- A good fraction. -/
def good (a b : Int) : Bool := decide (-1000000000 ≤ a ∧ a ≤ 1000000000 ∧ 1 ≤ b ∧ b ≤ 1000000000 ∧ Int.gcd a b = 1)
/-- The lowest terms of n divided by d. -/
def num (n d : Int) : Int := (if d < 0 then -n else n) / (Int.gcd n d : Int)
def den (n d : Int) : Int := (if d < 0 then -d else d) / (Int.gcd n d : Int)
theorem gcd_pos {n d : Int} (h : d ≠ 0) : 0 < (Int.gcd n d : Int) := by
  have := Int.gcd_pos_of_ne_zero_right n h
  omega
theorem tdiv_dvd {x g : Int} (h : g ∣ x) : Int.tdiv x g = x / g := Int.tdiv_eq_ediv_of_dvd h
theorem ediv_bound {x g : Int} (hg : 0 < g) {B : Int} (h : -B ≤ x) (h' : x ≤ B) (hB : 0 ≤ B) : -B ≤ x / g ∧ x / g ≤ B := by
  constructor
  · refine Int.le_trans ?_ (Int.ediv_le_ediv hg h)
    rw [Int.le_ediv_iff_mul_le hg]
    have := Int.mul_le_mul_of_nonneg_left (show (1 : Int) ≤ g by omega) hB
    rw [Int.neg_mul]
    omega
  · refine Int.le_trans (Int.ediv_le_ediv hg h') ?_
    exact Int.ediv_le_self _ hB
theorem den_pos {n d : Int} (h : d ≠ 0) : 1 ≤ den n d := by
  unfold den
  have hg := gcd_pos (n := n) h
  rw [Int.le_ediv_iff_mul_le hg, Int.one_mul]
  have hd : (Int.gcd n d : Int) ∣ (if d < 0 then -d else d) := by
    split
    · exact Int.dvd_neg.2 (Int.gcd_dvd_right _ _)
    · exact Int.gcd_dvd_right _ _
  exact Int.le_of_dvd (by split <;> omega) hd
theorem gcd_num_den {n d : Int} (h : d ≠ 0) : Int.gcd (num n d) (den n d) = 1 := by
  unfold num den
  have hg : 0 < Int.gcd n d := Int.gcd_pos_of_ne_zero_right n h
  have key := Int.gcd_ediv_gcd_ediv_gcd hg
  by_cases hd : d < 0
  · rw [if_pos hd, if_pos hd, Int.neg_ediv_of_dvd (Int.gcd_dvd_left _ _), Int.neg_ediv_of_dvd (Int.gcd_dvd_right _ _), Int.gcd_neg, Int.neg_gcd]
    exact key
  · rw [if_neg hd, if_neg hd]
    exact key
theorem good_lowest {n d : Int} (h : d ≠ 0) (hn : -1000000000 ≤ n ∧ n ≤ 1000000000) (hd : -1000000000 ≤ d ∧ d ≤ 1000000000) : good (num n d) (den n d) = true := by
  unfold good
  rw [decide_eq_true_eq]
  have hg := gcd_pos (n := n) h
  have b1 : -1000000000 ≤ num n d ∧ num n d ≤ 1000000000 := by
    unfold num
    exact ediv_bound hg (by split <;> omega) (by split <;> omega) (by omega)
  have b2 : -1000000000 ≤ den n d ∧ den n d ≤ 1000000000 := by
    unfold den
    exact ediv_bound hg (by split <;> omega) (by split <;> omega) (by omega)
  exact ⟨b1.1, b1.2, den_pos h, b2.2, gcd_num_den h⟩
theorem mul_bound {a b A B : Int} (h1 : -A ≤ a) (h2 : a ≤ A) (h3 : 0 ≤ b) (h4 : b ≤ B) (hA : 0 ≤ A) : -(A * B) ≤ a * b ∧ a * b ≤ A * B := by
  constructor
  · have e1 := Int.mul_le_mul_of_nonneg_right h1 h3
    have e2 := Int.mul_le_mul_of_nonneg_left h4 hA
    rw [Int.neg_mul] at e1
    omega
  · exact Int.mul_le_mul h2 h4 h3 hA
theorem good_iff {a b : Int} : good a b = true ↔ (-1000000000 ≤ a ∧ a ≤ 1000000000 ∧ 1 ≤ b ∧ b ≤ 1000000000 ∧ Int.gcd a b = 1) := by unfold good; rw [decide_eq_true_eq]
theorem good_cross {a b c d : Int} (h : good a b = true) (k : good c d = true) : (-1000000000000000000 ≤ a * d ∧ a * d ≤ 1000000000000000000) ∧ (-1000000000000000000 ≤ c * b ∧ c * b ≤ 1000000000000000000) := by
  rw [good_iff] at h k
  have e1 := mul_bound (a := a) (b := d) (A := 1000000000) (B := 1000000000) (by omega) (by omega) (by omega) (by omega) (by omega)
  have e2 := mul_bound (a := c) (b := b) (A := 1000000000) (B := 1000000000) (by omega) (by omega) (by omega) (by omega) (by omega)
  constructor <;> constructor <;> omega

theorem good_dens {a b c d : Int} (h : good a b = true) (k : good c d = true) : 1 ≤ b * d ∧ b * d ≤ 1000000000000000000 := by
  rw [good_iff] at h k
  have e1 := mul_bound (a := b) (b := d) (A := 1000000000) (B := 1000000000) (by omega) (by omega) (by omega) (by omega) (by omega)
  have e2 := Int.mul_le_mul (show (1 : Int) ≤ b by omega) (show (1 : Int) ≤ d by omega) (by omega) (by omega)
  omega
theorem good_nums {a b c d : Int} (h : good a b = true) (k : good c d = true) : -1000000000000000000 ≤ a * c ∧ a * c ≤ 1000000000000000000 := by
  rw [good_iff] at h k
  rcases Int.le_total 0 c with e | e
  · have := mul_bound (a := a) (b := c) (A := 1000000000) (B := 1000000000) (by omega) (by omega) (by omega) (by omega) (by omega)
    omega
  · have := mul_bound (a := a) (b := -c) (A := 1000000000) (B := 1000000000) (by omega) (by omega) (by omega) (by omega) (by omega)
    rw [Int.mul_neg] at this
    omega
/-- How two fractions stand to each other. -/
def cmpF (a b c d : Int) : Int := if a * d < c * b then -1 else if c * b < a * d then 1 else 0
def goodB (a b c d : Int) : Bool := (good a b && good c d) && (decide (0 ≤ a) && !decide (c * b < a * d))
/-- n divided by m, where that is good. -/
def low (n m : Int) : Int × Int × Bool := if good (num n m) (den n m) = true then (num n m, den n m, true) else (0, 0, false)
def addF (a b c d : Int) : Int × Int × Bool := if (good a b && good c d) = true then low (a * d + c * b) (b * d) else (0, 0, false)
def subF (a b c d : Int) : Int × Int × Bool := if (good a b && good c d) = true then low (a * d - c * b) (b * d) else (0, 0, false)
def mulF (a b c d : Int) : Int × Int × Bool := if (good a b && good c d) = true then low (a * c) (b * d) else (0, 0, false)
def divF (a b c d : Int) : Int × Int × Bool := if (good a b && good c d) = true ∧ c ≠ 0 then low (a * d) (b * c) else (0, 0, false)

/-! ### numbers between two others -/
def inAll (l : List Int) (a b : Int) : Bool := l.all fun x => decide (a ≤ x) && decide (x ≤ b)
theorem inAll_iff {l : List Int} {a b : Int} : inAll l a b = true ↔ ∀ x ∈ l, a ≤ x ∧ x ≤ b := by unfold inAll; simp

def ways (a b : List Int) : Bool := decide (a.length = b.length) && (decide (a.length ≤ 10) && (inAll a 0 1000 && inAll b 0 1000))
theorem ways_iff {a b : List Int} : ways a b = true ↔ a.length = b.length ∧ a.length ≤ 10 ∧ inAll a 0 1000 = true ∧ inAll b 0 1000 = true := by unfold ways; simp

/-! ### roots -/
/-- The greatest number whose square is at most n, sought between lo and hi. -/
def seek (n : Int) : Nat → Int → Int → Int
  | 0, lo, _ => lo
  | k + 1, lo, hi => if hi - lo > 1 then (if ((lo + hi) / 2) * ((lo + hi) / 2) ≤ n then seek n k ((lo + hi) / 2) hi else seek n k lo ((lo + hi) / 2)) else lo
def root (n : Int) : Int := seek n 1000001 0 1000001
def IsRoot (n r : Int) : Prop := 0 ≤ r ∧ r ≤ 1000000 ∧ r * r ≤ n ∧ n < (r + 1) * (r + 1)
theorem sq_lt {a b : Int} (ha : 0 ≤ a) (h : a * a < b * b) (hb : 0 ≤ b) : a < b := by
  rcases Int.lt_or_le a b with h1 | h1
  · exact h1
  · have := Int.mul_le_mul h1 h1 hb ha
    omega
theorem IsRoot.unique {n r s : Int} (h : IsRoot n r) (k : IsRoot n s) : r = s := by
  obtain ⟨a1, _, a3, a4⟩ := h
  obtain ⟨b1, _, b3, b4⟩ := k
  have := sq_lt a1 (show r * r < (s + 1) * (s + 1) by omega) (by omega)
  have := sq_lt b1 (show s * s < (r + 1) * (r + 1) by omega) (by omega)
  omega
theorem seek_root (n : Int) : ∀ (k : Nat) (lo hi : Int), 0 ≤ lo → lo < hi → hi ≤ 1000001 → lo * lo ≤ n → n < hi * hi → hi - lo ≤ k → IsRoot n (seek n k lo hi)
  | 0, lo, hi, h0, h1, h2, h3, h4, h5 => by omega
  | k + 1, lo, hi, h0, h1, h2, h3, h4, h5 => by
    unfold seek
    by_cases c : hi - lo > 1
    · rw [if_pos c]
      by_cases d : ((lo + hi) / 2) * ((lo + hi) / 2) ≤ n
      · rw [if_pos d]; exact seek_root n k _ _ (by omega) (by omega) h2 d h4 (by omega)
      · rw [if_neg d]; exact seek_root n k _ _ h0 (by omega) (by omega) h3 (by omega) (by omega)
    · rw [if_neg c]
      have : hi = lo + 1 := by omega
      subst this
      exact ⟨h0, by omega, h3, h4⟩
theorem root_spec {n : Int} (h0 : 0 ≤ n) (h : n ≤ 1000000000000) : IsRoot n (root n) := seek_root n _ 0 1000001 (by omega) (by omega) (by omega) (by omega) (by omega) (by omega)
theorem sq_le {m B : Int} (h0 : 0 ≤ m) (h : m ≤ B) : m * m ≤ B * B := Int.mul_le_mul h h h0 (by omega)
theorem sq_nonneg {m : Int} (h0 : 0 ≤ m) : 0 ≤ m * m := Int.mul_nonneg h0 h0

/-! ### use times way -/
def dot : List Int → List Int → Int → Int
  | x :: xs, y :: ys, s => dot xs ys (wrap64 (s + wrap64 (x * y)))
  | _, _, s => s
/-! ### how many are at least 0 -/
def count0 : List Int → Int → Int
  | x :: xs, s => count0 xs (if x ≥ 0 then wrap64 (s + 1) else s)
  | [], s => s
/-! ### rising numbers, as the laws mark lists -/
def upFrom : Int → Nat → List Int
  | _, 0 => []
  | c, n + 1 => c :: upFrom (c + 1) n
theorem upFrom_length : ∀ (c : Int) (n : Nat), (upFrom c n).length = n
  | _, 0 => rfl
  | c, n + 1 => by rw [upFrom, List.length_cons, upFrom_length]
/-! ### sums -/
def sumZ : List Int → Int
  | [] => 0
  | x :: xs => x + sumZ xs
theorem inAll_cons {x : Int} {l : List Int} {a b : Int} : inAll (x :: l) a b = true ↔ (a ≤ x ∧ x ≤ b) ∧ inAll l a b = true := by unfold inAll; simp
theorem sumZ_bound : ∀ (l : List Int) {B : Int}, inAll l 0 B = true → 0 ≤ sumZ l
  | [], _, _ => by simp [sumZ]
  | x :: xs, B, h => by
    rw [inAll_cons] at h
    have := sumZ_bound xs h.2
    rw [sumZ]; omega
theorem sumZ_le : ∀ (l : List Int), inAll l 0 10000000 = true → sumZ l ≤ (l.length : Int) * 10000000
  | [], _ => by simp [sumZ]
  | x :: xs, h => by
    rw [inAll_cons] at h
    have := sumZ_le xs h.2
    rw [sumZ, List.length_cons]; omega
theorem inAll_mono {l : List Int} {a b c d : Int} (h : inAll l a b = true) (h1 : c ≤ a) (h2 : b ≤ d) : inAll l c d = true := by
  rw [inAll_iff] at h ⊢
  intro x hx
  have := h x hx
  omega
/-! ### a flow, a room -/
def flow (l : List Int) : Bool := decide (1 ≤ l.length ∧ l.length ≤ 8) && inAll l 1 30
def room (l : List Int) (a : Int) : Bool := flow l && (decide (8 ≤ a) && decide (a ≤ 1000))
theorem flow_iff {l : List Int} : flow l = true ↔ (1 ≤ l.length ∧ l.length ≤ 8) ∧ inAll l 1 30 = true := by unfold flow; simp
theorem room_iff {l : List Int} {a : Int} : room l a = true ↔ flow l = true ∧ (8 ≤ a ∧ a ≤ 1000) := by unfold room; simp
theorem sumZ_ge : ∀ (l : List Int) {B : Int}, inAll l 1 B = true → (l.length : Int) ≤ sumZ l
  | [], _, _ => by simp [sumZ]
  | x :: xs, B, h => by
    rw [inAll_cons] at h
    have := sumZ_ge xs h.2
    rw [sumZ, List.length_cons]; omega
/-- A share of a room, 1 at least. -/
def share (a all w : Int) : Int := if a * w / all = 0 then 1 else a * w / all
def parts (l : List Int) (a : Int) : List Int := l.map fun w => share a (sumZ l) w
/-! ### what places gain -/
def gains (a b c d : Int) : List Int := (upFrom 1 6).map fun n => wrap64 ((wrap64 (c * a)) - (wrap64 (Int.tdiv (wrap64 ((wrap64 ((wrap64 (d * b)) + n)) - 1)) n)))
/-! ### profiles -/
def zz : List Int → List Int → Bool
  | x :: xs, y :: ys => if ((x == 0) != (y == 0)) = true then false else zz xs ys
  | _, _ => true
def goodP (p f : List Int) : Bool := decide (p.length = f.length) && (decide (p.length ≤ 12) && (inAll p 0 10000 && (inAll f 0 10000000 && zz p f)))
end Go.Proofs.Ytdgpplnfkifkgaa.M
