/- Floats from 0 to 1: what is asked of a health that is noted again and again; each lemma names its conditions. -/
import Derived.Test.YtiokhipgpfeoeaaWinH
import Derived.Test.YtiokhipgpfeoeaaEngMc
import Derived.Test.YtiokhipgpfeoeaaArgFH
set_option linter.all false
set_option linter.deprecated false
set_option maxRecDepth 1000000
set_option maxHeartbeats 4000000
namespace Go.Proofs.TabH
open Go Go.Eng
theorem weight1 : weightO 4607182418800017408 = true := by rw [weightO_eq]; decide +kernel
theorem weight10 : weightO 4562146422526312448 = true := by rw [weightO_eq]; decide +kernel
section
variable {y x w : Nat} {c : Int} (hy : y < 18446744073709551616) (hx : x < 18446744073709551616) (hh : healthO y c = true) (hw : weightO w = true)
include hy hx hh hw
theorem nt_lt : noteO y c x w < 18446744073709551616 := noteO_lt hy hx hh hw
theorem nt_h : healthO (noteO y c x w) (noteC c x) = true := health_note hy hx hh hw
theorem nt_unit (hn : (FO x x == some .eq) = true) : noteO y c x w ≤ f1W := by
  have hn : nanW x = false := isnum_of hn
  have hcn := note_cnt (c := c) hn
  obtain ⟨k1, k2, _⟩ := health_of.1 hh
  refine (health_unit (nt_lt hy hx hh hw) (nt_h hy hx hh hw) ?_).2
  rw [← hcn]; split <;> omega
theorem nt_ge (hn : (FO x x == some .eq) = true) : (FO (noteO y c x w) 0 == some Ordering.gt || FO (noteO y c x w) 0 == some Ordering.eq) = true := by
  have hu := nt_unit hy hx hh hw hn
  have h1 : f1W = 4607182418800017408 := rfl
  show (fo (noteO y c x w) 0 == some .gt || fo (noteO y c x w) 0 == some .eq) = true
  rw [unit_zero hu, fo_gt (by omega) (by omega)]
  simp; omega
theorem fo_eqP {a b : Nat} (ha : a < 9218868437227405312) (hb : b < 9218868437227405312) : (fo a b == some .eq) = decide (a = b) := by
  rw [fo_pos ha hb]
  rcases Nat.lt_trichotomy a b with h | h | h
  · rw [Nat.compare_eq_lt.2 h, decide_eq_false (by omega)]; rfl
  · subst h; rw [cmp_selfN, decide_eq_true rfl]; rfl
  · rw [Nat.compare_eq_gt.2 h, decide_eq_false (by omega)]; rfl
theorem nt_le (hn : (FO x x == some .eq) = true) : (FO (noteO y c x w) 4607182418800017408 == some Ordering.lt || FO (noteO y c x w) 4607182418800017408 == some Ordering.eq) = true := by
  have hu := nt_unit hy hx hh hw hn
  have h1 : f1W = 4607182418800017408 := rfl
  show (fo (noteO y c x w) 4607182418800017408 == some .lt || fo (noteO y c x w) 4607182418800017408 == some .eq) = true
  rw [fo_lt (by omega) (by omega), fo_eqP hy hx hh hw (by omega) (by omega)]
  simp; omega
theorem nt_u (hn : (FO x x == some .eq) = true) : ¬ uI (noteO y c x w) = 9223372036854775808 := by
  have hu := nt_unit hy hx hh hw hn
  have h1 : f1W = 4607182418800017408 := rfl
  rw [uI_eq]; omega
theorem nt_c (hc : c ≤ 20) (hn : (FO x x == some .eq) = true) : noteC c x = wr .i64 (c + 1) := by
  have hn : nanW x = false := isnum_of hn
  obtain ⟨k1, k2, _⟩ := health_of.1 hh
  rw [← note_cnt (c := c) hn, wr64 (by omega) (by omega)]
  split <;> omega
theorem nt_cle {i : Int} (hc : c ≤ i) : noteC c x ≤ i + 1 := by
  cases hn : nanW x with
  | true => rw [noteC_eq]; unfold noteN; rw [if_pos hn]; omega
  | false => rw [← note_cnt (c := c) hn]; split <;> omega
theorem nn_c (hn : (FO x x == some .eq) = false) : noteC c x = c := ((note_nan (s := y) (w := w) (isnan_of hn)).2).symm
theorem nn_n (hn : (FO x x == some .eq) = false) : noteO y c x w = y := ((note_nan (s := y) (w := w) (isnan_of hn)).1).symm
end
end Go.Proofs.TabH
