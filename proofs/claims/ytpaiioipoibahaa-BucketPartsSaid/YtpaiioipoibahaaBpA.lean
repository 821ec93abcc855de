/- Lemmas about the evaluator of the code. -/
import Derived.Test.YtpaiioipoibahaaArgE
set_option linter.all false
set_option linter.deprecated false
set_option maxRecDepth 1000000
set_option maxHeartbeats 4000000
namespace Go.Proofs.TabA
open Go Go.Eng
theorem wib {n : Int} : inB (wi n 549755813888) 1099511627776 = true := inT.2 ⟨wi_nonneg (by omega), by have := wi_lt (n := n) (m := 549755813888) (by omega); omega⟩
theorem wrb {n m : Int} : wr .i64 (wi n 549755813888 + wi m 549755813888) = wi n 549755813888 + wi m 549755813888 := by
  have a := wi_nonneg (n := n) (m := 549755813888) (by omega)
  have b := wi_lt (n := n) (m := 549755813888) (by omega)
  have c := wi_nonneg (n := m) (m := 549755813888) (by omega)
  have d := wi_lt (n := m) (m := 549755813888) (by omega)
  exact wr64 (by omega) (by omega)
theorem wib2 {n m : Int} : inB (wr .i64 (wi n 549755813888 + wi m 549755813888)) 1099511627776 = true := by
  rw [wrb]
  have a := wi_nonneg (n := n) (m := 549755813888) (by omega)
  have b := wi_lt (n := n) (m := 549755813888) (by omega)
  have c := wi_nonneg (n := m) (m := 549755813888) (by omega)
  have d := wi_lt (n := m) (m := 549755813888) (by omega)
  exact inT.2 ⟨by omega, by omega⟩
theorem goBnd {l c f e d n : Int} (h : mayB l c f e d = true) (hn : inB n 1099511627776 = true) : l ≤ goL l c f e d n ∧ goL l c f e d n ≤ c ∧ 0 ≤ goD e d n ∧ goD e d n ≤ e - 1 := by
  obtain ⟨_, _, _, e4, e5, e6, e7⟩ := go_facts h hn
  rw [mayT] at h
  have h1 : 0 ≤ (d + n) % e := Int.emod_nonneg _ (by omega)
  have h2 : (d + n) % e < e := Int.emod_lt_of_pos _ (by omega)
  unfold goL goD
  split <;> omega
theorem goMay {l c f e d n : Int} (h : mayB l c f e d = true) (hn : inB n 1099511627776 = true) : mayB (goL l c f e d n) c f e (goD e d n) = true := by
  have hb := goBnd h hn
  rw [mayT] at h ⊢
  omega
theorem goMayw {l c f e d n : Int} (h : mayB l c f e d = true) : mayB (goL l c f e d (wi n 549755813888)) c f e (goD e d (wi n 549755813888)) = true := goMay h wib
/-- In two parts. -/
theorem go_two {l c f e d n k : Int} (h : mayB l c f e d = true) (hn : 0 ≤ n) (hk : 0 ≤ k) : goL (goL l c f e d n) c f e (goD e d n) k = goL l c f e d (n + k) ∧ goD e (goD e d n) k = goD e d (n + k) := by
  rw [mayT] at h
  have he : 0 < e := by omega
  have hq : (d + (n + k)) / e = (d + n) / e + ((d + n) % e + k) / e := by
    have h1 := Int.mul_ediv_add_emod (d + n) e
    have h2 : d + (n + k) = ((d + n) % e + k) + (d + n) / e * e := by
      have : e * ((d + n) / e) = (d + n) / e * e := Int.mul_comm ..
      omega
    rw [h2, Int.add_mul_ediv_right _ _ (by omega), Int.add_comm]
  have hr : ((d + n) % e + k) % e = (d + (n + k)) % e := by
    rw [Int.emod_add_emod, Int.add_assoc]
  refine ⟨?_, hr⟩
  have hk2 : 0 ≤ ((d + n) % e + k) / e := Int.ediv_nonneg (by have := Int.emod_nonneg (d + n) (b := e) (by omega); omega) (by omega)
  have hn2 : 0 ≤ (d + n) / e := Int.ediv_nonneg (by omega) (by omega)
  have hf2 : 0 ≤ f * (((d + n) % e + k) / e) := Int.mul_nonneg (by omega) hk2
  unfold goL goD
  rw [hq, Int.mul_add]
  generalize f * (((d + n) % e + k) / e) = u at *
  generalize f * ((d + n) / e) = v at *
  repeat' split
  all_goals omega
theorem go0 {l c f e d : Int} (h : mayB l c f e d = true) : goL l c f e d 0 = l ∧ goD e d 0 = d := by
  rw [mayT] at h
  unfold goL goD
  rw [Int.add_zero, Int.ediv_eq_zero_of_lt (by omega) (by omega), Int.mul_zero, Int.add_zero, Int.emod_eq_of_lt (by omega) (by omega)]
  exact ⟨by split <;> omega, rfl⟩
theorem eq5 {a b c f e g h : Int} (h1 : a = b) (h2 : g = h) : (a == b && (c == c && (f == f && (e == e && (g == h && true))))) = true := by subst h1 h2; simp
theorem parts_eq {l c f e d n m : Int} (h : mayB l c f e d = true) : (goL (goL l c f e d (wi n 549755813888)) c f e (goD e d (wi n 549755813888)) (wi m 549755813888) == goL l c f e d (wr .i64 (wi n 549755813888 + wi m 549755813888)) && (c == c && (f == f && (e == e && (goD e (goD e d (wi n 549755813888)) (wi m 549755813888) == goD e d (wr .i64 (wi n 549755813888 + wi m 549755813888)) && true))))) = true := by
  rw [wrb]
  obtain ⟨a, b⟩ := go_two h (n := wi n 549755813888) (k := wi m 549755813888) (wi_nonneg (by omega)) (wi_nonneg (by omega))
  exact eq5 a b
theorem parts_le {l c f e d n m : Int} (h : mayB l c f e d = true) : ¬ goL l c f e d (wr .i64 (wi n 549755813888 + wi m 549755813888)) > c := by
  have := goBnd h (n := wr .i64 (wi n 549755813888 + wi m 549755813888)) wib2; omega
theorem parts_ge {l c f e d n m : Int} (h : mayB l c f e d = true) : ¬ goL l c f e d (wr .i64 (wi n 549755813888 + wi m 549755813888)) < l := by
  have := goBnd h (n := wr .i64 (wi n 549755813888 + wi m 549755813888)) wib2; omega
theorem inb1 : inB 1 1099511627776 = true := by decide
theorem inbj {j : Nat} (h : (j : Int) ≤ 40) : inB (j : Int) 1099511627776 = true := inT.2 ⟨by omega, by omega⟩
end Go.Proofs.TabA
