/- The law's loop, round by round, and the arithmetic that it asks for, for all inputs of the law. -/
import Derived.Test.YtpaiioipoibahaaArgA
set_option linter.all false
set_option linter.deprecated false
set_option maxRecDepth 1000000
set_option maxHeartbeats 4000000
namespace Go.Proofs.TabA
open Go Go.Eng

/-! ## What a bucket does -/
theorem go_bounds {l c f e d n : Int} (h : mayB l c f e d = true) (hn : inB n 1099511627776 = true) : l ≤ goL l c f e d n ∧ goL l c f e d n ≤ c ∧ 0 ≤ goD e d n ∧ goD e d n ≤ e - 1 := by
  obtain ⟨_, _, _, e4, e5, e6, e7⟩ := go_facts h hn
  rw [mayT] at h
  have h1 : 0 ≤ (d + n) % e := Int.emod_nonneg _ (by omega)
  have h2 : (d + n) % e < e := Int.emod_lt_of_pos _ (by omega)
  unfold goL goD
  split <;> omega
theorem go_may {l c f e d n : Int} (h : mayB l c f e d = true) (hn : inB n 1099511627776 = true) : mayB (goL l c f e d n) c f e (goD e d n) = true := by
  have hb := go_bounds h hn
  rw [mayT] at h ⊢
  omega
theorem go_zero {l c f e d : Int} (h : mayB l c f e d = true) : goL l c f e d 0 = l := by
  rw [mayT] at h
  unfold goL
  rw [Int.add_zero, Int.ediv_eq_zero_of_lt (by omega) (by omega), Int.mul_zero, Int.add_zero]
  split <;> omega
theorem go_never {l c f e d n q : Int} (h : mayB l c f e d = true) (hn : inB n 1099511627776 = true) (hq : l < q) (h' : q > c ∨ f = 0) : goL l c f e d n < q := by
  have hb := go_bounds h hn
  rcases h' with h' | h'
  · omega
  · subst h'
    rw [mayT] at h
    unfold goL
    rw [Int.zero_mul, Int.add_zero]
    split <;> omega
theorem wait_spec {l c f e d q : Int} (h : mayB l c f e d = true) (hq : l < q) (hc : q ≤ c) (hf : f ≠ 0) :
    1 ≤ waitV l f e d q ∧ waitV l f e d q ≤ 2097152 * 1048576 ∧ q ≤ goL l c f e d (waitV l f e d q) ∧ goL l c f e d (waitV l f e d q - 1) < q := by
  rw [mayT] at h
  have h0 : 0 ≤ q - l + f - 1 := by omega
  have hk1 : 1 ≤ (q - l + f - 1) / f := by rw [Int.le_ediv_iff_mul_le (by omega)]; omega
  have hk2 : (q - l + f - 1) / f ≤ q - l + f - 1 := Int.ediv_le_self _ h0
  have hm := Int.mul_ediv_add_emod (q - l + f - 1) f
  have hr0 := Int.emod_nonneg (q - l + f - 1) (b := f) (by omega)
  have hr1 := Int.emod_lt_of_pos (q - l + f - 1) (b := f) (by omega)
  unfold waitV goL
  generalize (q - l + f - 1) / f = k at *
  have hke : e ≤ k * e := by have := Int.mul_le_mul_of_nonneg_right hk1 (show 0 ≤ e by omega); omega
  have hke2 : k * e ≤ 2097152 * 1048576 := Int.mul_le_mul (by omega) (by omega) (by omega) (by omega)
  have e1 : d + (k * e - d) = k * e := by omega
  have e2 : (k * e) / e = k := Int.mul_ediv_cancel _ (by omega)
  have e3 : (d + (k * e - d - 1)) / e = k - 1 := by
    have : d + (k * e - d - 1) = (e - 1) + (k - 1) * e := by rw [Int.sub_mul]; omega
    rw [this, Int.add_mul_ediv_right _ _ (by omega), Int.ediv_eq_zero_of_lt (by omega) (by omega), Int.zero_add]
  rw [e1, e2, e3]
  have hfk : f * (k - 1) = f * k - f := by rw [Int.mul_sub, Int.mul_one]
  rw [hfk]
  refine ⟨by omega, by omega, ?_, ?_⟩
  · split <;> omega
  · split <;> omega

/-! ## The law's loop -/
section
variable (l c f e d : Int) (nl : Bool) (n cap : Nat) (x0 x1 x2 x3 : List Int)
abbrev ob8 : List AObj := [.ro nl n [.ci .i64 x0, .ci .i64 x1, .ci .i64 x2, .ci .i64 x3], .own 51 6 [iv l, iv c, iv f, iv e, iv d, .sl 0 0 n (some cap)]]
abbrev ar8 : List AV := [.agg [iv l, iv c, iv f, iv e, iv d, .sl 0 0 n (some cap)]]
noncomputable abbrev V := Option (St3 ⊕ (AV ⊕ Stop))
noncomputable def WL (b : Bool) (t e : V) : V := bif2 b t e
theorem WL_eq (b : Bool) (t e : V) : WL b t e = if b = true then t else e := bif2_eq b t e
abbrev bad : V := some (.inr (.inl (.b false)))
abbrev good : V := some (.inr (.inl (.b true)))
noncomputable abbrev ag8 (i : Int) : V := some (.inl ([.ptr 1 0 0, iv (wr .i64 (i + 1))], 1, ob8 l c f e d nl n cap x0 x1 x2 x3))
noncomputable def gd (b : Bool) (t : V) : V := bif2 b t bad
theorem gd_t {b : Bool} {t : V} (h : b = true) : gd b t = t := by unfold gd; rw [bif2_eq, if_pos h]
noncomputable def nv8 (A : V) (l c f e d q : Int) : V := gd (mayB l c f e d) (gd (mayB (goL l c f e d 1099511627776) c f e (goD e d 1099511627776)) (gd (inB q 1048576) (WL (decide (goL l c f e d 1099511627776 < q)) A bad)))
noncomputable def ls8 (A : V) (l c f e d q w : Int) : V := gd (mayB l c f e d) (gd (inB w 1099511627776) (gd (mayB (goL l c f e d w) c f e (goD e d w)) (gd (inB q 1048576) (WL (decide (goL l c f e d w < q)) A bad))))
noncomputable def aw8 (l c f e d q w : Int) (t : V) : V := gd (mayB l c f e d) (gd (inB w 1099511627776) (gd (mayB (goL l c f e d w) c f e (goD e d w)) (gd (inB q 1048576) (WL (decide (goL l c f e d w < q)) bad (WL (goL l c f e d w - q != wr .i64 (goL l c f e d w - q)) bad t)))))
noncomputable def x8 (A : V) (l c f e d q : Int) : V := gd (mayB l c f e d) (gd (mayB (goL l c f e d 0) c f e (goD e d 0)) (gd (inB q 1048576) (WL (decide (goL l c f e d 0 < q)) bad (WL (goL l c f e d 0 - q != wr .i64 (goL l c f e d 0 - q)) bad A))))
noncomputable def y8 (A : V) (l c f e d q w : Int) : V := WL (decide (w < -1)) bad (WL (w == -1) (nv8 A l c f e d q) (WL (decide (w > 1099511627776)) A (aw8 l c f e d q w (WL (decide (w > 0)) (ls8 A l c f e d q (wr .i64 (w - 1))) A))))
noncomputable def in8 (A : V) (l c f e d q : Int) : V :=
  WL (decide (q > 1048576)) A (gd (mayB l c f e d) (gd (inB q 1048576) (WL (decide (q ≤ l)) (x8 A l c f e d q) (WL (decide (q > c ∨ f = 0)) (nv8 A l c f e d q) (y8 A l c f e d q (waitV l f e d q))))))
theorem run8 (i : Int) : (lawL S2 (fi8 false) 1 [1,1,0,1,0] 2 (ar8 l c f e d n cap) ([.ptr 1 0 0, iv i], 1, ob8 l c f e d nl n cap x0 x1 x2 x3)).runV oc2 =
    WL (decide (i < (n : Int)) == true) (WL (decide (i < 20)) (WL (decide (0 ≤ i)) (WL (decide (i < (n : Int))) (WL (Nat.blt (0 + i.toNat) n) (WL (decide (i.tmod 3 > 0))
      (WL (decide (0 < wr .i64 (c + 2) ∧ wr .i64 (c + 2) < 9223372036854775808)) (in8 (ag8 l c f e d nl n cap x0 x1 x2 x3 i) l c f e d (wi (wi (x1.getD (0 + i.toNat) 0) 1048577) (wr .i64 (c + 2)))) none)
      (in8 (ag8 l c f e d nl n cap x0 x1 x2 x3 i) l c f e d (wi (x1.getD (0 + i.toNat) 0) 1048577))) none) none) none) good) good := by kernel_rfl
variable {l c f e d nl n cap x0 x1 x2 x3}
theorem in8_ok (A : V) {l c f e d q : Int} (hm : mayB l c f e d = true) (hq : 0 ≤ q) : in8 A l c f e d q = A := by
  have hmm := mayT.1 hm
  unfold in8
  rw [WL_eq]
  split
  · rfl
  rename_i hq1
  have hq1 : q ≤ 1048576 := by simpa using hq1
  have hqB : inB q 1048576 = true := inT.2 ⟨hq, hq1⟩
  have hbB : inB (1099511627776 : Int) 1099511627776 = true := inT.2 ⟨by omega, by omega⟩
  have h0B : inB (0 : Int) 1099511627776 = true := inT.2 ⟨by omega, by omega⟩
  rw [gd_t hm, gd_t hqB, WL_eq]
  split
  · rename_i hl
    have hl := of_decide_eq_true hl
    unfold x8
    rw [gd_t hm, gd_t (go_may hm h0B), gd_t hqB, go_zero hm, WL_eq, if_neg (by simp; omega), WL_eq, wr64 (by omega) (by omega), if_neg (by simp)]
  · rename_i hl
    have hl : l < q := by simpa using hl
    rw [WL_eq]
    split
    · rename_i hc
      have hc := of_decide_eq_true hc
      unfold nv8
      rw [gd_t hm, gd_t (go_may hm hbB), gd_t hqB, WL_eq, if_pos (decide_eq_true (go_never hm hbB hl hc))]
    · rename_i hc
      have hc : ¬ (q > c ∨ f = 0) := fun h => hc (decide_eq_true h)
      obtain ⟨w1, w2, w3, w4⟩ := wait_spec hm hl (by omega) (fun h => hc (.inr h))
      unfold y8
      rw [WL_eq, if_neg (by simp; omega), WL_eq, if_neg (by simp; omega), WL_eq]
      split
      · rfl
      rename_i hw
      have hw : waitV l f e d q ≤ 1099511627776 := by simpa using hw
      have hwB : inB (waitV l f e d q) 1099511627776 = true := inT.2 ⟨by omega, hw⟩
      have hb := go_bounds hm hwB
      have hwB1 : inB (waitV l f e d q - 1) 1099511627776 = true := inT.2 ⟨by omega, by omega⟩
      unfold aw8
      rw [gd_t hm, gd_t hwB, gd_t (go_may hm hwB), gd_t hqB, WL_eq, if_neg (by simp; omega), WL_eq, wr64 (n := goL l c f e d (waitV l f e d q) - q) (by omega) (by omega), if_neg (by simp), WL_eq]
      split
      · unfold ls8
        rw [wr64 (n := waitV l f e d q - 1) (by omega) (by omega), gd_t hm, gd_t hwB1, gd_t (go_may hm hwB1), gd_t hqB, WL_eq, if_pos (decide_eq_true w4)]
      · rfl
def Inv8 (l c f e d : Int) (nl : Bool) (n cap : Nat) (x0 x1 x2 x3 : List Int) (m : Nat) (s : St3) : Prop := ∃ i : Int, 0 ≤ i ∧ i ≤ 20 ∧ m = (20 - i).toNat ∧ s = ([.ptr 1 0 0, iv i], 1, ob8 l c f e d nl n cap x0 x1 x2 x3)
theorem step8 (hm : mayB l c f e d = true) (m : Nat) (s : St3) (hi : Inv8 l c f e d nl n cap x0 x1 x2 x3 m s) :
    H (lawL S2 (fi8 false) 1 [1,1,0,1,0] 2 (ar8 l c f e d n cap) s) (OkS (fun s' => ∃ m', m' < m ∧ Inv8 l c f e d nl n cap x0 x1 x2 x3 m' s') (OkY (fun y : AV × Mem => y.1 = .b true) (fun _ => False))) (fun _ _ => False) := by
  obtain ⟨i, h0, h20, hmi, rfl⟩ := hi
  have hmm := mayT.1 hm
  refine lawL_H (run8 l c f e d nl n cap x0 x1 x2 x3 i) ?_
  have hg : ∃ b, good = some b ∧ OkL (fun s' => ∃ m', m' < m ∧ Inv8 l c f e d nl n cap x0 x1 x2 x3 m' s') (fun _ => False) b := ⟨_, rfl, rfl⟩
  rw [WL_eq]
  split
  · rename_i hn
    have hn : i < (n : Int) := by simpa using hn
    rw [WL_eq]
    split
    · rename_i h2
      have h2 : i < 20 := of_decide_eq_true h2
      have hlt : (20 - (i + 1)).toNat < m := by omega
      have ha : ∃ b, ag8 l c f e d nl n cap x0 x1 x2 x3 i = some b ∧ OkL (fun s' => ∃ m', m' < m ∧ Inv8 l c f e d nl n cap x0 x1 x2 x3 m' s') (fun _ => False) b :=
        ⟨_, rfl, (20 - (i + 1)).toNat, hlt, i + 1, by omega, by omega, rfl, by rw [wr64 (by omega) (by omega)]⟩
      rw [WL_eq, if_pos (decide_eq_true h0), WL_eq, if_pos (decide_eq_true hn), WL_eq, if_pos (by simp [Nat.blt_eq]; omega), wr64 (n := c + 2) (by omega) (by omega), WL_eq]
      split
      · rw [WL_eq, if_pos (decide_eq_true (by omega)), in8_ok _ hm (wi_nonneg (by omega))]; exact ha
      · rw [in8_ok _ hm (wi_nonneg (by omega))]; exact ha
    · exact hg
  · exact hg
theorem law8 (M : Mem) (hM : M = memL 1 [.ro nl n [.ci .i64 x0, .ci .i64 x1, .ci .i64 x2, .ci .i64 x3]]) : H (ev S2 5 8 (ar8 l c f e d n cap) M) (fun x => x.1 = .b true) (fun _ _ => False) := by
  subst hM
  have e0 : (lawE S2 (fi8 false) (ar8 l c f e d n cap) (memL 1 [.ro nl n [.ci .i64 x0, .ci .i64 x1, .ci .i64 x2, .ci .i64 x3]])).runV oc =
    bif2 (!mayB l c f e d) (some (.inl (.b true))) (some (.inr ([0, 1, 0, 1, 1], 2, [.ptr 1 0 0, iv 0], 1, ob8 l c f e d nl n cap x0 x1 x2 x3))) := by kernel_rfl
  cases hm : mayB l c f e d with
  | true =>
    refine law1 (fi := fi8 false) (by kernel_rfl) (by kernel_rfl) (by kernel_rfl) rfl [0, 1, 0, 1, 1] 2 1 rfl (by kernel_rfl) (Inv8 l c f e d nl n cap x0 x1 x2 x3) ?_ (step8 hm)
    refine lawE_H e0 ?_
    rw [bif2_eq, hm, if_neg (by simp)]
    exact ⟨_, rfl, rfl, rfl, 20, by omega, 0, by omega, by omega, rfl, rfl⟩
  | false =>
    refine law1 (fi := fi8 false) (by kernel_rfl) (by kernel_rfl) (by kernel_rfl) rfl [0, 1, 0, 1, 1] 2 1 rfl (by kernel_rfl) (fun _ _ => False) ?_ (fun _ _ h => h.elim)
    refine lawE_H e0 ?_
    rw [bif2_eq, hm, if_pos (by simp)]
    exact ⟨_, rfl, rfl⟩
end
end Go.Proofs.TabA
