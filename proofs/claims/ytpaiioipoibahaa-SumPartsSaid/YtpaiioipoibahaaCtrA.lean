/- What each small function answers, proved by the evaluator for all arguments that its contract names. -/
import Derived.Test.YtpaiioipoibahaaTabB
set_option linter.all false
set_option linter.deprecated false
set_option maxRecDepth 1000000
set_option maxHeartbeats 4000000
namespace Go.Proofs.TabA
open Go Go.Eng

/-! ## Numbers -/
theorem wr64 {n : Int} (h : -9223372036854775808 ≤ n) (h' : n < 9223372036854775808) : wr .i64 n = n := by
  show wrapS 18446744073709551616 9223372036854775808 n = n
  unfold wrapS
  cases hd : decide ((9223372036854775808 : Int) ≤ n % 18446744073709551616) with
  | true => have := of_decide_eq_true hd; show n % 18446744073709551616 - 18446744073709551616 = n; omega
  | false => have := of_decide_eq_false hd; show n % 18446744073709551616 = n; omega
theorem wru64 (n : Int) : wr .u64 n = n % 18446744073709551616 := rfl
theorem mayT {l c f e d : Int} : mayB l c f e d = true ↔ (0 ≤ c ∧ c ≤ 1048576 ∧ 0 ≤ f ∧ f ≤ 1048576 ∧ 0 ≤ l ∧ l ≤ c ∧ 1 ≤ e ∧ e ≤ 1048576 ∧ 0 ≤ d ∧ d ≤ e - 1) := by simp [mayB]
theorem mayF {l c f e d : Int} : mayB l c f e d = false ↔ ¬ (0 ≤ c ∧ c ≤ 1048576 ∧ 0 ≤ f ∧ f ≤ 1048576 ∧ 0 ≤ l ∧ l ≤ c ∧ 1 ≤ e ∧ e ≤ 1048576 ∧ 0 ≤ d ∧ d ≤ e - 1) := by simp [mayB]
def goL (l c f e d n : Int) : Int := if l + f * ((d + n) / e) < c then l + f * ((d + n) / e) else c
def goD (e d n : Int) : Int := (d + n) % e
def waitV (l f e d n : Int) : Int := (n - l + f - 1) / f * e - d
def inB (n m : Int) : Bool := decide (0 ≤ n ∧ n ≤ m)
theorem inT {n m : Int} : inB n m = true ↔ 0 ≤ n ∧ n ≤ m := by simp [inB]
theorem inF {n m : Int} : inB n m = false ↔ ¬ (0 ≤ n ∧ n ≤ m) := by simp [inB]
def wi (n m : Int) : Int := (n % 18446744073709551616) % m
theorem wi_nonneg {n m : Int} (h : 0 < m) : 0 ≤ wi n m := Int.emod_nonneg _ (by omega)
theorem wi_lt {n m : Int} (h : 0 < m) : wi n m < m := Int.emod_lt_of_pos _ h

theorem go_facts {l c f e d n : Int} (h : mayB l c f e d = true) (hn : inB n 1099511627776 = true) :
    wr .i64 (d + n) = d + n ∧ (d + n).tdiv e = (d + n) / e ∧ (d + n).tmod e = (d + n) % e ∧ 0 ≤ (d + n) / e ∧ (d + n) / e ≤ d + n ∧ 0 ≤ f * ((d + n) / e) ∧ f * ((d + n) / e) ≤ 1048576 * 1099512676352 := by
  rw [mayT] at h
  rw [inT] at hn
  have h0 : 0 ≤ d + n := by omega
  have h1 : 0 ≤ (d + n) / e := Int.ediv_nonneg h0 (by omega)
  have h2 : (d + n) / e ≤ d + n := Int.ediv_le_self _ h0
  have h3 : f * ((d + n) / e) ≤ 1048576 * 1099512676352 := Int.mul_le_mul (by omega) (by omega) h1 (by omega)
  exact ⟨wr64 (by omega) (by omega), Int.tdiv_eq_ediv_of_nonneg h0, Int.tmod_eq_emod_of_nonneg h0, h1, h2, Int.mul_nonneg (by omega) h1, h3⟩
theorem wait_facts {l c f e d n : Int} (h : mayB l c f e d = true) (hn : inB n 1048576 = true) (hl : ¬ l ≥ n) (hf : ¬ f = 0) :
    wr .i64 (wr .i64 (wr .i64 ((wr .i64 (wr .i64 (wr .i64 (n - l) + f) - 1)).tdiv f) * e) - d) = waitV l f e d n := by
  rw [mayT] at h
  rw [inT] at hn
  rw [wr64 (n := n - l) (by omega) (by omega), wr64 (n := n - l + f) (by omega) (by omega), wr64 (n := n - l + f - 1) (by omega) (by omega)]
  have h0 : 0 ≤ n - l + f - 1 := by omega
  have h1 : 0 ≤ (n - l + f - 1) / f := Int.ediv_nonneg h0 (by omega)
  have h2 : (n - l + f - 1) / f ≤ n - l + f - 1 := Int.ediv_le_self _ h0
  rw [Int.tdiv_eq_ediv_of_nonneg h0, wr64 (n := (n - l + f - 1) / f) (by omega) (by omega)]
  have h3 : (n - l + f - 1) / f * e ≤ 2097152 * 1048576 := Int.mul_le_mul (by omega) (by omega) (by omega) (by omega)
  have h4 : 0 ≤ (n - l + f - 1) / f * e := Int.mul_nonneg h1 (by omega)
  rw [wr64 (n := (n - l + f - 1) / f * e) (by omega) (by omega), wr64 (by omega) (by omega)]
  rfl

/-! ## Contracts -/
abbrev ok (x : AV) : AV := .tup [x, iv 0]
theorem plain_ag (l c f e d : Int) : plain1 (ag l c f e d) = true := rfl
noncomputable def g18 : List AV → T AV
  | [.i .i64 n, .i .i64 m] => .br (decide (0 < m ∧ m < 9223372036854775808)) (.ret (iv (wi n m))) .fail
  | _ => .fail
noncomputable def g29 : List AV → T AV
  | [.agg [.i .i64 l, .i .i64 c, .i .i64 f, .i .i64 e, .i .i64 d]] => .ret (.b (mayB l c f e d))
  | _ => .fail
noncomputable def g30 : List AV → T AV
  | [.agg [.i .i64 l, .i .i64 c, .i .i64 f, .i .i64 e, .i .i64 d], .i .i64 n] => .br (mayB l c f e d) (.br (inB n 1099511627776) (.ret (.tup [ag (goL l c f e d n) c f e (goD e d n), iv 0])) (.ret (.tup [ag0, iv 1]))) (.ret (.tup [ag0, iv 1]))
  | _ => .fail
noncomputable def g33 : List AV → T AV
  | [.agg [.i .i64 l, .i .i64 c, .i .i64 f, .i .i64 e, .i .i64 d], .i .i64 n] => .br (mayB l c f e d) (.br (inB n 1048576) (.br (decide (n ≤ l)) (.ret (.tup [iv 0, iv 0])) (.br (decide (n > c ∨ f = 0)) (.ret (.tup [iv (-1), iv 0])) (.ret (.tup [iv (waitV l f e d n), iv 0])))) (.ret (.tup [iv 0, iv 1]))) (.ret (.tup [iv 0, iv 1]))
  | _ => .fail
noncomputable def g34 : List AV → T AV
  | [.agg [.i .i64 l, .i .i64 c, .i .i64 f, .i .i64 e, .i .i64 d], .i .i64 n] => .br (mayB l c f e d) (.br (inB n 1048576) (.br (decide (l < n)) (.ret (.tup [ag0, iv 9])) (.ret (.tup [ag (l - n) c f e d, iv 0]))) (.ret (.tup [ag0, iv 1]))) (.ret (.tup [ag0, iv 1]))
  | _ => .fail
noncomputable def g35 : List AV → T AV
  | [.i .i64 c, .i .i64 f, .i .i64 e] => .br (mayB c c f e 0) (.ret (.tup [ag c c f e 0, iv 0])) (.ret (.tup [ag0, iv 1]))
  | _ => .fail
noncomputable def g36 : List AV → T AV
  | [.agg [.i .i64 l, .i .i64 c, .i .i64 f, .i .i64 e, .i .i64 d]] => .br (mayB l c f e d) (.ret (iv 0)) (.ret (iv 1))
  | _ => .fail
noncomputable def g38 : List AV → T AV
  | [.agg [.i .i64 l, .i .i64 c, .i .i64 f, .i .i64 e, .i .i64 d], .i .i64 n] => .br (mayB l c f e d) (.br (inB n 1048576) (.br (decide (l < n)) (.ret (.tup [ag l c f e d, .b false])) (.ret (.tup [ag (l - n) c f e d, .b true]))) .fail) .fail
  | _ => .fail
noncomputable def g39 : List AV → T AV
  | [.agg [.i .i64 l, .i .i64 c, .i .i64 f, .i .i64 e, .i .i64 d], .i .i64 n] => .br (mayB l c f e d) (.br (inB n 1048576) (.br (decide (n ≤ l)) (.ret (iv 0)) (.br (decide (n > c ∨ f = 0)) (.ret (iv (-1))) (.ret (iv (waitV l f e d n))))) .fail) .fail
  | _ => .fail
noncomputable def g40 : List AV → T AV
  | [.agg [.i .i64 l, .i .i64 c, .i .i64 f, .i .i64 e, .i .i64 d], .i .i64 n] => .br (mayB l c f e d) (.br (inB n 1099511627776) (.ret (ag (goL l c f e d n) c f e (goD e d n))) .fail) .fail
  | _ => .fail

/-- A contract by what its run comes to. -/
def Ctr (S : Sp) (n : Nat) (g : List AV → T AV) : Prop := ∀ args Q, (g args).holds Q (fun _ _ => False) → args.all plain1 = true ∧ H (ev S 5 n args mem0) (fun x => plainA x.1 = true ∧ Q x.1) (fun _ _ => False)
noncomputable abbrev W (b : Bool) (t e : Option AV) : Option AV := bif2 b t e
abbrev so (x : AV) : Option AV := some x
theorem leaf_ok {Q : AV → Prop} {x y : AV} (hq : Q y) (e : x = y) (hp : plainA x = true) : ∃ b, some x = some b ∧ plainA b = true ∧ Q b := ⟨x, rfl, hp, e ▸ hq⟩
theorem ctr_run {x : T (AV × Mem)} {v : Option AV} {Q : AV → Prop} {Qp : AV → Mem → Prop} (h : x.runV Prod.fst = v) (hq : ∃ b, v = some b ∧ plainA b = true ∧ Q b) : H x (fun y => plainA y.1 = true ∧ Q y.1) Qp := H.run (f := Prod.fst) (Q := fun y => plainA y = true ∧ Q y) h hq
theorem c18 : Ctr S0 18 g18 := by
  intro args Q h
  unfold g18 at h
  split at h
  · rename_i n m
    obtain ⟨h1, h⟩ := br_ok h
    obtain ⟨h1, hr⟩ := of_decide_eq_true h1
    refine ⟨rfl, ctr_run (v := W (wr IntKind.u64 m == 0) none (so (iv (wr IntKind.i64 ((wr IntKind.u64 n).tmod (wr IntKind.u64 m)))))) ?_ ?_⟩
    · kernel_rfl
    rw [wru64 m, Int.emod_eq_of_lt (by omega) (by omega)]
    simp only [bif2_eq, beq_iff_eq]
    rw [if_neg (by omega)]
    refine leaf_ok h (congrArg iv ?_) rfl
    rw [wru64, Int.tmod_eq_emod_of_nonneg (Int.emod_nonneg _ (by omega))]
    have h2 := wi_nonneg (n := n) h1
    have h3 := wi_lt (n := n) h1
    exact wr64 (by unfold wi at *; omega) (by unfold wi at *; omega)
  · exact h.elim
theorem c53 : Ctr S0 53 g29 := by
  intro args Q h
  unfold g29 at h
  split at h
  · rename_i l c f e d
    refine ⟨rfl, ctr_run (v := W (decide (c ≥ 0) == true) (W (decide (c ≤ 1048576) == true) (W (decide (f ≥ 0) == true) (W (decide (f ≤ 1048576) == true) (W (decide (l ≥ 0) == true) (W (decide (l ≤ c) == true) (W (decide (e ≥ 1) == true) (W (decide (e ≤ 1048576) == true)
      (W (decide (d ≥ 0) == true) (so (.b (decide (d ≤ wr IntKind.i64 (e - 1))))) (so (.b false))) (so (.b false))) (so (.b false))) (so (.b false))) (so (.b false))) (so (.b false))) (so (.b false))) (so (.b false))) (so (.b false))) ?_ ?_⟩
    · kernel_rfl
    have key : ∀ b : Bool, b = mayB l c f e d → ∃ x, some (AV.b b) = some x ∧ plainA x = true ∧ Q x := fun b e => leaf_ok h (congrArg AV.b e) rfl
    simp only [bif2_eq, beq_iff_eq, decide_eq_true_eq]
    repeat' split
    · refine key _ ?_
      rw [wr64 (by omega) (by omega)]
      exact decide_eq_decide.2 (by omega)
    all_goals exact key _ (mayF.2 (by omega)).symm
  · exact h.elim
theorem c29 : Ctr S0 29 g29 := by
  intro args Q h
  unfold g29 at h
  split at h
  · rename_i l c f e d
    refine ⟨rfl, ctr_run (v := W (decide (c ≥ 0) == true) (W (decide (c ≤ 1048576) == true) (W (decide (f ≥ 0) == true) (W (decide (f ≤ 1048576) == true) (W (decide (l ≥ 0) == true) (W (decide (l ≤ c) == true) (W (decide (e ≥ 1) == true) (W (decide (e ≤ 1048576) == true)
      (W (decide (d ≥ 0) == true) (so (.b (decide (d ≤ wr IntKind.i64 (e - 1))))) (so (.b false))) (so (.b false))) (so (.b false))) (so (.b false))) (so (.b false))) (so (.b false))) (so (.b false))) (so (.b false))) (so (.b false))) ?_ ?_⟩
    · kernel_rfl
    have key : ∀ b : Bool, b = mayB l c f e d → ∃ x, some (AV.b b) = some x ∧ plainA x = true ∧ Q x := fun b e => leaf_ok h (congrArg AV.b e) rfl
    simp only [bif2_eq, beq_iff_eq, decide_eq_true_eq]
    repeat' split
    · refine key _ ?_
      rw [wr64 (by omega) (by omega)]
      exact decide_eq_decide.2 (by omega)
    all_goals exact key _ (mayF.2 (by omega)).symm
  · exact h.elim
noncomputable def S1 : Sp := fun n => bif2 (Nat.beq n 53) (some (treeS g29)) none
theorem c30 : Ctr S1 30 g30 := by
  intro args Q h
  unfold g30 at h
  split at h
  · rename_i l c f e d n
    refine ⟨rfl, ctr_run (v := W ((!mayB l c f e d) == false) (W (decide (n ≥ 0) == true) (W (!decide (n ≤ 1099511627776)) (so (.tup [ag0, iv 1])) (W (e == 0) none (W (e == 0) none (so (.tup [ag (if wr IntKind.i64 (l + wr IntKind.i64 (f * wr IntKind.i64 ((wr IntKind.i64 (d + n)).tdiv e))) < c then
            wr IntKind.i64 (l + wr IntKind.i64 (f * wr IntKind.i64 ((wr IntKind.i64 (d + n)).tdiv e))) else c) c f e ((wr IntKind.i64 (d + n)).tmod e), iv 0]))))) (so (.tup [ag0, iv 1]))) (so (.tup [ag0, iv 1]))) ?_ ?_⟩
    · kernel_rfl
    obtain ⟨hT, hF⟩ := h
    cases hm : mayB l c f e d with
    | false =>
      simp only [bif2_eq, hm]
      exact leaf_ok (hF hm) rfl rfl
    | true =>
      obtain ⟨hT, hF⟩ := hT hm
      have hmm := mayT.1 hm
      simp only [bif2_eq, beq_iff_eq, Bool.not_true, if_true]
      cases hn : inB n 1099511627776 with
      | false =>
        have hnn := inF.1 hn
        simp only [decide_eq_true_eq, Bool.not_eq_true', decide_eq_false_iff_not]
        split
        · rw [if_pos (by omega)]; exact leaf_ok (hF hn) rfl rfl
        · exact leaf_ok (hF hn) rfl rfl
      | true =>
        have hnn := inT.1 hn
        obtain ⟨e1, e2, e3, e4, e5, e6, e7⟩ := go_facts hm hn
        simp only [decide_eq_true_eq, Bool.not_eq_true', decide_eq_false_iff_not]
        rw [if_pos (by omega), if_neg (by omega), if_neg (by omega), if_neg (by omega), e1, e2, e3, wr64 (n := (d + n) / e) (by omega) (by omega), wr64 (n := f * ((d + n) / e)) (by omega) (by omega), wr64 (n := l + f * ((d + n) / e)) (by omega) (by omega)]
        exact leaf_ok (hT hn) rfl rfl
  · exact h.elim
theorem c40 : Ctr S0 40 g40 := by
  intro args Q h
  unfold g40 at h
  split at h
  · rename_i l c f e d n
    refine ⟨rfl, ctr_run (v := W (e == 0) none (W (e == 0) none (so (ag (if wr IntKind.i64 (l + wr IntKind.i64 (wr IntKind.i64 ((wr IntKind.i64 (d + n)).tdiv e) * f)) < c then
            wr IntKind.i64 (l + wr IntKind.i64 (wr IntKind.i64 ((wr IntKind.i64 (d + n)).tdiv e) * f)) else c) c f e ((wr IntKind.i64 (d + n)).tmod e))))) ?_ ?_⟩
    · kernel_rfl
    obtain ⟨hm, h⟩ := br_ok h
    obtain ⟨hn, h⟩ := br_ok h
    have hmm := mayT.1 hm
    have hnn := inT.1 hn
    obtain ⟨e1, e2, e3, e4, e5, e6, e7⟩ := go_facts hm hn
    simp only [bif2_eq, beq_iff_eq]
    rw [if_neg (by omega), if_neg (by omega), e1, e2, e3, wr64 (n := (d + n) / e) (by omega) (by omega), Int.mul_comm, wr64 (n := f * ((d + n) / e)) (by omega) (by omega), wr64 (n := l + f * ((d + n) / e)) (by omega) (by omega)]
    exact leaf_ok h rfl rfl
  · exact h.elim
theorem c33 : Ctr S1 33 g33 := by
  intro args Q h
  unfold g33 at h
  split at h
  · rename_i l c f e d n
    refine ⟨rfl, ctr_run (v := W ((!mayB l c f e d) == false) (W (decide (n ≥ 0) == true) (W (!decide (n ≤ 1048576)) (so (.tup [iv 0, iv 1])) (W (decide (l ≥ n)) (so (.tup [iv 0, iv 0])) (W (decide (n > c) == false) (W (f == 0) (so (.tup [iv (-1), iv 0])) (W (f == 0) none
      (so (.tup [iv (wr .i64 (wr .i64 (wr .i64 ((wr .i64 (wr .i64 (wr .i64 (n - l) + f) - 1)).tdiv f) * e) - d)), iv 0])))) (so (.tup [iv (-1), iv 0]))))) (so (.tup [iv 0, iv 1]))) (so (.tup [iv 0, iv 1]))) ?_ ?_⟩
    · kernel_rfl
    obtain ⟨hT, hF⟩ := h
    cases hm : mayB l c f e d with
    | false =>
      simp only [bif2_eq, hm]
      exact leaf_ok (hF hm) rfl rfl
    | true =>
      obtain ⟨hT, hF⟩ := hT hm
      have hmm := mayT.1 hm
      simp only [bif2_eq, beq_iff_eq, Bool.not_true, if_true, decide_eq_true_eq, Bool.not_eq_true', decide_eq_false_iff_not]
      cases hn : inB n 1048576 with
      | false =>
        have hnn := inF.1 hn
        split
        · rw [if_pos (by omega)]; exact leaf_ok (hF hn) rfl rfl
        · exact leaf_ok (hF hn) rfl rfl
      | true =>
        have hnn := inT.1 hn
        obtain ⟨h1, h2⟩ := hT hn
        rw [if_pos (by omega), if_neg (by omega)]
        split
        · exact leaf_ok (h1 (decide_eq_true (by omega))) rfl rfl
        · rename_i hl
          obtain ⟨h3, h4⟩ := h2 (decide_eq_false (by omega))
          split
          · split
            · rename_i hf; exact leaf_ok (h3 (decide_eq_true (.inr hf))) rfl rfl
            · rename_i hf
              rw [wait_facts hm hn hl hf]
              exact leaf_ok (h4 (decide_eq_false (by omega))) rfl rfl
          · exact leaf_ok (h3 (decide_eq_true (by omega))) rfl rfl
  · exact h.elim
theorem c39 : Ctr S0 39 g39 := by
  intro args Q h
  unfold g39 at h
  split at h
  · rename_i l c f e d n
    refine ⟨rfl, ctr_run (v := W (decide (l ≥ n)) (so (iv 0)) (W (decide (n > c) == false) (W (f == 0) (so (iv (-1))) (W (f == 0) none
      (so (iv (wr .i64 (wr .i64 (wr .i64 ((wr .i64 (wr .i64 (wr .i64 (n - l) + f) - 1)).tdiv f) * e) - d)))))) (so (iv (-1))))) ?_ ?_⟩
    · kernel_rfl
    obtain ⟨hm, h⟩ := br_ok h
    obtain ⟨hn, h⟩ := br_ok h
    have hmm := mayT.1 hm
    have hnn := inT.1 hn
    obtain ⟨h1, h2⟩ := h
    simp only [bif2_eq, beq_iff_eq, Bool.not_true, if_true, decide_eq_true_eq, Bool.not_eq_true', decide_eq_false_iff_not]
    split
    · exact leaf_ok (h1 (decide_eq_true (by omega))) rfl rfl
    · rename_i hl
      obtain ⟨h3, h4⟩ := h2 (decide_eq_false (by omega))
      split
      · split
        · rename_i hf; exact leaf_ok (h3 (decide_eq_true (.inr hf))) rfl rfl
        · rename_i hf
          rw [wait_facts hm hn hl hf]
          exact leaf_ok (h4 (decide_eq_false (by omega))) rfl rfl
      · exact leaf_ok (h3 (decide_eq_true (by omega))) rfl rfl
  · exact h.elim
theorem c34 : Ctr S1 34 g34 := by
  intro args Q h
  unfold g34 at h
  split at h
  · rename_i l c f e d n
    refine ⟨rfl, ctr_run (v := W ((!mayB l c f e d) == false) (W (decide (n ≥ 0) == true) (W (!decide (n ≤ 1048576)) (so (.tup [ag0, iv 1])) (W (decide (l < n)) (so (.tup [ag0, iv 9])) (so (.tup [ag (wr .i64 (l - n)) c f e d, iv 0])))) (so (.tup [ag0, iv 1]))) (so (.tup [ag0, iv 1]))) ?_ ?_⟩
    · kernel_rfl
    obtain ⟨hT, hF⟩ := h
    cases hm : mayB l c f e d with
    | false =>
      simp only [bif2_eq, hm]
      exact leaf_ok (hF hm) rfl rfl
    | true =>
      obtain ⟨hT, hF⟩ := hT hm
      have hmm := mayT.1 hm
      simp only [bif2_eq, beq_iff_eq, Bool.not_true, if_true, decide_eq_true_eq, Bool.not_eq_true', decide_eq_false_iff_not]
      cases hn : inB n 1048576 with
      | false =>
        have hnn := inF.1 hn
        split
        · rw [if_pos (by omega)]; exact leaf_ok (hF hn) rfl rfl
        · exact leaf_ok (hF hn) rfl rfl
      | true =>
        have hnn := inT.1 hn
        obtain ⟨h1, h2⟩ := hT hn
        rw [if_pos (by omega), if_neg (by omega)]
        split
        · rename_i hl; exact leaf_ok (h1 (decide_eq_true hl)) rfl rfl
        · rename_i hl
          rw [wr64 (by omega) (by omega)]
          exact leaf_ok (h2 (decide_eq_false hl)) rfl rfl
  · exact h.elim
theorem c38 : Ctr S0 38 g38 := by
  intro args Q h
  unfold g38 at h
  split at h
  · rename_i l c f e d n
    refine ⟨rfl, ctr_run (v := W (decide (l < n)) (so (.tup [ag l c f e d, .b false])) (so (.tup [ag (wr .i64 (l - n)) c f e d, .b true]))) ?_ ?_⟩
    · kernel_rfl
    obtain ⟨hm, h⟩ := br_ok h
    obtain ⟨hn, h⟩ := br_ok h
    have hmm := mayT.1 hm
    have hnn := inT.1 hn
    obtain ⟨h1, h2⟩ := h
    simp only [bif2_eq, beq_iff_eq, Bool.not_true, if_true, decide_eq_true_eq, Bool.not_eq_true', decide_eq_false_iff_not]
    split
    · rename_i hl; exact leaf_ok (h1 (decide_eq_true hl)) rfl rfl
    · rename_i hl
      rw [wr64 (by omega) (by omega)]
      exact leaf_ok (h2 (decide_eq_false hl)) rfl rfl
  · exact h.elim
theorem c35 : Ctr S1 35 g35 := by
  intro args Q h
  unfold g35 at h
  split at h
  · rename_i c f e
    refine ⟨rfl, ctr_run (v := W (!mayB c c f e 0) (so (.tup [ag0, iv 1])) (so (.tup [ag c c f e 0, iv 0]))) ?_ ?_⟩
    · kernel_rfl
    cases hm : mayB c c f e 0 with
    | false => simp only [bif2_eq]; exact leaf_ok (h.2 hm) rfl rfl
    | true => simp only [bif2_eq]; exact leaf_ok (h.1 hm) rfl rfl
  · exact h.elim
theorem c36 : Ctr S1 36 g36 := by
  intro args Q h
  unfold g36 at h
  split at h
  · rename_i l c f e d
    refine ⟨rfl, ctr_run (v := W (!mayB l c f e d) (so (iv 1)) (so (iv 0))) ?_ ?_⟩
    · kernel_rfl
    cases hm : mayB l c f e d with
    | false => simp only [bif2_eq]; exact leaf_ok (h.2 hm) rfl rfl
    | true => simp only [bif2_eq]; exact leaf_ok (h.1 hm) rfl rfl
  · exact h.elim
theorem s0 (N : Nat) : SOk Try.prog N S0 := sOk_none _ _
theorem s1 (N : Nat) : SOk Try.prog N S1 := sOk_ctr tok (fok false) hmix (s0 N) (s0 N) c53
noncomputable def S2 : Sp := fun n => bif2 (Nat.beq n 18) (some (treeS g18)) (bif2 (Nat.beq n 29) (some (treeS g29)) (bif2 (Nat.beq n 30) (some (treeS g30)) (bif2 (Nat.beq n 33) (some (treeS g33)) (bif2 (Nat.beq n 34) (some (treeS g34))
  (bif2 (Nat.beq n 35) (some (treeS g35)) (bif2 (Nat.beq n 36) (some (treeS g36)) (bif2 (Nat.beq n 38) (some (treeS g38)) (bif2 (Nat.beq n 39) (some (treeS g39)) (bif2 (Nat.beq n 40) (some (treeS g40)) none)))))))))
theorem s2 (N : Nat) : SOk Try.prog N S2 :=
  sOk_ctr tok (fok false) hmix (s0 N) (sOk_ctr tok (fok false) hmix (s0 N) (sOk_ctr tok (fok false) hmix (s1 N) (sOk_ctr tok (fok false) hmix (s1 N) (sOk_ctr tok (fok false) hmix (s1 N)
    (sOk_ctr tok (fok false) hmix (s1 N) (sOk_ctr tok (fok false) hmix (s1 N) (sOk_ctr tok (fok false) hmix (s0 N) (sOk_ctr tok (fok false) hmix (s0 N) (sOk_ctr tok (fok false) hmix (s0 N) (s0 N) c40) c39) c38) c36) c35) c34) c33) c30) c29) c18
end Go.Proofs.TabA
