/- Lemmas about the evaluator of the code. -/
import Derived.Test.YtpaiioipoibahaaBkA
set_option linter.all false
set_option linter.deprecated false
set_option maxRecDepth 1000000
set_option maxHeartbeats 4000000
namespace Go.Proofs.TabA
open Go Go.Eng
theorem t50r {l : List Int} {nl : Bool} {m n : Nat} {cap : Option Nat} {Q : An → Prop} (h : n ≤ m) (hq : Q (.b (bkB l n), [])) : H (ev S5 5 50 [.sl 0 0 n cap] (memL 1 [.ro nl m [.ci .i64 l]])) (fun x => Q (resV 1 x)) F0 := by
  have key : ∀ b : Bool, b = bkB l n → Q (.b b, []) := fun b e => e ▸ hq
  refine fn0 (fi := fi50 false) (by kernel_rfl) (by kernel_rfl) (by kernel_rfl) 1 rfl ?_
  refine pE_Q (k := 1) ?_
  refine H.sd 1 (fun b => (b == true)) ((n : Int) ≥ 1) (by kernel_rfl) (fun h1 => ?_) (fun h1 => ?_)
  · refine H.sd 4 (fun b => (b == true)) ((n : Int) ≤ 16) (by kernel_rfl) (fun h2 => ?_) (fun h2 => ?_)
    · refine H.kd 2 (fun b => b) (1 ≤ n ∧ n ≤ m ∧ n ≤ 16) (by omega) (by kernel_rfl) ?_
      refine H.sd 4 (fun b => (b == true)) (mnL l (n - 1) ≥ 1) (by kernel_rfl) (fun h3 => ?_) (fun h3 => ?_)
      · refine H.kd 2 (fun b => b) (1 ≤ n ∧ n ≤ m ∧ n ≤ 16) (by omega) (by kernel_rfl) ?_
        refine H.lf (f := pE 1) 4 (Sum.inl (.b (decide (mxL l (n - 1) ≤ 1099511627776)), [])) (by kernel_rfl) ?_
        refine key _ ?_
        rw [bk_of (by omega) (by omega)]
        exact decide_eq_decide.2 ⟨fun h => ⟨h3, h⟩, fun h => h.2⟩
      · refine H.lf (f := pE 1) 3 (Sum.inl (.b false, [])) (by kernel_rfl) ?_
        refine key _ ?_
        rw [bk_of (by omega) (by omega)]
        exact (decide_eq_false (fun h => h3 h.1)).symm
    · refine H.lf (f := pE 1) 7 (Sum.inl (.b false, [])) (by kernel_rfl) ?_
      exact key _ (decide_eq_false (by omega)).symm
  · refine H.lf (f := pE 1) 11 (Sum.inl (.b false, [])) (by kernel_rfl) ?_
    exact key _ (decide_eq_false (by omega)).symm
theorem t50v {l : List Int} {el : Nat} {m n : Nat} {cap : Option Nat} {Q : An → Prop} (h : n ≤ m) (hq : Q (.b (bkB l n), [])) : H (ev S5 5 50 [.sl 0 0 n cap] (memL 1 [.vec el m [.ci .i64 l]])) (fun x => Q (resV 1 x)) F0 := by
  have key : ∀ b : Bool, b = bkB l n → Q (.b b, []) := fun b e => e ▸ hq
  refine fn0 (fi := fi50 false) (by kernel_rfl) (by kernel_rfl) (by kernel_rfl) 1 rfl ?_
  refine pE_Q (k := 1) ?_
  refine H.sd 1 (fun b => (b == true)) ((n : Int) ≥ 1) (by kernel_rfl) (fun h1 => ?_) (fun h1 => ?_)
  · refine H.sd 4 (fun b => (b == true)) ((n : Int) ≤ 16) (by kernel_rfl) (fun h2 => ?_) (fun h2 => ?_)
    · refine H.kd 2 (fun b => b) (1 ≤ n ∧ n ≤ m ∧ n ≤ 16) (by omega) (by kernel_rfl) ?_
      refine H.sd 4 (fun b => (b == true)) (mnL l (n - 1) ≥ 1) (by kernel_rfl) (fun h3 => ?_) (fun h3 => ?_)
      · refine H.kd 2 (fun b => b) (1 ≤ n ∧ n ≤ m ∧ n ≤ 16) (by omega) (by kernel_rfl) ?_
        refine H.lf (f := pE 1) 4 (Sum.inl (.b (decide (mxL l (n - 1) ≤ 1099511627776)), [])) (by kernel_rfl) ?_
        refine key _ ?_
        rw [bk_of (by omega) (by omega)]
        exact decide_eq_decide.2 ⟨fun h => ⟨h3, h⟩, fun h => h.2⟩
      · refine H.lf (f := pE 1) 3 (Sum.inl (.b false, [])) (by kernel_rfl) ?_
        refine key _ ?_
        rw [bk_of (by omega) (by omega)]
        exact (decide_eq_false (fun h => h3 h.1)).symm
    · refine H.lf (f := pE 1) 7 (Sum.inl (.b false, [])) (by kernel_rfl) ?_
      exact key _ (decide_eq_false (by omega)).symm
  · refine H.lf (f := pE 1) 11 (Sum.inl (.b false, [])) (by kernel_rfl) ?_
    exact key _ (decide_eq_false (by omega)).symm
theorem t50n {Q : An → Prop} (hq : Q (.b false, [])) : H (ev S5 5 50 [.v (.slice none 0 0)] (memL 0 [])) (fun x => Q (resV 0 x)) F0 := H.lf (f := resV 0) 3000 (.b false, []) (by kernel_rfl) hq
noncomputable def k50 : List AV → List AObj → T An
  | [.sl 0 0 n _], [.ro _ m [.ci .i64 l]] => .br (decide (n ≤ m)) (.ret (.b (bkB l n), [])) .fail
  | [.sl 0 0 n _], [.vec _ m [.ci .i64 l]] => .br (decide (n ≤ m)) (.ret (.b (bkB l n), [])) .fail
  | [.v (.slice none 0 0)], [] => .ret (.b false, [])
  | [.sl 0 0 1 _], [.own _ 1 [.i .i64 1]] => .ret (.b true, [])
  | _, _ => .fail
theorem v50 : Vb S5 50 k50 := by
  intro args objs Q h
  unfold k50 at h
  split at h
  · obtain ⟨h1, h⟩ := br_ok h
    exact t50r (of_decide_eq_true h1) h
  · obtain ⟨h1, h⟩ := br_ok h
    exact t50v (of_decide_eq_true h1) h
  · exact t50n h
  · exact H.lf (f := resV 1) 3000 (.b true, []) (by kernel_rfl) h
  · exact h.elim
noncomputable def S6 : Sp := fun n => bif2 (Nat.beq n 50) (some (viewS k50)) (bif2 (Nat.beq n 51) (some (viewS k51)) none)
theorem s6 (N : Nat) : SOk Try.prog N S6 := sOk_view tok (fok false) hmix (s5 N) (sOk_view tok (fok false) hmix (s0 N) (s0 N) v51) v50
theorem bkT {l : List Int} {n : Nat} : bkB l n = true ↔ 1 ≤ n ∧ n ≤ 16 ∧ ∀ i, i < n → 1 ≤ l.getD i 0 ∧ l.getD i 0 ≤ 1099511627776 := by simp [bkB]
def nxV (l : List Int) (n : Nat) (q : Int) : Int := l.getD (Int.toNat ((if (n : Int) < q then (n : Int) else q) - 1)) 0
def pf (l : List Int) : Nat → Int
  | 0 => 0
  | k + 1 => pf l k + l.getD k 0
def alV (l : List Int) (n : Nat) (q : Int) : Int := pf l (Int.toNat (if (n : Int) < q then (n : Int) else q)) + (if q > (n : Int) then (q - n) * l.getD (n - 1) 0 else 0)
theorem pf_le {l : List Int} {n : Nat} (h : bkB l n = true) (k : Nat) (hk : k ≤ n) : 0 ≤ pf l k ∧ pf l k ≤ (k : Int) * 1099511627776 := by
  obtain ⟨_, _, hall⟩ := bkT.1 h
  induction k with
  | zero => exact ⟨Int.le_refl _, by simp [pf]⟩
  | succ k ih =>
    have h1 := ih (by omega)
    have h2 := hall k (by omega)
    show 0 ≤ pf l k + l.getD k 0 ∧ pf l k + l.getD k 0 ≤ _
    omega
abbrev okI (x : Int) : An := (.tup [iv x, iv 0], [])
abbrev erI : An := (.tup [iv 0, iv 1], [])
theorem t23r {l : List Int} {nl : Bool} {m n : Nat} {cap : Option Nat} {Q : An → Prop} (h : n ≤ m) (hT : bkB l n = true → Q (okI (mxL l (n - 1)))) (hF : bkB l n = false → Q erI) : H (ev S6 5 23 [.sl 0 0 n cap] (memL 1 [.ro nl m [.ci .i64 l]])) (fun x => Q (resV 1 x)) F0 := by
  refine fn0 (fi := fi23 false) (by kernel_rfl) (by kernel_rfl) (by kernel_rfl) 1 rfl ?_
  refine pE_Q (k := 1) ?_
  refine H.kd 1 (fun b => b) (n ≤ m) h (by kernel_rfl) ?_
  refine H.sb 1 (fun b => (!b)) (bkB l n) (by kernel_rfl) (fun h1 => ?_) (fun h1 => ?_)
  · have h2 := bkT.1 h1
    refine H.kd 1 (fun b => b) (1 ≤ n ∧ n ≤ m ∧ n ≤ 16) (by omega) (by kernel_rfl) ?_
    exact H.lf (f := pE 1) 1 (Sum.inl (.tup [iv (mxL l (n - 1)), iv 0], [])) (by kernel_rfl) (hT h1)
  · exact H.lf (f := pE 1) 0 (Sum.inl (.tup [iv 0, iv 1], [])) (by kernel_rfl) (hF h1)
theorem t25r {l : List Int} {nl : Bool} {m n : Nat} {cap : Option Nat} {Q : An → Prop} {q : Int} (h : n ≤ m) (hT : bkB l n = true → 1 ≤ q ∧ q ≤ 1048576 → Q (okI (nxV l n q))) (hF : ¬ (bkB l n = true ∧ 1 ≤ q ∧ q ≤ 1048576) → Q erI) : H (ev S6 5 25 [.sl 0 0 n cap, iv q] (memL 1 [.ro nl m [.ci .i64 l]])) (fun x => Q (resV 1 x)) F0 := by
  refine fn0 (fi := fi25 false) (by kernel_rfl) (by kernel_rfl) (by kernel_rfl) 1 rfl ?_
  refine pE_Q (k := 1) ?_
  refine H.kd 1 (fun b => b) (n ≤ m) h (by kernel_rfl) ?_
  refine H.sb 1 (fun b => ((!b) == false)) (bkB l n) (by kernel_rfl) (fun h1 => ?_) (fun h1 => ?_)
  · have hb := bkT.1 h1
    refine H.sd 3 (fun b => (b == false)) (q < 1) (by kernel_rfl) (fun h2 => ?_) (fun h2 => ?_)
    · exact H.lf (f := pE 1) 3 (Sum.inl (.tup [iv 0, iv 1], [])) (by kernel_rfl) (hF (by omega))
    · refine H.sd 3 (fun b => b) (q > 1048576) (by kernel_rfl) (fun h3 => ?_) (fun h3 => ?_)
      · exact H.lf (f := pE 1) 0 (Sum.inl (.tup [iv 0, iv 1], [])) (by kernel_rfl) (hF (by omega))
      · have hw : wr .i64 ((if (n : Int) < q then (n : Int) else q) - 1) = (if (n : Int) < q then (n : Int) else q) - 1 := wr64 (by split <;> omega) (by split <;> omega)
        have hw2 : 0 ≤ (if (n : Int) < q then (n : Int) else q) - 1 ∧ (if (n : Int) < q then (n : Int) else q) - 1 < n := by split <;> omega
        refine H.kd 3 (fun b => b) (0 ≤ wr IntKind.i64 ((if (n : Int) < q then (n : Int) else q) - 1)) (by rw [hw]; exact hw2.1) (by kernel_rfl) ?_
        refine H.kd 0 (fun b => b) (wr IntKind.i64 ((if (n : Int) < q then (n : Int) else q) - 1) < (n : Int)) (by rw [hw]; exact hw2.2) (by kernel_rfl) ?_
        refine H.kl 0 (fun b => b) (0 + Int.toNat (wr IntKind.i64 ((if (n : Int) < q then (n : Int) else q) - 1))) m (by rw [hw]; omega) (by kernel_rfl) ?_
        refine H.lf (f := pE 1) 0 (Sum.inl (.tup [iv (l.getD (0 + Int.toNat (wr IntKind.i64 ((if (n : Int) < q then (n : Int) else q) - 1))) 0), iv 0], [])) (by kernel_rfl) ?_
        rw [hw, Nat.zero_add]
        exact hT h1 (by omega)
  · exact H.lf (f := pE 1) 6 (Sum.inl (.tup [iv 0, iv 1], [])) (by kernel_rfl) (hF (by rw [h1]; simp))
theorem t23v {l : List Int} {el : Nat} {m n : Nat} {cap : Option Nat} {Q : An → Prop} (h : n ≤ m) (hT : bkB l n = true → Q (okI (mxL l (n - 1)))) (hF : bkB l n = false → Q erI) : H (ev S6 5 23 [.sl 0 0 n cap] (memL 1 [.vec el m [.ci .i64 l]])) (fun x => Q (resV 1 x)) F0 := by
  refine fn0 (fi := fi23 false) (by kernel_rfl) (by kernel_rfl) (by kernel_rfl) 1 rfl ?_
  refine pE_Q (k := 1) ?_
  refine H.kd 1 (fun b => b) (n ≤ m) h (by kernel_rfl) ?_
  refine H.sb 1 (fun b => (!b)) (bkB l n) (by kernel_rfl) (fun h1 => ?_) (fun h1 => ?_)
  · have h2 := bkT.1 h1
    refine H.kd 1 (fun b => b) (1 ≤ n ∧ n ≤ m ∧ n ≤ 16) (by omega) (by kernel_rfl) ?_
    exact H.lf (f := pE 1) 1 (Sum.inl (.tup [iv (mxL l (n - 1)), iv 0], [])) (by kernel_rfl) (hT h1)
  · exact H.lf (f := pE 1) 0 (Sum.inl (.tup [iv 0, iv 1], [])) (by kernel_rfl) (hF h1)
theorem t25v {l : List Int} {el : Nat} {m n : Nat} {cap : Option Nat} {Q : An → Prop} {q : Int} (h : n ≤ m) (hT : bkB l n = true → 1 ≤ q ∧ q ≤ 1048576 → Q (okI (nxV l n q))) (hF : ¬ (bkB l n = true ∧ 1 ≤ q ∧ q ≤ 1048576) → Q erI) : H (ev S6 5 25 [.sl 0 0 n cap, iv q] (memL 1 [.vec el m [.ci .i64 l]])) (fun x => Q (resV 1 x)) F0 := by
  refine fn0 (fi := fi25 false) (by kernel_rfl) (by kernel_rfl) (by kernel_rfl) 1 rfl ?_
  refine pE_Q (k := 1) ?_
  refine H.kd 1 (fun b => b) (n ≤ m) h (by kernel_rfl) ?_
  refine H.sb 1 (fun b => ((!b) == false)) (bkB l n) (by kernel_rfl) (fun h1 => ?_) (fun h1 => ?_)
  · have hb := bkT.1 h1
    refine H.sd 3 (fun b => (b == false)) (q < 1) (by kernel_rfl) (fun h2 => ?_) (fun h2 => ?_)
    · exact H.lf (f := pE 1) 3 (Sum.inl (.tup [iv 0, iv 1], [])) (by kernel_rfl) (hF (by omega))
    · refine H.sd 3 (fun b => b) (q > 1048576) (by kernel_rfl) (fun h3 => ?_) (fun h3 => ?_)
      · exact H.lf (f := pE 1) 0 (Sum.inl (.tup [iv 0, iv 1], [])) (by kernel_rfl) (hF (by omega))
      · have hw : wr .i64 ((if (n : Int) < q then (n : Int) else q) - 1) = (if (n : Int) < q then (n : Int) else q) - 1 := wr64 (by split <;> omega) (by split <;> omega)
        have hw2 : 0 ≤ (if (n : Int) < q then (n : Int) else q) - 1 ∧ (if (n : Int) < q then (n : Int) else q) - 1 < n := by split <;> omega
        refine H.kd 3 (fun b => b) (0 ≤ wr IntKind.i64 ((if (n : Int) < q then (n : Int) else q) - 1)) (by rw [hw]; exact hw2.1) (by kernel_rfl) ?_
        refine H.kd 0 (fun b => b) (wr IntKind.i64 ((if (n : Int) < q then (n : Int) else q) - 1) < (n : Int)) (by rw [hw]; exact hw2.2) (by kernel_rfl) ?_
        refine H.kl 0 (fun b => b) (0 + Int.toNat (wr IntKind.i64 ((if (n : Int) < q then (n : Int) else q) - 1))) m (by rw [hw]; omega) (by kernel_rfl) ?_
        refine H.lf (f := pE 1) 0 (Sum.inl (.tup [iv (l.getD (0 + Int.toNat (wr IntKind.i64 ((if (n : Int) < q then (n : Int) else q) - 1))) 0), iv 0], [])) (by kernel_rfl) ?_
        rw [hw, Nat.zero_add]
        exact hT h1 (by omega)
  · exact H.lf (f := pE 1) 6 (Sum.inl (.tup [iv 0, iv 1], [])) (by kernel_rfl) (hF (by rw [h1]; simp))
theorem t28 {l : List Int} {nl : Bool} {m n : Nat} {cap : Option Nat} {Q : An → Prop} {q : Int} (h : n ≤ m) (hT : bkB l n = true → 0 ≤ q ∧ q ≤ 1048576 → Q (okI (alV l n q))) (hF : ¬ (bkB l n = true ∧ 0 ≤ q ∧ q ≤ 1048576) → Q erI) : H (ev S6 5 28 [.sl 0 0 n cap, iv q] (memL 1 [.ro nl m [.ci .i64 l]])) (fun x => Q (resV 1 x)) F0 := by
  refine fn1 (fi := fi28 false) (by kernel_rfl) (by kernel_rfl) (by kernel_rfl) rfl [0, 1, 0, 1, 1] 1 1 rfl (by kernel_rfl) (fun mm s => ∃ i : Nat, bkB l n = true ∧ 0 ≤ q ∧ q ≤ 1048576 ∧ (i : Int) ≤ (if (n : Int) < q then (n : Int) else q) ∧ mm = n - i ∧ s = ([.sl 0 0 n cap, iv q, iv (pf l i), iv (if (n : Int) < q then (n : Int) else q), iv i], 1, [.ro nl m [.ci .i64 l]])) ?_ ?_
  · refine pE_Q (k := 1) ?_
    refine H.kd 1 (fun b => b) (n ≤ m) h (by kernel_rfl) ?_
    refine H.sb 1 (fun b => ((!b) == false)) (bkB l n) (by kernel_rfl) (fun h1 => ?_) (fun h1 => ?_)
    · have hb := bkT.1 h1
      refine H.sd 3 (fun b => (b == false)) (q < 0) (by kernel_rfl) (fun h2 => ?_) (fun h2 => ?_)
      · exact H.lf (f := pE 1) 3 (Sum.inl (.tup [iv 0, iv 1], [])) (by kernel_rfl) (hF (by omega))
      · refine H.sd 3 (fun b => b) (q > 1048576) (by kernel_rfl) (fun h3 => ?_) (fun h3 => ?_)
        · exact H.lf (f := pE 1) 0 (Sum.inl (.tup [iv 0, iv 1], [])) (by kernel_rfl) (hF (by omega))
        · refine H.lf (f := pE 1) 0 (Sum.inr ([0, 1, 0, 1, 1], 1, [.sl 0 0 n cap, iv q, iv 0, iv (if (n : Int) < q then (n : Int) else q), iv 0], 1, [.ro nl m [.ci .i64 l]])) (by kernel_rfl) ?_
          exact ⟨rfl, rfl, n, by omega, 0, h1, by omega, by omega, by split <;> omega, rfl, rfl⟩
    · exact H.lf (f := pE 1) 6 (Sum.inl (.tup [iv 0, iv 1], [])) (by kernel_rfl) (hF (by rw [h1]; simp))
  · intro mm s hi
    obtain ⟨i, h1, hq0, hq1, hi, hm, rfl⟩ := hi
    have hb := bkT.1 h1
    refine pL_Q (k := 1) ?_
    have hin : i ≤ n := by split at hi <;> omega
    refine H.sd 1 (fun b => b) ((i : Int) < (if (n : Int) < q then (n : Int) else q)) (by kernel_rfl) (fun h4 => ?_) (fun h4 => ?_)
    · have hin2 : i < n := by split at h4 <;> omega
      refine H.kd 2 (fun b => b) ((i : Int) < (n : Int)) (by omega) (by kernel_rfl) ?_
      refine H.kl 0 (fun b => b) (0 + Int.toNat (i : Int)) m (by omega) (by kernel_rfl) ?_
      refine H.lf (f := pL 1) 2 (Sum.inl ([.sl 0 0 n cap, iv q, iv (wr .i64 (pf l i + l.getD (0 + Int.toNat (i : Int)) 0)), iv (if (n : Int) < q then (n : Int) else q), iv (wr .i64 ((i : Int) + 1))], 1, [.ro nl m [.ci .i64 l]])) (by kernel_rfl) ?_
      have hlt : n - (i + 1) < mm := by omega
      have e : 0 + Int.toNat (i : Int) = i := by omega
      have hp := pf_le h1 i hin
      have hl := hb.2.2 i hin2
      refine ⟨_, hlt, i + 1, h1, hq0, hq1, by omega, rfl, ?_⟩
      rw [wrM (by omega), e, wr64 (n := pf l i + l.getD i 0) (by omega) (by omega)]
      rfl
    · have hie : (i : Int) = (if (n : Int) < q then (n : Int) else q) := by omega
      have hit : Int.toNat (if (n : Int) < q then (n : Int) else q) = i := by omega
      refine H.sd 1 (fun b => b) (q > (n : Int)) (by kernel_rfl) (fun h5 => ?_) (fun h5 => ?_)
      · have hw : wr .i64 ((n : Int) - 1) = (n : Int) - 1 := wr64 (by omega) (by omega)
        refine H.kd 3 (fun b => b) (0 ≤ wr IntKind.i64 ((n : Int) - 1)) (by rw [hw]; omega) (by kernel_rfl) ?_
        refine H.kd 0 (fun b => b) (wr IntKind.i64 ((n : Int) - 1) < (n : Int)) (by rw [hw]; omega) (by kernel_rfl) ?_
        refine H.kl 0 (fun b => b) (0 + Int.toNat (wr IntKind.i64 ((n : Int) - 1))) m (by rw [hw]; omega) (by kernel_rfl) ?_
        refine H.lf (f := pL 1) 2 (Sum.inr (Sum.inl (.tup [iv (wr .i64 (pf l i + wr .i64 (wr .i64 (q - (n : Int)) * l.getD (0 + Int.toNat (wr IntKind.i64 ((n : Int) - 1))) 0))), iv 0], []))) (by kernel_rfl) ?_
        have e : 0 + Int.toNat ((n : Int) - 1) = n - 1 := by omega
        have hl := hb.2.2 (n - 1) (by omega)
        have hp := pf_le h1 i hin
        have hm1 : (q - (n : Int)) * l.getD (n - 1) 0 ≤ 1048576 * 1099511627776 := Int.mul_le_mul (by omega) hl.2 (by omega) (by omega)
        have hm0 : 0 ≤ (q - (n : Int)) * l.getD (n - 1) 0 := Int.mul_nonneg (by omega) (by omega)
        have := hT h1 ⟨hq0, hq1⟩
        unfold alV at this
        rw [hit, if_pos h5] at this
        rw [hw, e, wr64 (n := q - (n : Int)) (by omega) (by omega), wr64 (n := (q - (n : Int)) * l.getD (n - 1) 0) (by omega) (by omega), wr64 (by omega) (by omega)]
        exact this
      · refine H.lf (f := pL 1) 0 (Sum.inr (Sum.inl (.tup [iv (pf l i), iv 0], []))) (by kernel_rfl) ?_
        have := hT h1 ⟨hq0, hq1⟩
        unfold alV at this
        rw [hit, if_neg h5, Int.add_zero] at this
        exact this
noncomputable def k23 : List AV → List AObj → T An
  | [.sl 0 0 n _], [.ro _ m [.ci .i64 l]] => .br (decide (n ≤ m)) (.br (bkB l n) (.ret (okI (mxL l (n - 1)))) (.ret erI)) .fail
  | [.sl 0 0 n _], [.vec _ m [.ci .i64 l]] => .br (decide (n ≤ m)) (.br (bkB l n) (.ret (okI (mxL l (n - 1)))) (.ret erI)) .fail
  | _, _ => .fail
noncomputable def k25 : List AV → List AObj → T An
  | [.sl 0 0 n _, .i .i64 q], [.ro _ m [.ci .i64 l]] => .br (decide (n ≤ m)) (.br (decide (bkB l n = true ∧ 1 ≤ q ∧ q ≤ 1048576)) (.ret (okI (nxV l n q))) (.ret erI)) .fail
  | [.sl 0 0 n _, .i .i64 q], [.vec _ m [.ci .i64 l]] => .br (decide (n ≤ m)) (.br (decide (bkB l n = true ∧ 1 ≤ q ∧ q ≤ 1048576)) (.ret (okI (nxV l n q))) (.ret erI)) .fail
  | _, _ => .fail
noncomputable def k28 : List AV → List AObj → T An
  | [.sl 0 0 n _, .i .i64 q], [.ro _ m [.ci .i64 l]] => .br (decide (n ≤ m)) (.br (decide (bkB l n = true ∧ 0 ≤ q ∧ q ≤ 1048576)) (.ret (okI (alV l n q))) (.ret erI)) .fail
  | [.sl 0 0 1 _, .i .i64 1048576], [.own _ 1 [.i .i64 1]] => .ret (okI 1048576)
  | _, _ => .fail
theorem v23 : Vb S6 23 k23 := by
  intro args objs Q h
  unfold k23 at h
  split at h
  · obtain ⟨h1, h⟩ := br_ok h
    exact t23r (of_decide_eq_true h1) h.1 h.2
  · obtain ⟨h1, h⟩ := br_ok h
    exact t23v (of_decide_eq_true h1) h.1 h.2
  · exact h.elim
theorem v25 : Vb S6 25 k25 := by
  intro args objs Q h
  unfold k25 at h
  split at h
  · obtain ⟨h1, h⟩ := br_ok h
    exact t25r (of_decide_eq_true h1) (fun a b => h.1 (decide_eq_true ⟨a, b⟩)) (fun a => h.2 (decide_eq_false a))
  · obtain ⟨h1, h⟩ := br_ok h
    exact t25v (of_decide_eq_true h1) (fun a b => h.1 (decide_eq_true ⟨a, b⟩)) (fun a => h.2 (decide_eq_false a))
  · exact h.elim
theorem v28 : Vb S6 28 k28 := by
  intro args objs Q h
  unfold k28 at h
  split at h
  · obtain ⟨h1, h⟩ := br_ok h
    exact t28 (of_decide_eq_true h1) (fun a b => h.1 (decide_eq_true ⟨a, b⟩)) (fun a => h.2 (decide_eq_false a))
  · exact H.lf (f := resV 1) 3000 (okI 1048576) (by kernel_rfl) h
  · exact h.elim
noncomputable def g27 : List AV → T AV
  | [] => .ret (.b true)
  | _ => .fail
theorem c27 : Ctr S0 27 g27 := by
  intro args Q h
  unfold g27 at h
  split at h
  · refine ⟨rfl, ctr_run (v := so (.b true)) ?_ ?_⟩
    · kernel_rfl
    · exact leaf_ok h rfl rfl
  · exact h.elim
noncomputable def S7 : Sp := fun n => bif2 (Nat.beq n 18) (some (treeS g18)) (bif2 (Nat.beq n 27) (some (treeS g27)) (bif2 (Nat.beq n 19) (some (viewS k19)) (bif2 (Nat.beq n 23) (some (viewS k23)) (bif2 (Nat.beq n 25) (some (viewS k25)) (bif2 (Nat.beq n 28) (some (viewS k28)) none)))))
theorem s7 (N : Nat) : SOk Try.prog N S7 :=
  sOk_ctr tok (fok false) hmix (s0 N) (sOk_ctr tok (fok false) hmix (s0 N) (sOk_view tok (fok false) hmix (s0 N) (sOk_view tok (fok false) hmix (s6 N) (sOk_view tok (fok false) hmix (s6 N) (sOk_view tok (fok false) hmix (s6 N) (s0 N) v28) v25) v23) v19) c27) c18
end Go.Proofs.TabA
