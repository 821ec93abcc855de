/- Lemmas about the evaluator of the code. -/
import Derived.Test.YtpaiioipoibahaaArgC
set_option linter.all false
set_option linter.deprecated false
set_option maxRecDepth 1000000
set_option maxHeartbeats 4000000
namespace Go.Proofs.TabA
open Go Go.Eng
theorem wrM {i : Nat} (h : i ≤ 1000000) : wr .i64 ((i : Int) + 1) = ((i + 1 : Nat) : Int) := by rw [wr64 (by omega) (by omega)]; rfl
noncomputable def mnL (l : List Int) : Nat → Int
  | 0 => l.getD 0 0
  | k + 1 => if l.getD (k + 1) 0 < mnL l k then l.getD (k + 1) 0 else mnL l k
noncomputable def mxL (l : List Int) : Nat → Int
  | 0 => l.getD 0 0
  | k + 1 => if l.getD (k + 1) 0 > mxL l k then l.getD (k + 1) 0 else mxL l k
def bkB (l : List Int) (n : Nat) : Bool := decide (1 ≤ n ∧ n ≤ 16 ∧ ∀ i, i < n → 1 ≤ l.getD i 0 ∧ l.getD i 0 ≤ 1099511627776)
theorem mnL_spec (l : List Int) (c : Int) (k : Nat) : c ≤ mnL l k ↔ ∀ i, i < k + 1 → c ≤ l.getD i 0 := by
  induction k with
  | zero =>
    refine ⟨fun h i hi => ?_, fun h => h 0 (by omega)⟩
    obtain rfl : i = 0 := by omega
    exact h
  | succ k ih =>
    have e : mnL l (k + 1) = if l.getD (k + 1) 0 < mnL l k then l.getD (k + 1) 0 else mnL l k := rfl
    constructor
    · intro h i hi
      have h1 : c ≤ mnL l k := by rw [e] at h; split at h <;> omega
      rcases (by omega : i < k + 1 ∨ i = k + 1) with h2 | rfl
      · exact ih.1 h1 i h2
      · rw [e] at h; split at h <;> omega
    · intro h
      have h1 := ih.2 fun i hi => h i (by omega)
      have h2 := h (k + 1) (by omega)
      rw [e]; split <;> omega
theorem mxL_spec (l : List Int) (c : Int) (k : Nat) : mxL l k ≤ c ↔ ∀ i, i < k + 1 → l.getD i 0 ≤ c := by
  induction k with
  | zero =>
    refine ⟨fun h i hi => ?_, fun h => h 0 (by omega)⟩
    obtain rfl : i = 0 := by omega
    exact h
  | succ k ih =>
    have e : mxL l (k + 1) = if l.getD (k + 1) 0 > mxL l k then l.getD (k + 1) 0 else mxL l k := rfl
    constructor
    · intro h i hi
      have h1 : mxL l k ≤ c := by rw [e] at h; split at h <;> omega
      rcases (by omega : i < k + 1 ∨ i = k + 1) with h2 | rfl
      · exact ih.1 h1 i h2
      · rw [e] at h; split at h <;> omega
    · intro h
      have h1 := ih.2 fun i hi => h i (by omega)
      have h2 := h (k + 1) (by omega)
      rw [e]; split <;> omega
theorem bk_of {l : List Int} {n : Nat} (h1 : 1 ≤ n) (h2 : n ≤ 16) : bkB l n = decide (mnL l (n - 1) ≥ 1 ∧ mxL l (n - 1) ≤ 1099511627776) := by
  unfold bkB
  refine decide_eq_decide.2 ?_
  show _ ↔ 1 ≤ mnL l (n - 1) ∧ _
  rw [mnL_spec, mxL_spec, Nat.sub_add_cancel h1]
  exact ⟨fun h => ⟨fun i hi => (h.2.2 i hi).1, fun i hi => (h.2.2 i hi).2⟩, fun h => ⟨h1, h2, fun i hi => ⟨h.1 i hi, h.2 i hi⟩⟩⟩
theorem t61r {l : List Int} {nl : Bool} {m n : Nat} {cap : Option Nat} {Q : An → Prop} (h1 : 1 ≤ n) (h2 : n ≤ m) (h3 : n ≤ 16) (hq : Q (iv (mnL l (n - 1)), [])) : H (ev S0 5 61 [.sl 0 0 n cap] (memL 1 [.ro nl m [.ci .i64 l]])) (fun x => Q (resV 1 x)) F0 := by
  refine fn1 (fi := fi61 false) (by kernel_rfl) (by kernel_rfl) (by kernel_rfl) rfl [0, 1, 0, 1, 1, 1] 1 1 rfl (by kernel_rfl) (fun mm s => ∃ k : Nat, k + 1 ≤ n ∧ mm = n - (k + 1) ∧ s = ([.sl 0 0 n cap, iv (mnL l k), iv ((k + 1 : Nat) : Int)], 1, [.ro nl m [.ci .i64 l]])) ?_ ?_
  · refine pE_Q (k := 1) ?_
    refine H.nd 1 (fun b => b) ((n : Int) < 1) (by omega) (by kernel_rfl) ?_
    refine H.kd 2 (fun b => b) ((0 : Int) < n) (by omega) (by kernel_rfl) ?_
    refine H.kl 0 (fun b => b) 0 m (by omega) (by kernel_rfl) ?_
    refine H.lf (f := pE 1) 0 (Sum.inr ([0, 1, 0, 1, 1, 1], 1, [.sl 0 0 n cap, iv (l.getD 0 0), iv 1], 1, [.ro nl m [.ci .i64 l]])) (by kernel_rfl) ?_
    exact ⟨rfl, rfl, n - 1, by omega, 0, by omega, rfl, rfl⟩
  · intro mm s hi
    obtain ⟨k, hk, hm, rfl⟩ := hi
    refine pL_Q (k := 1) ?_
    refine H.sd 1 (fun b => b) (((k + 1 : Nat) : Int) < (n : Int)) (by kernel_rfl) (fun h4 => ?_) (fun h4 => ?_)
    · refine H.kd 2 (fun b => b) (((k + 1 : Nat) : Int) < (n : Int)) h4 (by kernel_rfl) ?_
      refine H.kl 0 (fun b => b) (0 + Int.toNat ((k + 1 : Nat) : Int)) m (by omega) (by kernel_rfl) ?_
      refine H.lf (f := pL 1) 1 (Sum.inl ([.sl 0 0 n cap, iv (if l.getD (0 + Int.toNat ((k + 1 : Nat) : Int)) 0 < mnL l k then l.getD (0 + Int.toNat ((k + 1 : Nat) : Int)) 0 else mnL l k), iv (wr .i64 (((k + 1 : Nat) : Int) + 1))], 1, [.ro nl m [.ci .i64 l]])) (by kernel_rfl) ?_
      have hlt : n - (k + 2) < mm := by omega
      have e : 0 + Int.toNat ((k + 1 : Nat) : Int) = k + 1 := by omega
      refine ⟨_, hlt, k + 1, by omega, rfl, ?_⟩
      rw [wrM (by omega), e]
      rfl
    · obtain rfl : n = k + 1 := by omega
      exact H.lf (f := pL 1) 0 (Sum.inr (Sum.inl (iv (mnL l k), []))) (by kernel_rfl) hq
theorem t51r {l : List Int} {nl : Bool} {m n : Nat} {cap : Option Nat} {Q : An → Prop} (h1 : 1 ≤ n) (h2 : n ≤ m) (h3 : n ≤ 16) (hq : Q (iv (mxL l (n - 1)), [])) : H (ev S0 5 51 [.sl 0 0 n cap] (memL 1 [.ro nl m [.ci .i64 l]])) (fun x => Q (resV 1 x)) F0 := by
  refine fn1 (fi := fi51 false) (by kernel_rfl) (by kernel_rfl) (by kernel_rfl) rfl [0, 1, 0, 1, 1, 1] 1 1 rfl (by kernel_rfl) (fun mm s => ∃ k : Nat, k + 1 ≤ n ∧ mm = n - (k + 1) ∧ s = ([.sl 0 0 n cap, iv (mxL l k), iv ((k + 1 : Nat) : Int)], 1, [.ro nl m [.ci .i64 l]])) ?_ ?_
  · refine pE_Q (k := 1) ?_
    refine H.nd 1 (fun b => b) ((n : Int) < 1) (by omega) (by kernel_rfl) ?_
    refine H.kd 2 (fun b => b) ((0 : Int) < n) (by omega) (by kernel_rfl) ?_
    refine H.kl 0 (fun b => b) 0 m (by omega) (by kernel_rfl) ?_
    refine H.lf (f := pE 1) 0 (Sum.inr ([0, 1, 0, 1, 1, 1], 1, [.sl 0 0 n cap, iv (l.getD 0 0), iv 1], 1, [.ro nl m [.ci .i64 l]])) (by kernel_rfl) ?_
    exact ⟨rfl, rfl, n - 1, by omega, 0, by omega, rfl, rfl⟩
  · intro mm s hi
    obtain ⟨k, hk, hm, rfl⟩ := hi
    refine pL_Q (k := 1) ?_
    refine H.sd 1 (fun b => b) (((k + 1 : Nat) : Int) < (n : Int)) (by kernel_rfl) (fun h4 => ?_) (fun h4 => ?_)
    · refine H.kd 2 (fun b => b) (((k + 1 : Nat) : Int) < (n : Int)) h4 (by kernel_rfl) ?_
      refine H.kl 0 (fun b => b) (0 + Int.toNat ((k + 1 : Nat) : Int)) m (by omega) (by kernel_rfl) ?_
      refine H.lf (f := pL 1) 1 (Sum.inl ([.sl 0 0 n cap, iv (if l.getD (0 + Int.toNat ((k + 1 : Nat) : Int)) 0 > mxL l k then l.getD (0 + Int.toNat ((k + 1 : Nat) : Int)) 0 else mxL l k), iv (wr .i64 (((k + 1 : Nat) : Int) + 1))], 1, [.ro nl m [.ci .i64 l]])) (by kernel_rfl) ?_
      have hlt : n - (k + 2) < mm := by omega
      have e : 0 + Int.toNat ((k + 1 : Nat) : Int) = k + 1 := by omega
      refine ⟨_, hlt, k + 1, by omega, rfl, ?_⟩
      rw [wrM (by omega), e]
      rfl
    · obtain rfl : n = k + 1 := by omega
      exact H.lf (f := pL 1) 0 (Sum.inr (Sum.inl (iv (mxL l k), []))) (by kernel_rfl) hq
theorem t61v {l : List Int} {el : Nat} {m n : Nat} {cap : Option Nat} {Q : An → Prop} (h1 : 1 ≤ n) (h2 : n ≤ m) (h3 : n ≤ 16) (hq : Q (iv (mnL l (n - 1)), [])) : H (ev S0 5 61 [.sl 0 0 n cap] (memL 1 [.vec el m [.ci .i64 l]])) (fun x => Q (resV 1 x)) F0 := by
  refine fn1 (fi := fi61 false) (by kernel_rfl) (by kernel_rfl) (by kernel_rfl) rfl [0, 1, 0, 1, 1, 1] 1 1 rfl (by kernel_rfl) (fun mm s => ∃ k : Nat, k + 1 ≤ n ∧ mm = n - (k + 1) ∧ s = ([.sl 0 0 n cap, iv (mnL l k), iv ((k + 1 : Nat) : Int)], 1, [.vec el m [.ci .i64 l]])) ?_ ?_
  · refine pE_Q (k := 1) ?_
    refine H.nd 1 (fun b => b) ((n : Int) < 1) (by omega) (by kernel_rfl) ?_
    refine H.kd 2 (fun b => b) ((0 : Int) < n) (by omega) (by kernel_rfl) ?_
    refine H.kl 0 (fun b => b) 0 m (by omega) (by kernel_rfl) ?_
    refine H.lf (f := pE 1) 0 (Sum.inr ([0, 1, 0, 1, 1, 1], 1, [.sl 0 0 n cap, iv (l.getD 0 0), iv 1], 1, [.vec el m [.ci .i64 l]])) (by kernel_rfl) ?_
    exact ⟨rfl, rfl, n - 1, by omega, 0, by omega, rfl, rfl⟩
  · intro mm s hi
    obtain ⟨k, hk, hm, rfl⟩ := hi
    refine pL_Q (k := 1) ?_
    refine H.sd 1 (fun b => b) (((k + 1 : Nat) : Int) < (n : Int)) (by kernel_rfl) (fun h4 => ?_) (fun h4 => ?_)
    · refine H.kd 2 (fun b => b) (((k + 1 : Nat) : Int) < (n : Int)) h4 (by kernel_rfl) ?_
      refine H.kl 0 (fun b => b) (0 + Int.toNat ((k + 1 : Nat) : Int)) m (by omega) (by kernel_rfl) ?_
      refine H.lf (f := pL 1) 1 (Sum.inl ([.sl 0 0 n cap, iv (if l.getD (0 + Int.toNat ((k + 1 : Nat) : Int)) 0 < mnL l k then l.getD (0 + Int.toNat ((k + 1 : Nat) : Int)) 0 else mnL l k), iv (wr .i64 (((k + 1 : Nat) : Int) + 1))], 1, [.vec el m [.ci .i64 l]])) (by kernel_rfl) ?_
      have hlt : n - (k + 2) < mm := by omega
      have e : 0 + Int.toNat ((k + 1 : Nat) : Int) = k + 1 := by omega
      refine ⟨_, hlt, k + 1, by omega, rfl, ?_⟩
      rw [wrM (by omega), e]
      rfl
    · obtain rfl : n = k + 1 := by omega
      exact H.lf (f := pL 1) 0 (Sum.inr (Sum.inl (iv (mnL l k), []))) (by kernel_rfl) hq
theorem t51v {l : List Int} {el : Nat} {m n : Nat} {cap : Option Nat} {Q : An → Prop} (h1 : 1 ≤ n) (h2 : n ≤ m) (h3 : n ≤ 16) (hq : Q (iv (mxL l (n - 1)), [])) : H (ev S0 5 51 [.sl 0 0 n cap] (memL 1 [.vec el m [.ci .i64 l]])) (fun x => Q (resV 1 x)) F0 := by
  refine fn1 (fi := fi51 false) (by kernel_rfl) (by kernel_rfl) (by kernel_rfl) rfl [0, 1, 0, 1, 1, 1] 1 1 rfl (by kernel_rfl) (fun mm s => ∃ k : Nat, k + 1 ≤ n ∧ mm = n - (k + 1) ∧ s = ([.sl 0 0 n cap, iv (mxL l k), iv ((k + 1 : Nat) : Int)], 1, [.vec el m [.ci .i64 l]])) ?_ ?_
  · refine pE_Q (k := 1) ?_
    refine H.nd 1 (fun b => b) ((n : Int) < 1) (by omega) (by kernel_rfl) ?_
    refine H.kd 2 (fun b => b) ((0 : Int) < n) (by omega) (by kernel_rfl) ?_
    refine H.kl 0 (fun b => b) 0 m (by omega) (by kernel_rfl) ?_
    refine H.lf (f := pE 1) 0 (Sum.inr ([0, 1, 0, 1, 1, 1], 1, [.sl 0 0 n cap, iv (l.getD 0 0), iv 1], 1, [.vec el m [.ci .i64 l]])) (by kernel_rfl) ?_
    exact ⟨rfl, rfl, n - 1, by omega, 0, by omega, rfl, rfl⟩
  · intro mm s hi
    obtain ⟨k, hk, hm, rfl⟩ := hi
    refine pL_Q (k := 1) ?_
    refine H.sd 1 (fun b => b) (((k + 1 : Nat) : Int) < (n : Int)) (by kernel_rfl) (fun h4 => ?_) (fun h4 => ?_)
    · refine H.kd 2 (fun b => b) (((k + 1 : Nat) : Int) < (n : Int)) h4 (by kernel_rfl) ?_
      refine H.kl 0 (fun b => b) (0 + Int.toNat ((k + 1 : Nat) : Int)) m (by omega) (by kernel_rfl) ?_
      refine H.lf (f := pL 1) 1 (Sum.inl ([.sl 0 0 n cap, iv (if l.getD (0 + Int.toNat ((k + 1 : Nat) : Int)) 0 > mxL l k then l.getD (0 + Int.toNat ((k + 1 : Nat) : Int)) 0 else mxL l k), iv (wr .i64 (((k + 1 : Nat) : Int) + 1))], 1, [.vec el m [.ci .i64 l]])) (by kernel_rfl) ?_
      have hlt : n - (k + 2) < mm := by omega
      have e : 0 + Int.toNat ((k + 1 : Nat) : Int) = k + 1 := by omega
      refine ⟨_, hlt, k + 1, by omega, rfl, ?_⟩
      rw [wrM (by omega), e]
      rfl
    · obtain rfl : n = k + 1 := by omega
      exact H.lf (f := pL 1) 0 (Sum.inr (Sum.inl (iv (mxL l k), []))) (by kernel_rfl) hq
theorem t19 {l : List Int} {nl : Bool} {m n : Nat} {cap : Option Nat} {Q : An → Prop} (h2 : n ≤ m) (hq : Q (.b (bkB l n), [])) : H (ev S0 5 19 [.sl 0 0 n cap] (memL 1 [.ro nl m [.ci .i64 l]])) (fun x => Q (resV 1 x)) F0 := by
  have key : ∀ b : Bool, b = bkB l n → Q (.b b, []) := fun b e => e ▸ hq
  refine fn1 (fi := fi19 false) (by kernel_rfl) (by kernel_rfl) (by kernel_rfl) rfl [0, 1, 0, 1, 1] 1 1 rfl (by kernel_rfl) (fun mm s => ∃ i : Nat, 1 ≤ n ∧ n ≤ 16 ∧ i ≤ n ∧ (∀ j, j < i → 1 ≤ l.getD j 0 ∧ l.getD j 0 ≤ 1099511627776) ∧ mm = n - i ∧ s = ([.sl 0 0 n cap, iv i], 1, [.ro nl m [.ci .i64 l]])) ?_ ?_
  · refine pE_Q (k := 1) ?_
    refine H.sd 1 (fun b => (b == false)) ((n : Int) < 1) (by kernel_rfl) (fun h1 => ?_) (fun h1 => ?_)
    · refine H.lf (f := pE 1) 4 (Sum.inl (.b false, [])) (by kernel_rfl) ?_
      exact key _ (decide_eq_false (by omega)).symm
    · refine H.sd 4 (fun b => b) ((n : Int) > 16) (by kernel_rfl) (fun h3 => ?_) (fun h3 => ?_)
      · refine H.lf (f := pE 1) 0 (Sum.inl (.b false, [])) (by kernel_rfl) ?_
        exact key _ (decide_eq_false (by omega)).symm
      · refine H.lf (f := pE 1) 0 (Sum.inr ([0, 1, 0, 1, 1], 1, [.sl 0 0 n cap, iv 0], 1, [.ro nl m [.ci .i64 l]])) (by kernel_rfl) ?_
        exact ⟨rfl, rfl, n, by omega, 0, by omega, by omega, by omega, fun j hj => by omega, rfl, rfl⟩
  · intro mm s hi
    obtain ⟨i, g1, g2, hi, hall, hm, rfl⟩ := hi
    refine pL_Q (k := 1) ?_
    refine H.sd 1 (fun b => b) ((i : Int) < (n : Int)) (by kernel_rfl) (fun h1 => ?_) (fun h1 => ?_)
    · refine H.kd 2 (fun b => b) ((i : Int) < (n : Int)) h1 (by kernel_rfl) ?_
      refine H.kl 0 (fun b => b) (0 + Int.toNat (i : Int)) m (by omega) (by kernel_rfl) ?_
      have e0 : 0 + Int.toNat (i : Int) = i := by omega
      refine H.sd 1 (fun b => (b == false)) (l.getD (0 + Int.toNat (i : Int)) 0 < 1) (by kernel_rfl) (fun h3 => ?_) (fun h3 => ?_)
      · refine H.lf (f := pL 1) 6 (Sum.inr (Sum.inl (.b false, []))) (by kernel_rfl) ?_
        rw [e0] at h3
        exact key _ (decide_eq_false (fun h => by have := (h.2.2 i (by omega)).1; omega)).symm
      · refine H.kd 4 (fun b => b) ((i : Int) < (n : Int)) h1 (by kernel_rfl) ?_
        refine H.kl 1 (fun b => b) (0 + Int.toNat (i : Int)) m (by omega) (by kernel_rfl) ?_
        refine H.sd 3 (fun b => b) (l.getD (0 + Int.toNat (i : Int)) 0 > 1099511627776) (by kernel_rfl) (fun h4 => ?_) (fun h4 => ?_)
        · refine H.lf (f := pL 1) 0 (Sum.inr (Sum.inl (.b false, []))) (by kernel_rfl) ?_
          rw [e0] at h4
          exact key _ (decide_eq_false (fun h => by have := (h.2.2 i (by omega)).2; omega)).symm
        · refine H.lf (f := pL 1) 1 (Sum.inl ([.sl 0 0 n cap, iv (wr .i64 ((i : Int) + 1))], 1, [.ro nl m [.ci .i64 l]])) (by kernel_rfl) ?_
          rw [e0] at h3 h4
          have hlt : n - (i + 1) < mm := by omega
          refine ⟨_, hlt, i + 1, g1, g2, by omega, fun j hj => ?_, rfl, by rw [wrM (by omega)]⟩
          rcases (by omega : j < i ∨ j = i) with h5 | rfl
          · exact hall j h5
          · omega
    · refine H.lf (f := pL 1) 0 (Sum.inr (Sum.inl (.b true, []))) (by kernel_rfl) ?_
      obtain rfl : i = n := by omega
      exact key _ (decide_eq_true ⟨g1, g2, hall⟩).symm
noncomputable def k61 : List AV → List AObj → T An
  | [.sl 0 0 n _], [.ro _ m [.ci .i64 l]] => .br (decide (1 ≤ n ∧ n ≤ m ∧ n ≤ 16)) (.ret (iv (mnL l (n - 1)), [])) .fail
  | [.sl 0 0 n _], [.vec _ m [.ci .i64 l]] => .br (decide (1 ≤ n ∧ n ≤ m ∧ n ≤ 16)) (.ret (iv (mnL l (n - 1)), [])) .fail
  | [.sl 0 0 1 _], [.own _ 1 [.i .i64 1]] => .ret (iv 1, [])
  | _, _ => .fail
noncomputable def k51 : List AV → List AObj → T An
  | [.sl 0 0 n _], [.ro _ m [.ci .i64 l]] => .br (decide (1 ≤ n ∧ n ≤ m ∧ n ≤ 16)) (.ret (iv (mxL l (n - 1)), [])) .fail
  | [.sl 0 0 n _], [.vec _ m [.ci .i64 l]] => .br (decide (1 ≤ n ∧ n ≤ m ∧ n ≤ 16)) (.ret (iv (mxL l (n - 1)), [])) .fail
  | [.sl 0 0 1 _], [.own _ 1 [.i .i64 1]] => .ret (iv 1, [])
  | _, _ => .fail
noncomputable def k19 : List AV → List AObj → T An
  | [.sl 0 0 n _], [.ro _ m [.ci .i64 l]] => .br (decide (n ≤ m)) (.ret (.b (bkB l n), [])) .fail
  | _, _ => .fail
abbrev Vb (S : Sp) (n : Nat) (g : List AV → List AObj → T An) : Prop := ∀ args objs Q, (g args objs).holds Q F0 → H (ev S 5 n args (memL objs.length objs)) (fun x => Q (resV objs.length x)) F0
theorem v61 : Vb S0 61 k61 := by
  intro args objs Q h
  unfold k61 at h
  split at h
  · obtain ⟨h1, h⟩ := br_ok h
    have h1 := of_decide_eq_true h1
    exact t61r h1.1 h1.2.1 h1.2.2 h
  · obtain ⟨h1, h⟩ := br_ok h
    have h1 := of_decide_eq_true h1
    exact t61v h1.1 h1.2.1 h1.2.2 h
  · exact H.lf (f := resV 1) 3000 (iv 1, []) (by kernel_rfl) h
  · exact h.elim
theorem v51 : Vb S0 51 k51 := by
  intro args objs Q h
  unfold k51 at h
  split at h
  · obtain ⟨h1, h⟩ := br_ok h
    have h1 := of_decide_eq_true h1
    exact t51r h1.1 h1.2.1 h1.2.2 h
  · obtain ⟨h1, h⟩ := br_ok h
    have h1 := of_decide_eq_true h1
    exact t51v h1.1 h1.2.1 h1.2.2 h
  · exact H.lf (f := resV 1) 3000 (iv 1, []) (by kernel_rfl) h
  · exact h.elim
theorem v19 : Vb S0 19 k19 := by
  intro args objs Q h
  unfold k19 at h
  split at h
  · obtain ⟨h1, h⟩ := br_ok h
    exact t19 (of_decide_eq_true h1) h
  · exact h.elim
noncomputable def S5 : Sp := fun n => bif2 (Nat.beq n 61) (some (viewS k61)) (bif2 (Nat.beq n 51) (some (viewS k51)) none)
theorem s5 (N : Nat) : SOk Try.prog N S5 := sOk_view tok (fok false) hmix (s0 N) (sOk_view tok (fok false) hmix (s0 N) (s0 N) v51) v61
end Go.Proofs.TabA
