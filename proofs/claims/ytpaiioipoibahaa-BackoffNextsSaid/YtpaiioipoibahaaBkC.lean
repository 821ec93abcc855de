/- Lemmas about the evaluator of the code. -/
import Derived.Test.YtpaiioipoibahaaBkB
set_option linter.all false
set_option linter.deprecated false
set_option maxRecDepth 1000000
set_option maxHeartbeats 4000000
namespace Go.Proofs.TabA
open Go Go.Eng
def tq (l : List Int) (n : Nat) : List Int := (List.range n).map fun i => l.getD i 0
theorem tq_len (l : List Int) (n : Nat) : (tq l n).length = n := by simp [tq]
theorem tq_succ (l : List Int) (n : Nat) : tq l (n + 1) = tq l n ++ [l.getD n 0] := by simp [tq, List.range_succ]
theorem tq_get (l : List Int) (n i : Nat) (h : i < n) : (tq l n).getD i 0 = l.getD i 0 := by simp [tq, List.getD_eq_getElem?_getD, List.getElem?_range h]
theorem bk_tq (l : List Int) (n : Nat) : bkB (tq l n) n = bkB l n := by
  unfold bkB
  refine decide_eq_decide.2 ⟨fun h => ⟨h.1, h.2.1, fun i hi => by have := h.2.2 i hi; rwa [tq_get _ _ _ hi] at this⟩, fun h => ⟨h.1, h.2.1, fun i hi => by rw [tq_get _ _ _ hi]; exact h.2.2 i hi⟩⟩
theorem mx_congr {l l' : List Int} (k : Nat) (h : ∀ i, i < k + 1 → l.getD i 0 = l'.getD i 0) : mxL l k = mxL l' k := by
  induction k with
  | zero => exact h 0 (by omega)
  | succ k ih =>
    show (if l.getD (k + 1) 0 > mxL l k then l.getD (k + 1) 0 else mxL l k) = (if l'.getD (k + 1) 0 > mxL l' k then l'.getD (k + 1) 0 else mxL l' k)
    rw [ih fun i hi => h i (by omega), h (k + 1) (by omega)]
theorem mx_tq {l : List Int} {n : Nat} (h : 1 ≤ n) : mxL (tq l n) (n - 1) = mxL l (n - 1) := mx_congr _ fun i hi => tq_get _ _ _ (by omega)
theorem nx_tq {l : List Int} {n : Nat} {q : Int} (h : 1 ≤ n) (hq : 1 ≤ q) : nxV (tq l n) n q = nxV l n q := by
  unfold nxV
  exact tq_get _ _ _ (by split <;> omega)
theorem t20 {l : List Int} {nl : Bool} {m n : Nat} {cap : Option Nat} {Q : An → Prop} (hn : n ≤ m) (hb : n ≤ 2000) (hq0 : n = 0 → Q (.v (.slice none 0 0), [])) (hq : 0 < n → Q (.sl 1 0 n none, [.vec 3 n [.ci .i64 (tq l n)]])) :
    H (ev S0 5 20 [.sl 0 0 n cap] (memL 1 [.ro nl m [.ci .i64 l]])) (fun x => Q (resV 1 x)) F0 := by
  refine fn1 (fi := fi20 false) (by kernel_rfl) (by kernel_rfl) (by kernel_rfl) rfl [0, 1, 0, 1, 1] 1 1 rfl (by kernel_rfl)
    (fun mm s => ∃ i : Nat, i ≤ n ∧ mm = n - i ∧ ((i = 0 ∧ s = ([.sl 0 0 n cap, .v (.slice none 0 0), iv 0], 1, [.ro nl m [.ci .i64 l]])) ∨ (0 < i ∧ s = ([.sl 0 0 n cap, .sl 1 0 i none, iv i], 1, [.ro nl m [.ci .i64 l], .vec 3 i [.ci .i64 (tq l i)]])))) ?_ ?_
  · refine pE_Q (k := 1) ?_
    refine H.lf (f := pE 1) 0 (Sum.inr ([0, 1, 0, 1, 1], 1, [.sl 0 0 n cap, .v (.slice none 0 0), iv 0], 1, [.ro nl m [.ci .i64 l]])) (by kernel_rfl) ?_
    exact ⟨rfl, rfl, n, by omega, 0, by omega, rfl, .inl ⟨rfl, rfl⟩⟩
  · intro mm s hi
    obtain ⟨i, hi, hm, ⟨rfl, rfl⟩ | ⟨h0, rfl⟩⟩ := hi
    · refine pL_Q (k := 1) ?_
      refine H.sd 1 (fun b => b) ((0 : Int) < n) (by kernel_rfl) (fun h1 => ?_) (fun h1 => ?_)
      · refine H.kd 2 (fun b => b) ((0 : Int) < n) (by omega) (by kernel_rfl) ?_
        refine H.kl 0 (fun b => b) (0 + Int.toNat 0) m (by simp; omega) (by kernel_rfl) ?_
        refine H.lf (f := pL 1) 10 (Sum.inl ([.sl 0 0 n cap, .sl 1 0 1 none, iv 1], 1, [.ro nl m [.ci .i64 l], .vec 3 1 [.ci .i64 [l.getD 0 0]]])) (by kernel_rfl) ?_
        have hlt : n - 1 < mm := by omega
        exact ⟨_, hlt, 1, by omega, rfl, .inr ⟨by omega, rfl⟩⟩
      · obtain rfl : n = 0 := by omega
        exact H.lf (f := pL 1) 0 (Sum.inr (Sum.inl (.v (.slice none 0 0), []))) (by kernel_rfl) (hq0 rfl)
    · refine pL_Q (k := 1) ?_
      refine H.sd 1 (fun b => b) ((i : Int) < n) (by kernel_rfl) (fun h1 => ?_) (fun h1 => ?_)
      · refine H.kd 2 (fun b => b) ((i : Int) < n) (by omega) (by kernel_rfl) ?_
        refine H.kl 0 (fun b => b) (0 + Int.toNat i) m (by omega) (by kernel_rfl) ?_
        refine H.kb 9 (fun b => b) (b := Nat.ble (0 + i) i) (d := true) (by simp) (by kernel_rfl) ?_
        refine H.kb 0 (fun b => b) (b := (Nat.blt 0 8 && Nat.ble ((i + 1) * 8) 140737488355328)) (d := true) (by simp; omega) (by kernel_rfl) ?_
        refine H.kb 0 (fun b => b) (b := (Nat.beq (i + 1) (i + 1) && Nat.beq 1 1)) (d := true) (by simp) (by kernel_rfl) ?_
        refine H.lf (f := pL 1) 2 (Sum.inl ([.sl 0 0 n cap, .sl 1 0 (i + 1) none, iv (wr .i64 ((i : Int) + 1))], 1, [.ro nl m [.ci .i64 l], .vec 3 (i + 1) [.ci .i64 (List.take i (List.drop 0 (tq l i)) ++ [l.getD (0 + Int.toNat i) 0])]])) (by kernel_rfl) ?_
        have hlt : n - (i + 1) < mm := by omega
        have e : 0 + Int.toNat (i : Int) = i := by omega
        refine ⟨_, hlt, i + 1, by omega, rfl, .inr ⟨by omega, ?_⟩⟩
        rw [wrM (by omega), tq_succ, List.drop_zero, List.take_of_length_le (by rw [tq_len]; omega), e]
      · obtain rfl : i = n := by omega
        exact H.lf (f := pL 1) 1 (Sum.inr (Sum.inl (.sl 1 0 i none, [.vec 3 i [.ci .i64 (tq l i)]]))) (by kernel_rfl) (hq h0)
theorem t26 {l l2 : List Int} {nl : Bool} {el m n m2 : Nat} {cap cap2 : Option Nat} {Q : An → Prop} (hn : n ≤ m) (hn2 : n ≤ m2) (hb : n ≤ 2000) (he : ∀ i, i < n → l.getD i 0 = l2.getD i 0) (hq : Q (.b true, [])) :
    H (ev S0 5 26 [.sl 0 0 n cap, .sl 1 0 n cap2] (memL 2 [.vec el m [.ci .i64 l], .ro nl m2 [.ci .i64 l2]])) (fun x => Q (resV 2 x)) F0 := by
  refine fn1 (fi := fi26 false) (by kernel_rfl) (by kernel_rfl) (by kernel_rfl) rfl [0, 1, 0, 1, 1] 2 2 rfl (by kernel_rfl)
    (fun mm s => ∃ i : Nat, i ≤ n ∧ mm = n - i ∧ s = ([.sl 0 0 n cap, .sl 1 0 n cap2, iv i], 2, [.vec el m [.ci .i64 l], .ro nl m2 [.ci .i64 l2]])) ?_ ?_
  · refine pE_Q (k := 2) ?_
    refine H.ke 1 (fun b => (!b)) (n : Int) n rfl (by kernel_rfl) ?_
    refine H.lf (f := pE 2) 0 (Sum.inr ([0, 1, 0, 1, 1], 2, [.sl 0 0 n cap, .sl 1 0 n cap2, iv 0], 2, [.vec el m [.ci .i64 l], .ro nl m2 [.ci .i64 l2]])) (by kernel_rfl) ?_
    exact ⟨rfl, rfl, n, by omega, 0, by omega, rfl, rfl⟩
  · intro mm s hi
    obtain ⟨i, hi, hm, rfl⟩ := hi
    refine pL_Q (k := 2) ?_
    refine H.sd 1 (fun b => b) ((i : Int) < n) (by kernel_rfl) (fun h1 => ?_) (fun h1 => ?_)
    · have e : 0 + Int.toNat (i : Int) = i := by omega
      refine H.kd 5 (fun b => b) ((i : Int) < n) (by omega) (by kernel_rfl) ?_
      refine H.kl 1 (fun b => b) (0 + Int.toNat i) m (by omega) (by kernel_rfl) ?_
      refine H.kd 5 (fun b => b) ((i : Int) < n) (by omega) (by kernel_rfl) ?_
      refine H.kl 1 (fun b => b) (0 + Int.toNat i) m2 (by omega) (by kernel_rfl) ?_
      refine H.ke 4 (fun b => (!b)) (l.getD (0 + Int.toNat i) 0) (l2.getD (0 + Int.toNat i) 0) (by rw [e]; exact he i (by omega)) (by kernel_rfl) ?_
      refine H.lf (f := pL 2) 1 (Sum.inl ([.sl 0 0 n cap, .sl 1 0 n cap2, iv (wr .i64 ((i : Int) + 1))], 2, [.vec el m [.ci .i64 l], .ro nl m2 [.ci .i64 l2]])) (by kernel_rfl) ?_
      have hlt : n - (i + 1) < mm := by omega
      exact ⟨_, hlt, i + 1, by omega, rfl, by rw [wrM (by omega)]⟩
    · exact H.lf (f := pL 2) 0 (Sum.inr (Sum.inl (.b true, []))) (by kernel_rfl) hq
theorem t26n {l2 : List Int} {nl : Bool} {m2 : Nat} {cap2 : Option Nat} {Q : An → Prop} (hq : Q (.b true, [])) :
    H (ev S0 5 26 [.v (.slice none 0 0), .sl 0 0 0 cap2] (memL 1 [.ro nl m2 [.ci .i64 l2]])) (fun x => Q (resV 1 x)) F0 := by
  refine fn1 (fi := fi26 false) (by kernel_rfl) (by kernel_rfl) (by kernel_rfl) rfl [0, 1, 0, 1, 1] 1 1 rfl (by kernel_rfl) (fun mm s => s = ([.v (.slice none 0 0), .sl 0 0 0 cap2, iv 0], 1, [.ro nl m2 [.ci .i64 l2]])) ?_ ?_
  · refine pE_Q (k := 1) ?_
    refine H.lf (f := pE 1) 50 (Sum.inr ([0, 1, 0, 1, 1], 1, [.v (.slice none 0 0), .sl 0 0 0 cap2, iv 0], 1, [.ro nl m2 [.ci .i64 l2]])) (by kernel_rfl) ?_
    exact ⟨rfl, rfl, 0, by omega, rfl⟩
  · intro mm s hi
    subst hi
    refine pL_Q (k := 1) ?_
    exact H.lf (f := pL 1) 50 (Sum.inr (Sum.inl (.b true, []))) (by kernel_rfl) hq
noncomputable def k20 : List AV → List AObj → T An
  | [.sl 0 0 n _], [.ro _ m [.ci .i64 l]] => .br (decide (n ≤ m ∧ n ≤ 2000)) (.br (decide (n = 0)) (.ret (.v (.slice none 0 0), [])) (.ret (.sl 1 0 n none, [.vec 3 n [.ci .i64 (tq l n)]]))) .fail
  | _, _ => .fail
noncomputable def k26 : List AV → List AObj → T An
  | [.sl 0 0 n _, .sl 1 0 n2 _], [.vec _ m [.ci .i64 l], .ro _ m2 [.ci .i64 l2]] => .br (decide (n = n2 ∧ n ≤ m ∧ n ≤ m2 ∧ n ≤ 2000)) (.br (decide (∀ i, i < n → l.getD i 0 = l2.getD i 0)) (.ret (.b true, [])) .fail) .fail
  | [.v (.slice none 0 0), .sl 0 0 n2 _], [.ro _ _ [.ci .i64 _]] => .br (decide (n2 = 0)) (.ret (.b true, [])) .fail
  | _, _ => .fail
theorem v20 : Vb S0 20 k20 := by
  intro args objs Q h
  unfold k20 at h
  split at h
  · obtain ⟨h1, h⟩ := br_ok h
    have h1 := of_decide_eq_true h1
    exact t20 h1.1 h1.2 (fun e => h.1 (decide_eq_true e)) (fun e => h.2 (decide_eq_false (by omega)))
  · exact h.elim
theorem v26 : Vb S0 26 k26 := by
  intro args objs Q h
  unfold k26 at h
  split at h
  · obtain ⟨h1, k1⟩ := br_ok h
    obtain ⟨h2, k2⟩ := br_ok k1
    have h3 := of_decide_eq_true h1
    have h4 := of_decide_eq_true h2
    clear h1 h2 k1 h
    obtain ⟨rfl, h3⟩ := h3
    exact t26 h3.1 h3.2.1 h3.2.2 h4 k2
  · obtain ⟨h1, k1⟩ := br_ok h
    have h3 := of_decide_eq_true h1
    clear h1 h
    subst h3
    exact t26n k1
  · exact h.elim
noncomputable def k22 : List AV → List AObj → T An
  | [.sl 0 0 n _], [.vec _ m [.ci .i64 l]] => .br (decide (n ≤ m)) (.br (bkB l n) (.ret (iv 0, [])) (.ret (iv 1, []))) .fail
  | [.v (.slice none 0 0)], [] => .ret (iv 1, [])
  | _, _ => .fail
theorem v22 : Vb S6 22 k22 := by
  intro args objs Q h
  unfold k22 at h
  split at h
  · rename_i n cap el m l
    obtain ⟨h1, h⟩ := br_ok h
    have h1 := of_decide_eq_true h1
    refine fn0 (fi := fi22 false) (by kernel_rfl) (by kernel_rfl) (by kernel_rfl) 1 rfl ?_
    refine pE_Q (k := 1) ?_
    refine H.kd 1 (fun b => b) (n ≤ m) h1 (by kernel_rfl) ?_
    refine H.sb 1 (fun b => (!b)) (bkB l n) (by kernel_rfl) (fun h2 => ?_) (fun h2 => ?_)
    · exact H.lf (f := pE 1) 0 (Sum.inl (iv 0, [])) (by kernel_rfl) (h.1 h2)
    · exact H.lf (f := pE 1) 0 (Sum.inl (iv 1, [])) (by kernel_rfl) (h.2 h2)
  · exact H.lf (f := resV 0) 3000 (iv 1, []) (by kernel_rfl) h
  · exact h.elim
noncomputable def k23c : List AV → List AObj → T An
  | [.sl 0 0 n _], [.vec _ m [.ci .i64 l]] => .br (decide (n ≤ m)) (.br (bkB l n) (.ret (okI (mxL l (n - 1)))) (.ret erI)) .fail
  | [.v (.slice none 0 0)], [] => .ret erI
  | _, _ => .fail
theorem v23c : Vb S6 23 k23c := by
  intro args objs Q h
  unfold k23c at h
  split at h
  · obtain ⟨h1, h⟩ := br_ok h
    exact t23v (of_decide_eq_true h1) h.1 h.2
  · exact H.lf (f := resV 0) 3000 erI (by kernel_rfl) h
  · exact h.elim
noncomputable def k25c : List AV → List AObj → T An
  | [.sl 0 0 n _, .i .i64 q], [.vec _ m [.ci .i64 l]] => .br (decide (n ≤ m)) (.br (decide (bkB l n = true ∧ 1 ≤ q ∧ q ≤ 1048576)) (.ret (okI (nxV l n q))) (.ret erI)) .fail
  | [.v (.slice none 0 0), .i .i64 _], [] => .ret erI
  | _, _ => .fail
theorem v25c : Vb S6 25 k25c := by
  intro args objs Q h
  unfold k25c at h
  split at h
  · obtain ⟨h1, h⟩ := br_ok h
    exact t25v (of_decide_eq_true h1) (fun a b => h.1 (decide_eq_true ⟨a, b⟩)) (fun a => h.2 (decide_eq_false a))
  · exact H.lf (f := resV 0) 3000 erI (by kernel_rfl) h
  · exact h.elim
noncomputable def k24 : List AV → List AObj → T An
  | [.sl 0 0 n _, .i .i64 q], [.ro _ m [.ci .i64 l]] => .br (decide (n ≤ m ∧ bkB l n = true ∧ 1 ≤ q ∧ q ≤ 1048576)) (.ret (iv (nxV l n q), [])) .fail
  | _, _ => .fail
theorem v24 : Vb S0 24 k24 := by
  intro args objs Q h
  unfold k24 at h
  split at h
  · rename_i n cap q nl m l
    obtain ⟨h1, h⟩ := br_ok h
    obtain ⟨h1, hb, hq⟩ := of_decide_eq_true h1
    have hb := bkT.1 hb
    have hw : wr .i64 ((if (n : Int) < q then (n : Int) else q) - 1) = (if (n : Int) < q then (n : Int) else q) - 1 := wr64 (by split <;> omega) (by split <;> omega)
    have hw2 : 0 ≤ (if (n : Int) < q then (n : Int) else q) - 1 ∧ (if (n : Int) < q then (n : Int) else q) - 1 < n := by split <;> omega
    refine fn0 (fi := fi24 false) (by kernel_rfl) (by kernel_rfl) (by kernel_rfl) 1 rfl ?_
    refine pE_Q (k := 1) ?_
    refine H.kd 2 (fun b => b) (0 ≤ wr IntKind.i64 ((if (n : Int) < q then (n : Int) else q) - 1)) (by rw [hw]; exact hw2.1) (by kernel_rfl) ?_
    refine H.kd 0 (fun b => b) (wr IntKind.i64 ((if (n : Int) < q then (n : Int) else q) - 1) < (n : Int)) (by rw [hw]; exact hw2.2) (by kernel_rfl) ?_
    refine H.kl 0 (fun b => b) (0 + Int.toNat (wr IntKind.i64 ((if (n : Int) < q then (n : Int) else q) - 1))) m (by rw [hw]; omega) (by kernel_rfl) ?_
    refine H.lf (f := pE 1) 0 (Sum.inl (iv (l.getD (0 + Int.toNat (wr IntKind.i64 ((if (n : Int) < q then (n : Int) else q) - 1))) 0), [])) (by kernel_rfl) ?_
    rw [hw, Nat.zero_add]
    exact h
  · exact h.elim
noncomputable def S8 : Sp := fun n => bif2 (Nat.beq n 27) (some (treeS g27)) (bif2 (Nat.beq n 19) (some (viewS k19)) (bif2 (Nat.beq n 20) (some (viewS k20)) (bif2 (Nat.beq n 22) (some (viewS k22)) (bif2 (Nat.beq n 23) (some (viewS k23c)) (bif2 (Nat.beq n 24) (some (viewS k24)) (bif2 (Nat.beq n 25) (some (viewS k25c)) (bif2 (Nat.beq n 26) (some (viewS k26)) none)))))))
theorem s8 (N : Nat) : SOk Try.prog N S8 :=
  sOk_ctr tok (fok false) hmix (s0 N) (sOk_view tok (fok false) hmix (s0 N) (sOk_view tok (fok false) hmix (s0 N) (sOk_view tok (fok false) hmix (s6 N) (sOk_view tok (fok false) hmix (s6 N) (sOk_view tok (fok false) hmix (s0 N) (sOk_view tok (fok false) hmix (s6 N) (sOk_view tok (fok false) hmix (s0 N) (s0 N) v26) v25c) v24) v23c) v22) v20) v19) c27
end Go.Proofs.TabA
