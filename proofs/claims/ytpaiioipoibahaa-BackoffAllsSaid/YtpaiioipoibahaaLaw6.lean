/- The law's loop, round by round, and the arithmetic that it asks for, for all inputs of the law. -/
import Derived.Test.YtpaiioipoibahaaBkB
set_option linter.all false
set_option linter.deprecated false
set_option maxRecDepth 1000000
set_option maxHeartbeats 4000000
namespace Go.Proofs.TabA
open Go Go.Eng
noncomputable def sN (l : List Int) (n : Nat) : Nat → Int
  | 0 => 0
  | k + 1 => sN l n k + nxV l n ((k + 1 : Nat) : Int)
theorem nx_b {l : List Int} {n : Nat} (h : bkB l n = true) (k : Nat) : 1 ≤ nxV l n ((k + 1 : Nat) : Int) ∧ nxV l n ((k + 1 : Nat) : Int) ≤ 1099511627776 ∧ nxV l n ((k + 1 : Nat) : Int) ≤ mxL l (n - 1) := by
  obtain ⟨h1, h2, h3⟩ := bkT.1 h
  have hm := (mxL_spec l (mxL l (n - 1)) (n - 1)).1 (Int.le_refl _)
  unfold nxV
  have hj : Int.toNat ((if (n : Int) < ((k + 1 : Nat) : Int) then (n : Int) else ((k + 1 : Nat) : Int)) - 1) < n := by split <;> omega
  generalize Int.toNat ((if (n : Int) < ((k + 1 : Nat) : Int) then (n : Int) else ((k + 1 : Nat) : Int)) - 1) = j at *
  exact ⟨(h3 j hj).1, (h3 j hj).2, hm j (by omega)⟩
theorem sN_b {l : List Int} {n : Nat} (h : bkB l n = true) (k : Nat) : (k : Int) ≤ sN l n k ∧ sN l n k ≤ (k : Int) * 1099511627776 ∧ sN l n k ≤ (k : Int) * mxL l (n - 1) := by
  induction k with
  | zero => simp [sN]
  | succ k ih =>
    have h1 := nx_b h k
    have e : sN l n (k + 1) = sN l n k + nxV l n ((k + 1 : Nat) : Int) := rfl
    have e2 : ((k + 1 : Nat) : Int) * mxL l (n - 1) = (k : Int) * mxL l (n - 1) + mxL l (n - 1) := by rw [show ((k + 1 : Nat) : Int) = (k : Int) + 1 from rfl, Int.add_mul, Int.one_mul]
    rw [e, e2]
    omega
theorem al_eq {l : List Int} {n : Nat} (h : bkB l n = true) (k : Nat) : alV l n (k : Int) = sN l n k := by
  obtain ⟨h1, _, _⟩ := bkT.1 h
  induction k with
  | zero =>
    unfold alV
    rw [if_neg (by omega), if_neg (by omega)]
    rfl
  | succ k ih =>
    show _ = sN l n k + nxV l n ((k + 1 : Nat) : Int)
    rw [← ih]
    unfold alV nxV
    rcases (by omega : k + 1 ≤ n ∨ n ≤ k) with h2 | h2
    · rw [if_neg (by omega), if_neg (by omega), if_neg (by omega), if_neg (by omega)]
      have e1 : Int.toNat ((k + 1 : Nat) : Int) = k + 1 := by omega
      have e2 : Int.toNat (k : Int) = k := by omega
      have e3 : Int.toNat (((k + 1 : Nat) : Int) - 1) = k := by omega
      rw [e1, e2, e3]
      show pf l k + l.getD k 0 + 0 = pf l k + 0 + l.getD k 0
      omega
    · have e1 : (if (n : Int) < ((k + 1 : Nat) : Int) then (n : Int) else ((k + 1 : Nat) : Int)) = n := by split <;> omega
      have e2 : (if (n : Int) < (k : Int) then (n : Int) else (k : Int)) = n := by split <;> omega
      rw [e1, e2, if_pos (by omega)]
      have e3 : Int.toNat ((n : Int) - 1) = n - 1 := by omega
      have e4 : (if (k : Int) > (n : Int) then ((k : Int) - n) * l.getD (n - 1) 0 else 0) = ((k : Int) - n) * l.getD (n - 1) 0 := by
        split
        · rfl
        · have : (k : Int) - n = 0 := by omega
          rw [this, Int.zero_mul]
      have e5 : (((k + 1 : Nat) : Int) - n) * l.getD (n - 1) 0 = ((k : Int) - n) * l.getD (n - 1) 0 + l.getD (n - 1) 0 := by
        rw [show ((k + 1 : Nat) : Int) - n = ((k : Int) - n) + 1 by omega, Int.add_mul, Int.one_mul]
      rw [e3, e4, e5]
      omega
section
variable {nl nl2 : Bool} {n cap n2 cap2 : Nat} {l q : List Int}
abbrev ob6 (nl nl2 : Bool) (n cap n2 cap2 : Nat) (l q : List Int) : List AObj := [.ro nl n [.ci .i64 l], .ro nl2 n2 [.ci .i64 q], .own 35 2 [.sl 0 0 n (some cap), .sl 1 0 n2 (some cap2)]]
def Inv6 (nl nl2 : Bool) (n cap n2 cap2 : Nat) (l q : List Int) (m : Nat) (s : St3) : Prop := ∃ (i : Nat) (a1 a2 a3 a4 a5 a6 a7 : AV), i ≤ 20 ∧ m = 20 - i ∧ s = ([.ptr 2 0 0, iv i, a1, a2, a3, a4, a5, a6, a7], 2, ob6 nl nl2 n cap n2 cap2 l q)
def Inn6 (nl nl2 : Bool) (n cap n2 cap2 : Nat) (l q : List Int) (m m2 : Nat) (s : St3) : Prop := ∃ (i Q k : Nat), i < 20 ∧ m = 20 - i ∧ Q < 300 ∧ k ≤ Q ∧ m2 = Q - k ∧ s = ([.ptr 2 0 0, iv i, iv (Q : Int), iv (alV l n Q), iv 0, iv (mxL l (n - 1)), iv 0, iv (sN l n k), iv ((k + 1 : Nat) : Int)], 2, ob6 nl nl2 n cap n2 cap2 l q)
theorem in6 {m i : Nat} {x : Int} (hb : bkB l n = true) (hi : i ≤ 20) (hmi : m = 20 - i) (h : i < 20) {I : St3 → Prop} :
    OkO I (fun _ => False) (fun t => t.1 = [0, 1, 0, 1, 1, 1, 1, 0, 0, 1] ∧ t.2.1 = 3 ∧ ∃ m2, m2 < 1048576 ∧ Inn6 nl nl2 n cap n2 cap2 l q m m2 t.2.2)
      (.inr ([0, 1, 0, 1, 1, 1, 1, 0, 0, 1], 3, [.ptr 2 0 0, iv i, iv (wi x 300), iv (alV l n (wi x 300)), iv 0, iv (mxL l (n - 1)), iv 0, iv 0, iv 1], 2, ob6 nl nl2 n cap n2 cap2 l q)) := by
  have h1 := wi_nonneg (n := x) (m := 300) (by omega)
  have h2 := wi_lt (n := x) (m := 300) (by omega)
  obtain ⟨Q, hQ⟩ : ∃ Q : Nat, wi x 300 = (Q : Int) := ⟨(wi x 300).toNat, by omega⟩
  rw [hQ]
  have hlt : Q - 0 < 1048576 := by omega
  exact ⟨rfl, rfl, _, hlt, i, Q, 0, h, hmi, by omega, by omega, rfl, rfl⟩
theorem ag6 {m m2 i k Q : Nat} {G' G2 : Stop → Prop} {I : St3 → Prop} (hi : i < 20 ∧ m = 20 - i ∧ Q < 300 ∧ k ≤ Q ∧ m2 = Q - k) (hb : bkB l n = true) (h : ((k + 1 : Nat) : Int) ≤ (Q : Int)) :
    OkI (fun s' => ∃ m', m' < m2 ∧ Inn6 nl nl2 n cap n2 cap2 l q m m' s') I G' G2 (.inl ([.ptr 2 0 0, iv i, iv (Q : Int), iv (alV l n Q), iv 0, iv (mxL l (n - 1)), iv 0, iv (wr .i64 (sN l n k + nxV l n ((k + 1 : Nat) : Int))), iv (wr .i64 (((k + 1 : Nat) : Int) + 1))], 2, ob6 nl nl2 n cap n2 cap2 l q)) := by
  obtain ⟨h1, h2, h3, h4, h5⟩ := hi
  have hlt : Q - (k + 1) < m2 := by omega
  have e := sN_b hb k
  have e2 := nx_b hb k
  refine ⟨_, hlt, i, Q, k + 1, h1, h2, h3, by omega, rfl, ?_⟩
  rw [wrM (by omega), wr64 (n := sN l n k + nxV l n ((k + 1 : Nat) : Int)) (by omega) (by omega)]
  rfl
theorem out6 {m m2 i k Q : Nat} {a1 a2 a3 a4 a5 a6 a7 : AV} {G' G2 : Stop → Prop} {I2 : St3 → Prop} (hi : i < 20 ∧ m = 20 - i ∧ Q < 300 ∧ k ≤ Q ∧ m2 = Q - k) (hmi : m = 20 - i) :
    OkI I2 (fun s' => ∃ m', m' < m ∧ Inv6 nl nl2 n cap n2 cap2 l q m' s') G' G2 (.inr (.inl (.inl ([.ptr 2 0 0, iv (wr .i64 ((i : Int) + 1)), a1, a2, a3, a4, a5, a6, a7], 2, ob6 nl nl2 n cap n2 cap2 l q)))) := by
  obtain ⟨h1, h2, h3, h4, h5⟩ := hi
  have hlt : 20 - (i + 1) < m := by omega
  exact ⟨_, hlt, i + 1, _, _, _, _, _, _, _, by omega, rfl, by rw [wrM (by omega)]⟩
theorem stepO6 (hb : bkB l n = true) (m : Nat) (s : St3) (hi : Inv6 nl nl2 n cap n2 cap2 l q m s) :
    H (lawO S7 (fi6 false) 2 [1,1,1,0,1,0] 3 [.agg [.sl 0 0 n (some cap), .sl 1 0 n2 (some cap2)]] s) (OkY (OkS (fun s' => ∃ m', m' < m ∧ Inv6 nl nl2 n cap n2 cap2 l q m' s') (OkT (fun _ => False))) (fun t => t.1 = [0, 1, 0, 1, 1, 1, 1, 0, 0, 1] ∧ t.2.1 = 3 ∧ ∃ m2, m2 < 1048576 ∧ Inn6 nl nl2 n cap n2 cap2 l q m m2 t.2.2)) (fun _ _ => False) := by
  obtain ⟨i, a1, a2, a3, a4, a5, a6, a7, hi, hmi, rfl⟩ := hi
  have hw : 0 ≤ wi (q.getD (0 + Int.toNat (i : Int)) 0) 300 ∧ wi (q.getD (0 + Int.toNat (i : Int)) 0) 300 < 300 := ⟨wi_nonneg (by omega), wi_lt (by omega)⟩
  refine lawO_Q ?_
  refine H.sd 2 (fun b => (b == true)) ((↑i : Int) < (↑n2 : Int)) (by kernel_rfl) (fun h1 => ?_) (fun h1 => ?_)
  ·
   refine H.sd 3 (fun b => b) ((↑i : Int) < 20) (by kernel_rfl) (fun h2 => ?_) (fun h2 => ?_)
   ·
    refine H.kd 3 (fun b => b) ((↑i : Int) < (↑n2 : Int)) (by (first | assumption | omega | exact ⟨hb, by omega⟩)) (by kernel_rfl) ?_
    refine H.kl 0 (fun b => b) (0 + Int.toNat (↑i : Int)) (n2) (by (first | assumption | omega | exact ⟨hb, by omega⟩)) (by kernel_rfl) ?_
    refine H.kd 3 (fun b => b) (n ≤ n) (by (first | assumption | omega | exact ⟨hb, by omega⟩)) (by kernel_rfl) ?_
    refine H.kd 0 (fun b => b) (bkB l n = true ∧ 0 ≤ wi (List.getD q (0 + Int.toNat (↑i : Int)) 0) 300 ∧ wi (List.getD q (0 + Int.toNat (↑i : Int)) 0) 300 ≤ 1048576) (by (first | assumption | omega | exact ⟨hb, by omega⟩)) (by kernel_rfl) ?_
    refine H.kd 3 (fun b => b) (n ≤ n) (by (first | assumption | omega | exact ⟨hb, by omega⟩)) (by kernel_rfl) ?_
    refine H.kb 0 (fun b => b) (b := (bkB l n)) (d := true) (by (first | assumption | omega | exact ⟨hb, by omega⟩)) (by kernel_rfl) ?_
    refine H.lf (f := ocO) 1 (Sum.inr ([0, 1, 0, 1, 1, 1, 1, 0, 0, 1], 3, [AV.ptr 2 0 0, AV.i IntKind.i64 (↑i : Int), AV.i IntKind.i64 (wi (List.getD q (0 + Int.toNat (↑i : Int)) 0) 300), AV.i IntKind.i64 (alV l n (wi (List.getD q (0 + Int.toNat (↑i : Int)) 0) 300)), AV.i IntKind.i64 0, AV.i IntKind.i64 (mxL l (n - 1)), AV.i IntKind.i64 0, AV.i IntKind.i64 0, AV.i IntKind.i64 1], 2, [AObj.ro nl n [Col.ci IntKind.i64 l], AObj.ro nl2 n2 [Col.ci IntKind.i64 q], AObj.own 35 2 [AV.sl 0 0 n (some cap), AV.sl 1 0 n2 (some cap2)]])) (by kernel_rfl) ?_
    first | exact in6 hb hi hmi (by omega) | exact rfl
   ·
    refine H.kd 2 (fun b => b) (n ≤ n) (by (first | assumption | omega | exact ⟨hb, by omega⟩)) (by kernel_rfl) ?_
    refine H.nd 0 (fun b => b) (bkB l n = true ∧ (0 : Int) ≤ (-1 : Int) ∧ (-1 : Int) ≤ (1048576 : Int)) (by (first | assumption | omega | exact ⟨hb, by omega⟩)) (by kernel_rfl) ?_
    refine H.kd 3 (fun b => b) (n ≤ n) (by (first | assumption | omega | exact ⟨hb, by omega⟩)) (by kernel_rfl) ?_
    refine H.nd 0 (fun b => b) (bkB l n = true ∧ (0 : Int) ≤ (1048577 : Int) ∧ (1048577 : Int) ≤ (1048576 : Int)) (by (first | assumption | omega | exact ⟨hb, by omega⟩)) (by kernel_rfl) ?_
    refine H.lf (f := ocO) 27 (Sum.inl (Sum.inr (Sum.inl (AV.b true)))) (by kernel_rfl) ?_
    first | exact in6 hb hi hmi (by omega) | exact rfl
  ·
   refine H.kd 5 (fun b => b) (n ≤ n) (by (first | assumption | omega | exact ⟨hb, by omega⟩)) (by kernel_rfl) ?_
   refine H.nd 0 (fun b => b) (bkB l n = true ∧ (0 : Int) ≤ (-1 : Int) ∧ (-1 : Int) ≤ (1048576 : Int)) (by (first | assumption | omega | exact ⟨hb, by omega⟩)) (by kernel_rfl) ?_
   refine H.kd 3 (fun b => b) (n ≤ n) (by (first | assumption | omega | exact ⟨hb, by omega⟩)) (by kernel_rfl) ?_
   refine H.nd 0 (fun b => b) (bkB l n = true ∧ (0 : Int) ≤ (1048577 : Int) ∧ (1048577 : Int) ≤ (1048576 : Int)) (by (first | assumption | omega | exact ⟨hb, by omega⟩)) (by kernel_rfl) ?_
   refine H.lf (f := ocO) 27 (Sum.inl (Sum.inr (Sum.inl (AV.b true)))) (by kernel_rfl) ?_
   first | exact in6 hb hi hmi (by omega) | exact rfl
theorem stepI6 (hb : bkB l n = true) (m m2 : Nat) (s : St3) (hi : Inn6 nl nl2 n cap n2 cap2 l q m m2 s) :
    H (lawI S7 (fi6 false) 2 [1,1,1,0,1,0] 3 [1,0,0,1,1,1,1,0,1,0] 3 [.agg [.sl 0 0 n (some cap), .sl 1 0 n2 (some cap2)]] s) (OkS (fun s' => ∃ m', m' < m2 ∧ Inn6 nl nl2 n cap n2 cap2 l q m m' s') (OkY (OkS (fun s' => ∃ m', m' < m ∧ Inv6 nl nl2 n cap n2 cap2 l q m' s') (OkT (fun _ => False))) (fun _ => False))) (fun _ _ => False) := by
  obtain ⟨i, Q, k, h1, hmi, h3, h4, h5, rfl⟩ := hi
  have hi := And.intro h1 (And.intro hmi (And.intro h3 (And.intro h4 h5)))
  have hend : ¬ ((k + 1 : Nat) : Int) ≤ (Q : Int) → alV l n Q = sN l n k ∧ (Q : Int) ≤ alV l n Q ∧ alV l n Q ≤ wr .i64 ((Q : Int) * mxL l (n - 1)) := by
    intro h
    obtain rfl : k = Q := by omega
    have e := sN_b hb k
    rw [al_eq hb]
    have hm : mxL l (n - 1) ≤ 1099511627776 := by
      obtain ⟨g1, _, g3⟩ := bkT.1 hb
      exact (mxL_spec l _ (n - 1)).2 fun i hi => (g3 i (by omega)).2
    have hm2 : (k : Int) * mxL l (n - 1) ≤ 300 * 1099511627776 := by
      have hm0 : 1 ≤ mxL l (n - 1) := by
        have := nx_b hb 0
        omega
      exact Int.mul_le_mul (by omega) hm (by omega) (by omega)
    rw [wr64 (by omega) (by omega)]
    exact ⟨rfl, e.1, e.2.2⟩
  refine lawI_Q ?_
  refine H.sd 1 (fun b => b) ((↑(k + 1) : Int) ≤ (Q : Int)) (by kernel_rfl) (fun h1 => ?_) (fun h1 => ?_)
  ·
   refine H.kd 2 (fun b => b) (n ≤ n) (by (first | assumption | omega | exact ⟨hb, by omega⟩ | exact (hend (by assumption)).1 | (have := hend (by assumption); omega))) (by kernel_rfl) ?_
   refine H.kd 0 (fun b => b) (bkB l n = true ∧ 1 ≤ (↑(k + 1) : Int) ∧ (↑(k + 1) : Int) ≤ 1048576) (by (first | assumption | omega | exact ⟨hb, by omega⟩ | exact (hend (by assumption)).1 | (have := hend (by assumption); omega))) (by kernel_rfl) ?_
   refine H.lf (f := ocI) 6 (Sum.inl ([AV.ptr 2 0 0, AV.i IntKind.i64 (↑i : Int), AV.i IntKind.i64 (Q : Int), AV.i IntKind.i64 (alV l n (Q : Int)), AV.i IntKind.i64 0, AV.i IntKind.i64 (mxL l (n - 1)), AV.i IntKind.i64 0, AV.i IntKind.i64 (wr IntKind.i64 (sN l n k + nxV l n (↑(k + 1) : Int))), AV.i IntKind.i64 (wr IntKind.i64 ((↑(k + 1) : Int) + 1))], 2, [AObj.ro nl n [Col.ci IntKind.i64 l], AObj.ro nl2 n2 [Col.ci IntKind.i64 q], AObj.own 35 2 [AV.sl 0 0 n (some cap), AV.sl 1 0 n2 (some cap2)]])) (by kernel_rfl) ?_
   first | exact ag6 hi hb (by omega) | exact out6 hi hmi
  ·
   refine H.ke 13 (fun b => ((!b) == false)) (alV l n (Q : Int)) (sN l n k) (by (first | assumption | omega | exact ⟨hb, by omega⟩ | exact (hend (by assumption)).1 | (have := hend (by assumption); omega))) (by kernel_rfl) ?_
   refine H.nd 4 (fun b => (b == false)) (alV l n (Q : Int) < (Q : Int)) (by (first | assumption | omega | exact ⟨hb, by omega⟩ | exact (hend (by assumption)).1 | (have := hend (by assumption); omega))) (by kernel_rfl) ?_
   refine H.nd 7 (fun b => b) (alV l n (Q : Int) > wr IntKind.i64 ((Q : Int) * mxL l (n - 1))) (by (first | assumption | omega | exact ⟨hb, by omega⟩ | exact (hend (by assumption)).1 | (have := hend (by assumption); omega))) (by kernel_rfl) ?_
   refine H.lf (f := ocI) 1 (Sum.inr (Sum.inl (Sum.inl ([AV.ptr 2 0 0, AV.i IntKind.i64 (wr IntKind.i64 ((↑i : Int) + 1)), AV.i IntKind.i64 (Q : Int), AV.i IntKind.i64 (alV l n (Q : Int)), AV.i IntKind.i64 0, AV.i IntKind.i64 (mxL l (n - 1)), AV.i IntKind.i64 0, AV.i IntKind.i64 (sN l n k), AV.i IntKind.i64 (↑(k + 1) : Int)], 2, [AObj.ro nl n [Col.ci IntKind.i64 l], AObj.ro nl2 n2 [Col.ci IntKind.i64 q], AObj.own 35 2 [AV.sl 0 0 n (some cap), AV.sl 1 0 n2 (some cap2)]])))) (by kernel_rfl) ?_
   first | exact ag6 hi hb (by omega) | exact out6 hi hmi
theorem law6 (M : Mem) (hM : M = memL 2 [.ro nl n [.ci .i64 l], .ro nl2 n2 [.ci .i64 q]]) : H (ev S7 5 6 [.agg [.sl 0 0 n (some cap), .sl 1 0 n2 (some cap2)]] M) (fun x => x.1 = .b true) (fun _ _ => False) := by
  subst hM
  cases hb : bkB l n with
  | true =>
    refine law2 (fi := fi6 false) (by kernel_rfl) (by kernel_rfl) (by kernel_rfl) rfl [0, 1, 0, 1, 1, 1] 3 [0, 1, 0, 1, 1, 1, 1, 0, 0, 1] 3 2 rfl (by kernel_rfl) (by kernel_rfl) (Inv6 nl nl2 n cap n2 cap2 l q) (Inn6 nl nl2 n cap n2 cap2 l q) ?_ (stepO6 hb) (stepI6 hb)
    refine lawE_Q ?_
    refine H.sd 3 (fun b => b) ((n : Int) > 2000) (by kernel_rfl) (fun h1 => ?_) (fun h1 => ?_)
    · exact H.lf (f := oc) 1 (Sum.inl (AV.b true)) (by kernel_rfl) rfl
    · refine H.kd 2 (fun b => b) (n ≤ n) (Nat.le_refl _) (by kernel_rfl) ?_
      refine H.kb 1 (fun b => (!b)) (b := bkB l n) (d := true) hb (by kernel_rfl) ?_
      refine H.lf (f := oc) 0 (Sum.inr ([0, 1, 0, 1, 1, 1], 3, [.ptr 2 0 0, iv 0, .top, .top, .top, .top, .top, .top, .top], 2, ob6 nl nl2 n cap n2 cap2 l q)) (by kernel_rfl) ?_
      exact ⟨rfl, rfl, 20, by omega, 0, _, _, _, _, _, _, _, by omega, rfl, rfl⟩
  | false =>
    refine law2 (fi := fi6 false) (by kernel_rfl) (by kernel_rfl) (by kernel_rfl) rfl [0, 1, 0, 1, 1, 1] 3 [0, 1, 0, 1, 1, 1, 1, 0, 0, 1] 3 2 rfl (by kernel_rfl) (by kernel_rfl) (fun _ _ => False) (fun _ _ _ => False) ?_ (fun _ _ h => h.elim) (fun _ _ _ h => h.elim)
    refine lawE_Q ?_
    refine H.sd 3 (fun b => b) ((n : Int) > 2000) (by kernel_rfl) (fun h1 => ?_) (fun h1 => ?_)
    · exact H.lf (f := oc) 1 (Sum.inl (AV.b true)) (by kernel_rfl) rfl
    · refine H.kd 2 (fun b => b) (n ≤ n) (Nat.le_refl _) (by kernel_rfl) ?_
      refine H.kb 1 (fun b => (!b)) (b := bkB l n) (d := false) hb (by kernel_rfl) ?_
      refine H.kd 2 (fun b => b) (n ≤ n) (Nat.le_refl _) (by kernel_rfl) ?_
      refine H.nd 0 (fun b => b) (bkB l n = true ∧ (0 : Int) ≤ 1 ∧ (1 : Int) ≤ 1048576) (by rw [hb]; simp) (by kernel_rfl) ?_
      exact H.lf (f := oc) 6 (Sum.inl (AV.b true)) (by kernel_rfl) rfl
end
end Go.Proofs.TabA
