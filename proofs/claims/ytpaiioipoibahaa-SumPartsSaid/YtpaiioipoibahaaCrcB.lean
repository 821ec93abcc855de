/- What the sums and copies of bytes are, proved by the evaluator for all arguments that each contract names. -/
import Derived.Test.YtpaiioipoibahaaCrcA
set_option linter.all false
set_option linter.deprecated false
set_option maxRecDepth 1000000
set_option maxHeartbeats 4000000
namespace Go.Proofs.TabA
open Go Go.Eng
/-! ## Both sums are the same -/
theorem wr32 (n : Int) : wr .u32 n = n % 4294967296 := rfl
def in32 (s : Int) : Prop := 0 ≤ s ∧ s < 4294967296
theorem xo_eq (a b : Int) : xo a b = ((BitVec.ofInt 32 a ^^^ BitVec.ofInt 32 b).toNat : Int) := by
  show wr .u32 ((BitVec.ofInt 32 a ^^^ BitVec.ofInt 32 b).toNat : Int) = _
  rw [wr32]
  have := (BitVec.ofInt 32 a ^^^ BitVec.ofInt 32 b).isLt
  omega
theorem xo_in (a b : Int) : in32 (xo a b) := by
  rw [xo_eq]
  have := (BitVec.ofInt 32 a ^^^ BitVec.ofInt 32 b).isLt
  exact ⟨by omega, by omega⟩
theorem xo_comm (a b : Int) : xo a b = xo b a := by rw [xo_eq, xo_eq, BitVec.xor_comm]
theorem ofInt_nat {a : Int} (h : in32 a) : ((BitVec.ofInt 32 a).toNat : Int) = a := by
  obtain ⟨h1, h2⟩ := h
  rw [BitVec.toNat_ofInt]
  omega
theorem xo_zero {a : Int} (h : in32 a) : xo a 0 = a := by
  rw [xo_eq]
  have : (BitVec.ofInt 32 0) = 0#32 := rfl
  rw [this, BitVec.xor_zero, ofInt_nat h]
theorem an_one {s : Int} (h : in32 s) : an s 1 = s % 2 := by
  show wr .u32 ((BitVec.ofInt 32 s &&& BitVec.ofInt 32 1).toNat : Int) = _
  have e : BitVec.ofInt 32 1 = 1#32 := rfl
  rw [wr32, e, BitVec.toNat_and]
  have e2 : (1#32).toNat = 1 := rfl
  rw [e2, Nat.and_one_is_mod]
  have := ofInt_nat h
  obtain ⟨h1, h2⟩ := h
  omega
theorem sh_eq (s : Int) : sh s = s / 2 := by
  show s.fdiv 2 = s / 2
  exact Int.fdiv_eq_ediv_of_nonneg _ (by omega)
theorem sh_in {s : Int} (h : in32 s) : in32 (sh s) := by
  obtain ⟨h1, h2⟩ := h
  rw [sh_eq]
  exact ⟨by omega, by omega⟩
theorem st_same {s : Int} (h : in32 s) : stA1 s = stB1 s := by
  have e := an_one h
  unfold stA1 stB1
  split
  · rename_i h1
    rw [h1]
    rfl
  · rename_i h1
    have : an s 1 = 0 := by omega
    rw [this]
    exact xo_zero (sh_in h)
theorem stA_in (s : Int) : in32 (stA1 s) := xo_in _ _
theorem it_same {s : Int} (h : in32 s) (n : Nat) : itN stA1 n s = itN stB1 n s ∧ in32 (itN stA1 n s) := by
  induction n with
  | zero => exact ⟨rfl, h⟩
  | succ n ih =>
    refine ⟨?_, stA_in _⟩
    show stA1 (itN stA1 n s) = stB1 (itN stB1 n s)
    rw [← ih.1, st_same ih.2]
theorem cr_same (l : List Int) (r : Nat) (s : Int) (n : Nat) : crN stA1 l r s n = crN stB1 l r s n := by
  induction n with
  | zero => rfl
  | succ n ih =>
    show itN stA1 8 _ = itN stB1 8 _
    rw [ih, (it_same (xo_in _ _) 8).1]
theorem c_same (l : List Int) (r n : Nat) (s : Int) : cA l r n s = cB l r n s := by
  unfold cA cB
  rw [cr_same, xo_comm, xo_comm 4294967295 s]
theorem cr_congr (f : Int → Int) {l l' : List Int} {r r' : Nat} (s : Int) (n : Nat) (h : ∀ i, i < n → l.getD (r + i) 0 = l'.getD (r' + i) 0) : crN f l r s n = crN f l' r' s n := by
  induction n with
  | zero => rfl
  | succ n ih =>
    show itN f 8 (xo _ (wr .u32 (l.getD (r + n) 0))) = itN f 8 (xo _ (wr .u32 (l'.getD (r' + n) 0)))
    rw [ih (fun i hi => h i (by omega)), h n (by omega)]

/-! ## Copies of bytes, and whether they are the same -/
def tk (l : List Int) (r n : Nat) : List Int := (List.range n).map fun i => l.getD (r + i) 0
theorem tk_len (l : List Int) (r n : Nat) : (tk l r n).length = n := by simp [tk]
theorem tk_succ (l : List Int) (r n : Nat) : tk l r (n + 1) = tk l r n ++ [l.getD (r + n) 0] := by simp [tk, List.range_succ]
theorem tk_get (l : List Int) (r n i : Nat) (h : i < n) : (tk l r n).getD i 0 = l.getD (r + i) 0 := by simp [tk, List.getD_eq_getElem?_getD, List.getElem?_range h]
theorem t13 {l : List Int} {nl : Bool} {m r n : Nat} {cap : Option Nat} {Q : An → Prop} (hn : r + n ≤ m) (hb : n ≤ 3000) (hq0 : n = 0 → Q (.v (.slice none 0 0), [])) (hq : 0 < n → Q (.sl 1 0 n none, [.vec 5 n [.ci .u8 (tk l r n)]])) :
    H (ev S0 5 13 [.sl 0 r n cap] (memL 1 [.ro nl m [.ci .u8 l]])) (fun x => Q (resV 1 x)) F0 := by
  refine fn1 (fi := fi13 false) (by kernel_rfl) (by kernel_rfl) (by kernel_rfl) rfl [0, 1, 0, 1, 1] 1 1 rfl (by kernel_rfl)
    (fun mm s => ∃ i : Nat, i ≤ n ∧ mm = n - i ∧ ((i = 0 ∧ s = ([.sl 0 r n cap, .v (.slice none 0 0), iv 0], 1, [.ro nl m [.ci .u8 l]])) ∨ (0 < i ∧ s = ([.sl 0 r n cap, .sl 1 0 i none, iv i], 1, [.ro nl m [.ci .u8 l], .vec 5 i [.ci .u8 (tk l r i)]])))) ?_ ?_
  · refine pE_Q (k := 1) ?_
    refine H.lf (f := pE 1) 0 (Sum.inr ([0, 1, 0, 1, 1], 1, [.sl 0 r n cap, .v (.slice none 0 0), iv 0], 1, [.ro nl m [.ci .u8 l]])) (by kernel_rfl) ?_
    exact ⟨rfl, rfl, n, by omega, 0, by omega, rfl, .inl ⟨rfl, rfl⟩⟩
  · intro mm s hi
    obtain ⟨i, hi, hm, ⟨rfl, rfl⟩ | ⟨h0, rfl⟩⟩ := hi
    · refine pL_Q (k := 1) ?_
      refine H.sd 1 (fun b => b) ((0 : Int) < n) (by kernel_rfl) (fun h1 => ?_) (fun h1 => ?_)
      · refine H.kd 2 (fun b => b) ((0 : Int) < n) (by omega) (by kernel_rfl) ?_
        refine H.kl 0 (fun b => b) (r + Int.toNat 0) m (by simp; omega) (by kernel_rfl) ?_
        refine H.lf (f := pL 1) 10 (Sum.inl ([.sl 0 r n cap, .sl 1 0 1 none, iv 1], 1, [.ro nl m [.ci .u8 l], .vec 5 1 [.ci .u8 [l.getD (r + 0) 0]]])) (by kernel_rfl) ?_
        have hlt : n - 1 < mm := by omega
        exact ⟨_, hlt, 1, by omega, rfl, .inr ⟨by omega, rfl⟩⟩
      · obtain rfl : n = 0 := by omega
        exact H.lf (f := pL 1) 0 (Sum.inr (Sum.inl (.v (.slice none 0 0), []))) (by kernel_rfl) (hq0 rfl)
    · refine pL_Q (k := 1) ?_
      refine H.sd 1 (fun b => b) ((i : Int) < n) (by kernel_rfl) (fun h1 => ?_) (fun h1 => ?_)
      · refine H.kd 2 (fun b => b) ((i : Int) < n) (by omega) (by kernel_rfl) ?_
        refine H.kl 0 (fun b => b) (r + Int.toNat i) m (by omega) (by kernel_rfl) ?_
        refine H.kb 9 (fun b => b) (b := Nat.ble (0 + i) i) (d := true) (by simp) (by kernel_rfl) ?_
        refine H.kb 0 (fun b => b) (b := (Nat.blt 0 1 && Nat.ble ((i + 1) * 1) 140737488355328)) (d := true) (by simp; omega) (by kernel_rfl) ?_
        refine H.kb 0 (fun b => b) (b := (Nat.beq (i + 1) (i + 1) && Nat.beq 1 1)) (d := true) (by simp) (by kernel_rfl) ?_
        refine H.lf (f := pL 1) 2 (Sum.inl ([.sl 0 r n cap, .sl 1 0 (i + 1) none, iv (wr .i64 ((i : Int) + 1))], 1, [.ro nl m [.ci .u8 l], .vec 5 (i + 1) [.ci .u8 (List.take i (List.drop 0 (tk l r i)) ++ [l.getD (r + i) 0])]])) (by kernel_rfl) ?_
        have hlt : n - (i + 1) < mm := by omega
        refine ⟨_, hlt, i + 1, by omega, rfl, .inr ⟨by omega, ?_⟩⟩
        rw [wrN (by omega), tk_succ, List.drop_zero, List.take_of_length_le (by rw [tk_len]; omega)]
      · obtain rfl : i = n := by omega
        exact H.lf (f := pL 1) 1 (Sum.inr (Sum.inl (.sl 1 0 i none, [.vec 5 i [.ci .u8 (tk l r i)]]))) (by kernel_rfl) (hq h0)
theorem t16 {l l2 : List Int} {nl : Bool} {el m r n m2 r2 : Nat} {cap cap2 : Option Nat} {Q : An → Prop} (hn : r + n ≤ m) (hn2 : r2 + n ≤ m2) (hb : n ≤ 3000) (he : ∀ i, i < n → l.getD (r + i) 0 = l2.getD (r2 + i) 0) (hq : Q (.b true, [])) :
    H (ev S0 5 16 [.sl 0 r n cap, .sl 1 r2 n cap2] (memL 2 [.vec el m [.ci .u8 l], .ro nl m2 [.ci .u8 l2]])) (fun x => Q (resV 2 x)) F0 := by
  refine fn1 (fi := fi16 false) (by kernel_rfl) (by kernel_rfl) (by kernel_rfl) rfl [0, 1, 0, 1, 1] 2 2 rfl (by kernel_rfl)
    (fun mm s => ∃ i : Nat, i ≤ n ∧ mm = n - i ∧ s = ([.sl 0 r n cap, .sl 1 r2 n cap2, iv i], 2, [.vec el m [.ci .u8 l], .ro nl m2 [.ci .u8 l2]])) ?_ ?_
  · refine pE_Q (k := 2) ?_
    refine H.ke 1 (fun b => (!b)) (n : Int) n rfl (by kernel_rfl) ?_
    refine H.lf (f := pE 2) 0 (Sum.inr ([0, 1, 0, 1, 1], 2, [.sl 0 r n cap, .sl 1 r2 n cap2, iv 0], 2, [.vec el m [.ci .u8 l], .ro nl m2 [.ci .u8 l2]])) (by kernel_rfl) ?_
    exact ⟨rfl, rfl, n, by omega, 0, by omega, rfl, rfl⟩
  · intro mm s hi
    obtain ⟨i, hi, hm, rfl⟩ := hi
    refine pL_Q (k := 2) ?_
    refine H.sd 1 (fun b => b) ((i : Int) < n) (by kernel_rfl) (fun h1 => ?_) (fun h1 => ?_)
    · refine H.kd 5 (fun b => b) ((i : Int) < n) (by omega) (by kernel_rfl) ?_
      refine H.kl 1 (fun b => b) (r + Int.toNat i) m (by omega) (by kernel_rfl) ?_
      refine H.kd 5 (fun b => b) ((i : Int) < n) (by omega) (by kernel_rfl) ?_
      refine H.kl 1 (fun b => b) (r2 + Int.toNat i) m2 (by omega) (by kernel_rfl) ?_
      refine H.ke 4 (fun b => (!b)) (l.getD (r + i) 0) (l2.getD (r2 + i) 0) (he i (by omega)) (by kernel_rfl) ?_
      refine H.lf (f := pL 2) 1 (Sum.inl ([.sl 0 r n cap, .sl 1 r2 n cap2, iv (wr .i64 ((i : Int) + 1))], 2, [.vec el m [.ci .u8 l], .ro nl m2 [.ci .u8 l2]])) (by kernel_rfl) ?_
      have hlt : n - (i + 1) < mm := by omega
      exact ⟨_, hlt, i + 1, by omega, rfl, by rw [wrN (by omega)]⟩
    · exact H.lf (f := pL 2) 0 (Sum.inr (Sum.inl (.b true, []))) (by kernel_rfl) hq
end Go.Proofs.TabA
