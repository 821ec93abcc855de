/- What the sums and copies of bytes are, proved by the evaluator for all arguments that each contract names. -/
import Derived.Test.YtpaiioipoibahaaCrcD
set_option linter.all false
set_option linter.deprecated false
set_option maxRecDepth 1000000
set_option maxHeartbeats 4000000
namespace Go.Proofs.TabA
open Go Go.Eng
/-! ## What the law of parts asks of sums -/
theorem q1 {l : List Int} {n : Nat} {k s : Int} (h : k = 0) : cA l 0 (Int.toNat (n : Int)) (cA l 0 (Int.toNat k) s) = cA l 0 n s := by
  subst h
  have := cA_two l 0 n s
  rw [Nat.zero_add, Nat.zero_add] at this
  exact this
theorem q2 {l : List Int} {n : Nat} {k s : Int} (h0 : 0 ≤ k) (h : k < n) : cA l (0 + Int.toNat k) (Int.toNat ((n : Int) - k)) (cA l 0 (Int.toNat k) s) = cA l 0 n s := by
  rw [cA_two l (Int.toNat k)]
  congr 1
  omega
theorem q3 {l : List Int} {n : Nat} {k s : Int} (h0 : k ≤ n) (h : ¬ k < n) : cA [] 0 0 (cA l 0 (Int.toNat k) s) = cA l 0 n s := by
  rw [cA_noneA]
  congr 1
  omega
theorem gD {l : List Int} {i : Nat} (h : i < l.length) : l.getD i 0 = l[i] := by rw [List.getD_eq_getElem?_getD, List.getElem?_eq_getElem h]; rfl
theorem gD' {l : List Int} {i : Nat} (h : l.length ≤ i) : l.getD i 0 = 0 := by rw [List.getD_eq_getElem?_getD, List.getElem?_eq_none h]; rfl
theorem q4 {l : List Int} {i : Nat} (h : ∀ x ∈ l, 0 ≤ x ∧ x < 4294967296) : cA [] 0 0 (l.getD i 0) = l.getD i 0 := by
  have : 0 ≤ l.getD i 0 ∧ l.getD i 0 < 4294967296 := by
    by_cases hi : i < l.length
    · rw [gD hi]; exact h _ (List.getElem_mem hi)
    · rw [gD' (by omega)]; omega
  exact cA_none this.1 this.2
theorem getIn {l : List Int} {i : Nat} (h : ∀ x ∈ l, 0 ≤ x ∧ x < 256) : 0 ≤ l.getD i 0 ∧ l.getD i 0 < 256 := by
  by_cases hi : i < l.length
  · rw [gD hi]; exact h _ (List.getElem_mem hi)
  · rw [gD' (by omega)]; omega
abbrev x8 (n : Int) : BitVec 8 := BitVec.ofInt 8 n
theorem B8 {b : Int} (h : 0 ≤ b ∧ b < 256) : B b = (x8 b).setWidth 32 := by
  apply BitVec.eq_of_toNat_eq
  simp only [BitVec.toNat_ofInt, BitVec.toNat_setWidth]
  omega
theorem wr8 (x : BitVec 8) : wr .u8 (x.toNat : Int) = (x.toNat : Int) := by
  have := x.isLt
  show (x.toNat : Int) % 256 = _
  omega
theorem B8x (x : BitVec 8) : B (wr .u8 (x.toNat : Int)) = x.setWidth 32 := by
  rw [wr8]
  have := x.isLt
  apply BitVec.eq_of_toNat_eq
  simp only [BitVec.toNat_ofInt, BitVec.toNat_setWidth]
  omega
/-- The byte at a place, changed. -/
noncomputable abbrev nb (b w : Int) : Int := wr .u8 ((BitVec.toNat (BitVec.ofInt 8 b ^^^ BitVec.ofInt 8 w) : Nat) : Int)
theorem nb_x {b w : Int} (h : 0 ≤ b ∧ b < 256) : B (nb b w) ^^^ B b = (x8 w).setWidth 32 := by
  rw [B8 h, show nb b w = wr .u8 (((x8 b ^^^ x8 w).toNat : Nat) : Int) from rfl, B8x, BitVec.setWidth_xor, BitVec.xor_comm, xx]
noncomputable abbrev pw (n : Int) : Int := wr .u8 (1 * 2 ^ min (Int.toNat (wi n 8)) 8)
theorem pw_cases (n : Int) : pw n = 1 ∨ pw n = 2 ∨ pw n = 4 ∨ pw n = 8 ∨ pw n = 16 ∨ pw n = 32 ∨ pw n = 64 ∨ pw n = 128 := by
  have h0 := wi_nonneg (n := n) (m := 8) (by omega)
  have h1 := wi_lt (n := n) (m := 8) (by omega)
  unfold pw
  generalize wi n 8 = k at h0 h1
  obtain ⟨j, rfl⟩ : ∃ j : Nat, k = j := ⟨k.toNat, by omega⟩
  have hj : j < 8 := by omega
  revert hj
  clear h0 h1
  revert j
  decide +kernel
theorem pw_ne (n : Int) : (x8 (pw n)).setWidth 32 ≠ 0#32 := by
  rcases pw_cases n with h | h | h | h | h | h | h | h <;> rw [h] <;> decide +kernel
theorem pw_big (n : Int) : 256 ≤ (itB 8 ((x8 (pw n)).setWidth 32)).toNat := by
  rcases pw_cases n with h | h | h | h | h | h | h | h <;> rw [h] <;> decide +kernel
theorem set_at {l : List Int} {k : Nat} {v : Int} (h : k < l.length) : (l.set k v).getD k 0 = v := by
  rw [gD (by rw [List.length_set]; exact h), List.getElem_set_self]
theorem set_off {l : List Int} {k i : Nat} {v : Int} (h : i ≠ k) : (l.set k v).getD i 0 = l.getD i 0 := by
  simp only [List.getD_eq_getElem?_getD]
  rw [List.getElem?_set_ne (by omega)]
theorem q5 {l : List Int} {n k : Nat} {s v : Int} (hl : ∀ x ∈ l, 0 ≤ x ∧ x < 256) (hk : k < n) : ¬ cA (List.set (tk l 0 n) k (nb ((tk l 0 n).getD k 0) (pw v))) 0 n s = cA l 0 n s := by
  refine one_byte hk (fun i hi hne => ?_) ?_
  · rw [set_off hne, tk_get _ _ _ _ hi, Nat.zero_add]
  · rw [set_at (by rw [tk_len]; exact hk), tk_get _ _ _ _ hk, Nat.zero_add]
    intro h
    have := nb_x (w := pw v) (getIn (i := k) hl)
    rw [h, BitVec.xor_self] at this
    exact pw_ne v this.symm
theorem q6 {l : List Int} {n k : Nat} {s v u : Int} (hl : ∀ x ∈ l, 0 ≤ x ∧ x < 256) (hk : k + 1 < n) : ¬ cA (List.set (List.set (tk l 0 n) k (nb ((tk l 0 n).getD k 0) (pw v))) (k + 1) (nb ((List.set (tk l 0 n) k (nb ((tk l 0 n).getD k 0) (pw v))).getD (k + 1) 0) u)) 0 n s = cA l 0 n s := by
  rw [set_off (l := tk l 0 n) (i := k + 1) (by omega), tk_get l 0 n k (by omega), tk_get l 0 n (k + 1) hk, Nat.zero_add, Nat.zero_add]
  refine two_bytes hk (fun i hi h1 h2 => ?_) ?_
  · rw [set_off h2, set_off h1, tk_get _ _ _ _ hi, Nat.zero_add]
  · rw [set_at (by rw [List.length_set, tk_len]; exact hk), set_off (by omega), set_at (by rw [tk_len]; omega)]
    rw [nb_x (getIn hl), nb_x (getIn hl)]
    intro h
    have h1 := pw_big v
    rw [h, BitVec.toNat_setWidth] at h1
    have := (x8 u).isLt
    omega
theorem q6' {l : List Int} {n : Nat} {p s v u : Int} (hl : ∀ x ∈ l, 0 ≤ x ∧ x < 256) (h0 : 0 ≤ p) (hw : wr .i64 (p + 1) = p + 1) (hk : wr .i64 (p + 1) < n) : ¬ cA (List.set (List.set (tk l 0 n) (0 + Int.toNat p) (nb ((tk l 0 n).getD (0 + Int.toNat p) 0) (pw v))) (0 + Int.toNat (wr .i64 (p + 1))) (nb ((List.set (tk l 0 n) (0 + Int.toNat p) (nb ((tk l 0 n).getD (0 + Int.toNat p) 0) (pw v))).getD (0 + Int.toNat (wr .i64 (p + 1))) 0) u)) 0 n s = cA l 0 n s := by
  have e : 0 + Int.toNat (wr .i64 (p + 1)) = (0 + Int.toNat p) + 1 := by rw [hw]; omega
  rw [e]
  exact q6 hl (by omega)
/-- Bounds. -/
structure Bd (n : Nat) (v : Int) : Prop where
  a : n ≤ 3000 → 0 < wr .i64 ((n : Int) + 1) ∧ wr .i64 ((n : Int) + 1) < 9223372036854775808
  b : n ≤ 3000 → 0 ≤ wi v (wr .i64 ((n : Int) + 1)) ∧ wi v (wr .i64 ((n : Int) + 1)) ≤ n
  c : n ≤ 3000 → n ≠ 0 → 0 ≤ wi v n ∧ wi v n < n
  d : n ≤ 3000 → n ≠ 0 → wr .i64 (wi v n + 1) = wi v n + 1
  e : 0 ≤ wi v 8
theorem bd (n : Nat) (v : Int) : Bd n v := by
  have w : n ≤ 3000 → wr .i64 ((n : Int) + 1) = n + 1 := fun h => wr64 (by omega) (by omega)
  refine ⟨fun h => ?_, fun h => ?_, fun h h0 => ⟨wi_nonneg (by omega), wi_lt (by omega)⟩, fun h h0 => ?_, wi_nonneg (by omega)⟩
  · rw [w h]; omega
  · rw [w h]
    have h1 := wi_nonneg (n := v) (m := (n : Int) + 1) (by omega)
    have h2 := wi_lt (n := v) (m := (n : Int) + 1) (by omega)
    omega
  · have h1 := wi_nonneg (n := v) (m := (n : Int)) (by omega)
    have h2 := wi_lt (n := v) (m := (n : Int)) (by omega)
    exact wr64 (by omega) (by omega)
end Go.Proofs.TabA
