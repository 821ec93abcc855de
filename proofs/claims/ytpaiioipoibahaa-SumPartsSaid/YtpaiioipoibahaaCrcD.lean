/- What the sums and copies of bytes are, proved by the evaluator for all arguments that each contract names. -/
import Derived.Test.YtpaiioipoibahaaCrcC
set_option linter.all false
set_option linter.deprecated false
set_option maxRecDepth 1000000
set_option maxHeartbeats 4000000
namespace Go.Proofs.TabA
open Go Go.Eng

/-! ## Sums as words -/
abbrev B (s : Int) : BitVec 32 := BitVec.ofInt 32 s
theorem B_nat (x : BitVec 32) : B (x.toNat : Int) = x := by
  apply BitVec.eq_of_toNat_eq
  simp
theorem wr32_nat (x : BitVec 32) : wr .u32 (x.toNat : Int) = (x.toNat : Int) := by
  have := x.isLt
  show (x.toNat : Int) % 4294967296 = _
  omega
theorem xoB (a b : Int) : xo a b = ((B a ^^^ B b).toNat : Int) := by
  unfold xo
  exact wr32_nat _
theorem B_xo (a b : Int) : B (xo a b) = B a ^^^ B b := by rw [xoB, B_nat]
def poly : BitVec 32 := 3988292384#32
def stp (x : BitVec 32) : BitVec 32 := (x >>> 1) ^^^ (if x.getLsbD 0 = true then poly else 0#32)
theorem anB (x : BitVec 32) : an (x.toNat : Int) 1 = if x.getLsbD 0 = true then 1 else 0 := by
  unfold an
  have e : (BitVec.ofInt (IntKind.bits .u32) (x.toNat : Int) &&& BitVec.ofInt (IntKind.bits .u32) 1) = x &&& 1#32 := by
    show B (x.toNat : Int) &&& BitVec.ofInt 32 1 = _
    rw [B_nat]; rfl
  rw [e]
  have h1 : (x &&& 1#32).toNat = x.toNat % 2 := by
    rw [BitVec.toNat_and]
    show x.toNat &&& 1 = _
    exact Nat.and_one_is_mod _
  have h2 : x.getLsbD 0 = decide (x.toNat % 2 = 1) := by
    rw [BitVec.getLsbD, Nat.testBit_zero]
  show wr .u32 (((x &&& 1#32).toNat : Nat) : Int) = _
  have h3 : wr .u32 (((x &&& 1#32).toNat : Nat) : Int) = (((x &&& 1#32).toNat : Nat) : Int) := wr32_nat _
  rw [h3, h1, h2]
  have := Nat.mod_two_eq_zero_or_one x.toNat
  rcases this with h | h <;> simp [h]
theorem shB (x : BitVec 32) : sh (x.toNat : Int) = ((x >>> 1).toNat : Int) := by
  unfold sh
  have e : (2 : Int) ^ (min (Int.toNat 1) (IntKind.bits .u32)) = 2 := by decide
  rw [e, Int.fdiv_eq_ediv_of_nonneg _ (by omega), BitVec.toNat_ushiftRight, Nat.shiftRight_eq_div_pow]
  omega
theorem stA_eq (x : BitVec 32) : stA1 (x.toNat : Int) = ((stp x).toNat : Int) := by
  unfold stA1 stp
  rw [xoB, shB, B_nat, anB]
  congr 3
  split
  · rfl
  · rfl
def itB (n : Nat) (x : BitVec 32) : BitVec 32 := match n with
  | 0 => x
  | n + 1 => stp (itB n x)
theorem it_eq (n : Nat) (x : BitVec 32) : itN stA1 n (x.toNat : Int) = ((itB n x).toNat : Int) := by
  induction n with
  | zero => rfl
  | succ n ih => unfold itN itB; rw [ih, stA_eq]
def crB (l : List Int) (r : Nat) (x : BitVec 32) : Nat → BitVec 32
  | 0 => x
  | n + 1 => itB 8 (crB l r x n ^^^ B (l.getD (r + n) 0))
theorem B_wr (c : Int) : B (wr .u32 c) = B c := by
  apply BitVec.eq_of_toNat_eq
  simp only [BitVec.toNat_ofInt]
  show (c % 4294967296 % ((2 ^ 32 : Nat) : Int)).toNat = (c % ((2 ^ 32 : Nat) : Int)).toNat
  have : ((2 ^ 32 : Nat) : Int) = 4294967296 := by decide
  rw [this, Int.emod_emod_of_dvd _ (Int.dvd_refl _)]
theorem cr_eq (l : List Int) (r : Nat) (x : BitVec 32) (n : Nat) : crN stA1 l r (x.toNat : Int) n = ((crB l r x n).toNat : Int) := by
  induction n with
  | zero => rfl
  | succ n ih => unfold crN crB; rw [ih, xoB, B_nat, B_wr, it_eq]
abbrev FF : BitVec 32 := B 4294967295
theorem cA_eq (l : List Int) (r n : Nat) (s : Int) : cA l r n s = ((FF ^^^ crB l r (FF ^^^ B s) n).toNat : Int) := by
  unfold cA
  rw [xoB 4294967295 s, cr_eq, xoB, B_nat]
theorem xx (a b : BitVec 32) : a ^^^ (a ^^^ b) = b := by rw [← BitVec.xor_assoc, BitVec.xor_self, BitVec.zero_xor]
theorem cr_add (l : List Int) (r : Nat) (x : BitVec 32) (a b : Nat) : crB l (r + a) (crB l r x a) b = crB l r x (a + b) := by
  induction b with
  | zero => rfl
  | succ b ih => rw [← Nat.add_assoc]; unfold crB; rw [ih, Nat.add_assoc]
/-- Two parts. -/
theorem cA_two (l : List Int) (a b : Nat) (s : Int) : cA l (0 + a) b (cA l 0 a s) = cA l 0 (a + b) s := by
  rw [cA_eq, cA_eq l 0 a, B_nat, xx, cr_add, cA_eq]
theorem cA_none {s : Int} (h0 : 0 ≤ s) (h1 : s < 4294967296) : cA [] 0 0 s = s := by
  rw [cA_eq]
  show ((FF ^^^ (FF ^^^ B s)).toNat : Int) = s
  rw [xx]
  simp [BitVec.toNat_ofInt]; omega
theorem cA_noneA (l : List Int) (r n : Nat) (s : Int) : cA [] 0 0 (cA l r n s) = cA l r n s := by
  refine cA_none ?_ ?_
  · rw [cA_eq]; omega
  · rw [cA_eq]; have := (FF ^^^ crB l r (FF ^^^ B s) n).isLt; omega
/-! ## Another byte, another sum -/
theorem stp_xor (a b : BitVec 32) : stp (a ^^^ b) = stp a ^^^ stp b := by
  unfold stp
  rw [BitVec.ushiftRight_xor_distrib, BitVec.getLsbD_xor]
  generalize a >>> 1 = p
  generalize b >>> 1 = q
  cases a.getLsbD 0 <;> cases b.getLsbD 0
  · simp
  · simp [BitVec.xor_assoc]
  · simp only [Bool.true_bne, Bool.not_false, if_true, Bool.false_eq_true, if_false, BitVec.xor_zero, BitVec.xor_assoc, Bool.true_xor]
    rw [BitVec.xor_comm q poly]
  · simp only [bne_self_eq_false, Bool.xor_self, Bool.false_eq_true, if_false, if_true, BitVec.xor_zero]
    rw [BitVec.xor_assoc, BitVec.xor_comm poly, BitVec.xor_assoc, BitVec.xor_self, BitVec.xor_zero]
theorem it_xor (n : Nat) (a b : BitVec 32) : itB n (a ^^^ b) = itB n a ^^^ itB n b := by
  induction n with
  | zero => rfl
  | succ n ih => unfold itB; rw [ih, stp_xor]
theorem stp_zero {x : BitVec 32} (h : stp x = 0#32) : x = 0#32 := by
  unfold stp at h
  have hb : ∀ i, (x >>> 1).getLsbD i = (if x.getLsbD 0 = true then poly else 0#32).getLsbD i := by
    intro i
    have e : x >>> 1 = (if x.getLsbD 0 = true then poly else 0#32) := by
      have := congrArg (· ^^^ (if x.getLsbD 0 = true then poly else 0#32)) h
      simp only [BitVec.xor_assoc, BitVec.xor_self, BitVec.xor_zero, BitVec.zero_xor] at this
      exact this
    rw [e]
  have h31 := hb 31
  rw [BitVec.getLsbD_ushiftRight] at h31
  have h32 : x.getLsbD (1 + 31) = false := BitVec.getLsbD_of_ge _ _ (by omega)
  rw [h32] at h31
  have h0 : x.getLsbD 0 = false := by
    cases hx : x.getLsbD 0 with
    | false => rfl
    | true => rw [hx] at h31; revert h31; decide
  apply BitVec.eq_of_getLsbD_eq
  intro i hi
  rw [BitVec.getLsbD_zero]
  cases i with
  | zero => exact h0
  | succ i =>
    have := hb i
    rw [h0] at this
    simp only [Bool.false_eq_true, if_false, BitVec.getLsbD_zero, BitVec.getLsbD_ushiftRight] at this
    rw [Nat.add_comm] at this; exact this
theorem it_zero {n : Nat} {x : BitVec 32} (h : itB n x = 0#32) : x = 0#32 := by
  induction n with
  | zero => exact h
  | succ n ih => exact ih (stp_zero h)
theorem xor_z {a b : BitVec 32} : a ^^^ b = 0#32 ↔ a = b := by
  constructor
  · intro h
    have := congrArg (a ^^^ ·) h
    simp only [xx, BitVec.xor_zero] at this
    exact this.symm
  · rintro rfl; exact BitVec.xor_self
theorem it_inj {n : Nat} {a b : BitVec 32} (h : itB n a = itB n b) : a = b := by
  rw [← xor_z] at h ⊢
  rw [← it_xor] at h
  exact it_zero h
/-- The same bytes keep states apart. -/
theorem cr_apart {l l' : List Int} {r : Nat} {x y : BitVec 32} (n : Nat) (hl : ∀ i, i < n → l.getD (r + i) 0 = l'.getD (r + i) 0) (h : crB l r x n = crB l' r y n) : x = y := by
  induction n with
  | zero => exact h
  | succ n ih =>
    refine ih (fun i hi => hl i (by omega)) ?_
    unfold crB at h
    have h1 := it_inj h
    rw [hl n (by omega)] at h1
    have h2 := congrArg (· ^^^ B (l'.getD (r + n) 0)) h1
    simp only [BitVec.xor_assoc, BitVec.xor_self, BitVec.xor_zero] at h2
    exact h2
theorem crB_congr {l l' : List Int} {r : Nat} {x : BitVec 32} (n : Nat) (hl : ∀ i, i < n → l.getD (r + i) 0 = l'.getD (r + i) 0) : crB l r x n = crB l' r x n := by
  induction n with
  | zero => rfl
  | succ n ih => unfold crB; rw [ih fun i hi => hl i (by omega), hl n (by omega)]
theorem cA_inj {l l' : List Int} {n : Nat} {s : Int} (h : cA l 0 n s = cA l' 0 n s) : crB l 0 (FF ^^^ B s) n = crB l' 0 (FF ^^^ B s) n := by
  rw [cA_eq, cA_eq] at h
  have h1 : (FF ^^^ crB l 0 (FF ^^^ B s) n).toNat = (FF ^^^ crB l' 0 (FF ^^^ B s) n).toNat := by omega
  have h2 := BitVec.eq_of_toNat_eq h1
  have h3 := congrArg (FF ^^^ ·) h2
  simp only [xx] at h3
  exact h3
/-- One byte, or two. -/
theorem one_byte {l l' : List Int} {n k : Nat} {s : Int} (hk : k < n) (hl : ∀ i, i < n → i ≠ k → l.getD i 0 = l'.getD i 0) (hd : B (l.getD k 0) ≠ B (l'.getD k 0)) : cA l 0 n s ≠ cA l' 0 n s := by
  intro h
  have h1 := cA_inj h
  have e : n = (k + 1) + (n - (k + 1)) := by omega
  rw [e, ← cr_add l, ← cr_add l'] at h1
  have h2 := cr_apart (l := l) (l' := l') (r := 0 + (k + 1)) (n - (k + 1)) (fun i hi => hl _ (by omega) (by omega)) h1
  unfold crB at h2
  have h3 := it_inj h2
  rw [crB_congr (l := l) (l' := l') k (fun i hi => hl _ (by omega) (by omega))] at h3
  have h4 := congrArg (crB l' 0 (FF ^^^ B s) k ^^^ ·) h3
  simp only [xx, Nat.zero_add] at h4
  exact hd h4
theorem two_bytes {l l' : List Int} {n k : Nat} {s : Int} (hk : k + 1 < n) (hl : ∀ i, i < n → i ≠ k → i ≠ k + 1 → l.getD i 0 = l'.getD i 0) (hd : itB 8 (B (l.getD k 0) ^^^ B (l'.getD k 0)) ≠ B (l.getD (k + 1) 0) ^^^ B (l'.getD (k + 1) 0)) : cA l 0 n s ≠ cA l' 0 n s := by
  intro h
  have h1 := cA_inj h
  have e : n = (k + 1 + 1) + (n - (k + 1 + 1)) := by omega
  rw [e, ← cr_add l, ← cr_add l'] at h1
  have h2 := cr_apart (l := l) (l' := l') (r := 0 + (k + 1 + 1)) (n - (k + 1 + 1)) (fun i hi => hl _ (by omega) (by omega) (by omega)) h1
  unfold crB at h2
  have h3 := it_inj h2
  unfold crB at h3
  rw [crB_congr (l := l) (l' := l') k (fun i hi => hl _ (by omega) (by omega) (by omega))] at h3
  simp only [Nat.zero_add] at h3
  rw [it_xor, it_xor] at h3
  generalize itB 8 (crB l' 0 (FF ^^^ B s) k) = z at h3
  have h4 := congrArg (z ^^^ ·) h3
  simp only [BitVec.xor_assoc, xx] at h4
  refine hd ?_
  rw [it_xor]
  generalize itB 8 (B (l.getD k 0)) = p at *
  generalize itB 8 (B (l'.getD k 0)) = q at *
  generalize B (l.getD (k + 1) 0) = u at *
  generalize B (l'.getD (k + 1) 0) = v at *
  have h5 := congrArg (fun t => t ^^^ u ^^^ q) h4
  simp only [BitVec.xor_assoc] at h5
  rw [show p ^^^ (u ^^^ (u ^^^ q)) = p ^^^ q by rw [xx]] at h5
  rw [h5, BitVec.xor_comm q, BitVec.xor_assoc, BitVec.xor_assoc, BitVec.xor_self, BitVec.xor_zero, BitVec.xor_comm]
end Go.Proofs.TabA
