/- The page's decimal numeral, proved by the evaluator for all numbers that are not negative. -/
import Derived.Test.YtcmnaaopgffjdaaDoorGlbX
import Derived.Test.YtcmnaaopgffjdaaDoorArgCX
set_option linter.all false
set_option linter.deprecated false
set_option maxRecDepth 1000000
set_option maxHeartbeats 4000000
namespace Go.Proofs.TabX
open Go Go.Eng
theorem strOf_one {d : Nat} (h : d < 10) : strOf [wr .u8 (wr .i64 (48 + (d : Int)))] = ⟨#[UInt8.ofNat (48 + d)]⟩ := by
  have e1 : wr .i64 (48 + (d : Int)) = ((48 + d : Nat) : Int) := by rw [wr64 (by omega) (by omega)]; omega
  have e2 : wr .u8 ((48 + d : Nat) : Int) = ((48 + d : Nat) : Int) := by show ((48 + d : Nat) : Int) % 256 = _; omega
  rw [e1, e2]
  rfl
theorem dig_step {m : Nat} (h : 10 ≤ m) : Lib.decDigits m = Lib.decDigits (m / 10) ++ [UInt8.ofNat (48 + m % 10)] := by rw [Lib.decDigits, dif_neg (by omega)]
theorem nd_step {m : Nat} (h : 10 ≤ m) : Lib.nDigits m = Lib.nDigits (m / 10) + 1 := by rw [Lib.nDigits, dif_neg (by omega)]
theorem nd_le : ∀ (k m : Nat), m < 10 ^ (k + 1) → Lib.nDigits m ≤ k + 1
  | 0, m, h => by rw [Lib.nDigits, dif_pos (by omega)]; omega
  | k + 1, m, h => by
    by_cases h1 : m < 10
    · rw [Lib.nDigits, dif_pos h1]; omega
    · rw [nd_step (by omega)]
      have := nd_le k (m / 10) (by rw [Nat.div_lt_iff_lt_mul (by omega)]; rw [Nat.pow_succ] at h; exact h)
      omega
theorem ba_size (s t : ByteArray) : (s ++ t).size = s.size + t.size := ByteArray.size_append
theorem ba_list (s t : ByteArray) : (s ++ t).data.toList = s.data.toList ++ t.data.toList := by rw [ByteArray.data_append]; simp
/-- What is left of the number, what is told. -/
def D21 (n : Nat) (mm : Nat) (st : St3) : Prop := ∃ (m : Nat) (s : ByteArray), m < 9223372036854775808 ∧ mm = Lib.nDigits m ∧ Lib.decDigits n = Lib.decDigits m ++ s.data.toList ∧ st = ([iv (m : Int), .s s], 0, [])
noncomputable def k21 : List AV → List AObj → T An
  | [.i .i64 n], [] => .br (decide (0 ≤ n ∧ n < 9223372036854775808)) (.ret (.s (itO n), [])) .fail
  | _, _ => .fail
abbrev Vw (S : Sp) (n : Nat) (g : List AV → List AObj → T An) : Prop := ∀ args objs Q, (g args objs).holds Q F0 → H (ev S 5 n args (memL objs.length objs)) (fun x => Q (resV objs.length x)) F0
theorem v21 : Vw Sn 21 k21 := by
  intro args objs Q h
  unfold k21 at h
  split at h
  · rename_i n0
    obtain ⟨h1, hq⟩ := br_ok h
    have h1 := of_decide_eq_true h1
    obtain ⟨n, rfl⟩ : ∃ n : Nat, n0 = (n : Int) := ⟨n0.toNat, by omega⟩
    have hn : n < 9223372036854775808 := by omega
    have hnd : Lib.nDigits n ≤ 19 := nd_le 18 n (by omega)
    refine fn1 (fi := fi21 false) (by kernel_rfl) (by kernel_rfl) (by kernel_rfl) rfl [0, 0, 1, 1, 1] 0 0 rfl (by kernel_rfl) (D21 n) ?_ ?_
    · refine pE_Q (k := 0) ?_
      refine H.nd 1 (fun b => b) ((n : Int) < 0) (by omega) (by kernel_rfl) ?_
      refine H.lf (f := pE 0) 0 (Sum.inr ([0, 0, 1, 1, 1], 0, [AV.i IntKind.i64 n, AV.s { data := #[] }], 0, [])) (by kernel_rfl) ?_
      exact ⟨rfl, rfl, Lib.nDigits n, by omega, n, _, hn, rfl, by simp, rfl⟩
    · intro mm st hi
      obtain ⟨m, s, hm, rfl, hs, rfl⟩ := hi
      have hlen : Lib.nDigits m + s.size = Lib.nDigits n := by
        have := congrArg List.length hs
        rw [List.length_append, Lib.decDigits_length, Lib.decDigits_length] at this
        have e : s.size = s.data.toList.length := (Array.length_toList).symm
        omega
      refine pL_Q (k := 0) ?_
      refine H.sd 1 (fun b => b) ((m : Int) ≥ 10) (by kernel_rfl) (fun h2 => ?_) (fun h2 => ?_)
      · have e : Int.tmod (m : Int) 10 = ((m % 10 : Nat) : Int) := by rw [Int.tmod_eq_emod_of_nonneg (by omega)]; omega
        have e2 : wr .i64 (Int.tdiv (m : Int) 10) = ((m / 10 : Nat) : Int) := by rw [Int.tdiv_eq_ediv_of_nonneg (by omega), wr64 (by omega) (by omega)]; omega
        refine H.sb 9 (fun b => b) (Nat.ble (ByteArray.size (strOf [wr IntKind.u8 (wr IntKind.i64 (48 + Int.tmod m 10))]) + ByteArray.size s) 9223372036854775807) (by kernel_rfl) (fun h3 => ?_) (fun h3 => ?_)
        · refine H.lf (f := pL 0) 3 (Sum.inl ([AV.i IntKind.i64 (wr IntKind.i64 (Int.tdiv m 10)), AV.s (strOf [wr IntKind.u8 (wr IntKind.i64 (48 + Int.tmod m 10))] ++ s)], 0, [])) (by kernel_rfl) ?_
          rw [e, e2, strOf_one (by omega)]
          refine ⟨_, ?_, m / 10, _, by omega, rfl, ?_, rfl⟩
          · rw [nd_step (m := m) (by omega)]; omega
          · rw [hs, dig_step (m := m) (by omega), ba_list]; simp
        · exfalso
          rw [e, strOf_one (by omega)] at h3
          have hle : ByteArray.size (⟨#[UInt8.ofNat (48 + m % 10)]⟩ : ByteArray) + ByteArray.size s ≤ 9223372036854775807 := by
            show 1 + ByteArray.size s ≤ _
            omega
          rw [Nat.ble_eq_true_of_le hle] at h3
          cases h3
      · have hm9 : m < 10 := by omega
        refine H.sb 7 (fun b => b) (Nat.ble (ByteArray.size (strOf [wr IntKind.u8 (wr IntKind.i64 (48 + m))]) + ByteArray.size s) 9223372036854775807) (by kernel_rfl) (fun h3 => ?_) (fun h3 => ?_)
        · refine H.lf (f := pL 0) 1 (Sum.inr (Sum.inl (AV.s (strOf [wr IntKind.u8 (wr IntKind.i64 (48 + m))] ++ s), []))) (by kernel_rfl) ?_
          rw [strOf_one hm9]
          have : (⟨#[UInt8.ofNat (48 + m)]⟩ : ByteArray) ++ s = itO (n : Int) := by
            rw [itO_eq]
            refine ByteArray.ext (Array.ext' ?_)
            rw [ba_list, Lib.itoa_nonneg, hs, Lib.decDigits_one hm9]
          rw [this]
          exact hq
        · exfalso
          rw [strOf_one hm9] at h3
          have hle : ByteArray.size (⟨#[UInt8.ofNat (48 + m)]⟩ : ByteArray) + ByteArray.size s ≤ 9223372036854775807 := by
            show 1 + ByteArray.size s ≤ _
            omega
          rw [Nat.ble_eq_true_of_le hle] at h3
          cases h3
  · exact h.elim
end Go.Proofs.TabX
