/- What the sums and copies of bytes are, proved by the evaluator for all arguments that each contract names. -/
import Derived.Test.YtpaiioipoibahaaCrcV
set_option linter.all false
set_option linter.deprecated false
set_option maxRecDepth 1000000
set_option maxHeartbeats 4000000
namespace Go.Proofs.TabA
open Go Go.Eng
theorem wrN {i : Nat} (h : i ≤ 1000000) : wr .i64 ((i : Int) + 1) = ((i + 1 : Nat) : Int) := by rw [wr64 (by omega) (by omega)]; rfl
theorem wrN' {i : Nat} (h : i ≤ 1000000) : iv (wr .i64 ((i : Int) + 1)) = iv ((i + 1 : Nat) : Int) := by rw [wrN h]
abbrev lstV : Nat := 4294967295
/-- The sums, by the program and by the page. -/
noncomputable def cA (l : List Int) (r n : Nat) (s : Int) : Int := xo 4294967295 (crN stA1 l r (xo 4294967295 s) n)
noncomputable def cB (l : List Int) (r n : Nat) (s : Int) : Int := xo (crN stB1 l r (xo s 4294967295) n) 4294967295

theorem t14r {s0 : Int} {l : List Int} {nl : Bool} {m r n : Nat} {cap : Option Nat} {Q : An → Prop} (hn : r + n ≤ m) (hb : n ≤ 3000) (hq : Q (uv (cA l r n s0), [])) : H (ev S0 5 14 [uv s0, .sl 0 r n cap] (memL 1 [.ro nl m [.ci .u8 l]])) (fun x => Q (resV 1 x)) F0 := by
  refine fn1 (fi := fi14 false) (by kernel_rfl) (by kernel_rfl) (by kernel_rfl) rfl [0, 1, 0, 1, 1] 1 1 rfl (by kernel_rfl) (fun mm s => ∃ (i : Nat) (j : AV), i ≤ n ∧ mm = n - i ∧ s = ([uv (crN stA1 l r (xo 4294967295 s0) i), .sl 0 r n cap, iv n, iv i, j], 1, [.ro nl m [.ci .u8 l]])) ?_ ?_
  · refine pE_Q (k := 1) ?_
    refine H.lf (f := pE 1) 0 (Sum.inr ([0, 1, 0, 1, 1], 1, [uv (xo 4294967295 s0), .sl 0 r n cap, iv n, iv 0, .top], 1, [.ro nl m [.ci .u8 l]])) (by kernel_rfl) ?_
    exact ⟨rfl, rfl, n, by omega, 0, _, by omega, rfl, rfl⟩
  · intro mm s hi
    obtain ⟨i, j, hi, hm, rfl⟩ := hi
    refine pL_Q (k := 1) ?_
    refine H.sd 1 (fun b => b) ((i : Int) < n) (by kernel_rfl) (fun h1 => ?_) (fun h1 => ?_)
    · refine H.kd 2 (fun b => b) ((i : Int) < n) (by omega) (by kernel_rfl) ?_
      refine H.kl 0 (fun b => b) (r + Int.toNat i) m (by omega) (by kernel_rfl) ?_
      refine H.lf (f := pL 1) 60 (Sum.inl ([uv (itN stA1 8 (xo (crN stA1 l r (xo 4294967295 s0) i) (wr .u32 (l.getD (r + i) 0)))), .sl 0 r n cap, iv n, iv (wr .i64 ((i : Int) + 1)), iv 8], 1, [.ro nl m [.ci .u8 l]])) (by kernel_rfl) ?_
      have hlt : n - (i + 1) < mm := by omega
      exact ⟨_, hlt, i + 1, _, by omega, rfl, by rw [wrN (by omega)]; rfl⟩
    · obtain rfl : i = n := by omega
      exact H.lf (f := pL 1) 0 (Sum.inr (Sum.inl (uv (xo 4294967295 (crN stA1 l r (xo 4294967295 s0) i)), []))) (by kernel_rfl) hq
theorem t15r {s0 : Int} {l : List Int} {nl : Bool} {m r n : Nat} {cap : Option Nat} {Q : An → Prop} (hn : r + n ≤ m) (hb : n ≤ 3000) (hq : Q (uv (cB l r n s0), [])) : H (ev S0 5 15 [uv s0, .sl 0 r n cap] (memL 1 [.ro nl m [.ci .u8 l]])) (fun x => Q (resV 1 x)) F0 := by
  refine fn2 (fi := fi15 false) (by kernel_rfl) (by kernel_rfl) (by kernel_rfl) rfl [0, 1, 0, 1, 1] 1 [0, 1, 1, 0, 0, 1] 1 1 rfl (by kernel_rfl) (by kernel_rfl) (fun mm s => ∃ (i : Nat) (j : AV), i ≤ n ∧ mm = n - i ∧ s = ([uv (crN stB1 l r (xo s0 4294967295) i), .sl 0 r n cap, iv i, j], 1, [.ro nl m [.ci .u8 l]]))
    (fun mm m2 s => ∃ (i k : Nat), i < n ∧ mm = n - i ∧ k ≤ 8 ∧ m2 = 8 - k ∧ s = ([uv (itN stB1 k (xo (crN stB1 l r (xo s0 4294967295) i) (wr .u32 (l.getD (r + i) 0)))), .sl 0 r n cap, iv i, iv k], 1, [.ro nl m [.ci .u8 l]])) ?_ ?_ ?_
  · refine pE_Q (k := 1) ?_
    refine H.lf (f := pE 1) 1 (Sum.inr ([0, 1, 0, 1, 1], 1, [uv (xo s0 4294967295), .sl 0 r n cap, iv 0, .top], 1, [.ro nl m [.ci .u8 l]])) (by kernel_rfl) ?_
    exact ⟨rfl, rfl, n, by omega, 0, _, by omega, rfl, rfl⟩
  · intro mm s hi
    obtain ⟨i, j, hi, hm, rfl⟩ := hi
    refine pO_Q (k := 1) ?_
    refine H.sd 1 (fun b => b) ((i : Int) < n) (by kernel_rfl) (fun h1 => ?_) (fun h1 => ?_)
    · refine H.kd 2 (fun b => b) ((i : Int) < n) (by omega) (by kernel_rfl) ?_
      refine H.kl 0 (fun b => b) (r + Int.toNat i) m (by omega) (by kernel_rfl) ?_
      refine H.lf (f := pO 1) 1 (Sum.inr ([0, 1, 1, 0, 0, 1], 1, [uv (xo (crN stB1 l r (xo s0 4294967295) i) (wr .u32 (l.getD (r + i) 0))), .sl 0 r n cap, iv i, iv 0], 1, [.ro nl m [.ci .u8 l]])) (by kernel_rfl) ?_
      exact ⟨rfl, rfl, 8, by omega, i, 0, by omega, hm, by omega, rfl, rfl⟩
    · obtain rfl : i = n := by omega
      exact H.lf (f := pO 1) 1 (Sum.inl (Sum.inr (Sum.inl (uv (xo (crN stB1 l r (xo s0 4294967295) i) 4294967295), [])))) (by kernel_rfl) hq
  · intro mm m2 s hi
    obtain ⟨i, k, hi, hm, hk, hm2, rfl⟩ := hi
    refine pI_Q (k := 1) ?_
    generalize hX : itN stB1 k (xo (crN stB1 l r (xo s0 4294967295) i) (wr .u32 (l.getD (r + i) 0))) = X
    refine H.sd 1 (fun b => b) ((k : Int) < 8) (by kernel_rfl) (fun h1 => ?_) (fun h1 => ?_)
    · have hlt : 8 - (k + 1) < m2 := by omega
      refine H.se 2 (fun b => b) (an X 1) 1 (by kernel_rfl) (fun h2 => ?_) (fun h2 => ?_)
      · refine H.lf (f := pI 1) 3 (Sum.inl ([uv (xo (sh X) 3988292384), .sl 0 r n cap, iv i, iv (wr .i64 ((k : Int) + 1))], 1, [.ro nl m [.ci .u8 l]])) (by kernel_rfl) ?_
        refine ⟨_, hlt, i, k + 1, hi, hm, by omega, rfl, ?_⟩
        rw [wrN (by omega)]
        show _ = ([uv (stB1 _), _, _, _], _, _)
        rw [hX]
        unfold stB1
        rw [if_pos h2]
      · refine H.lf (f := pI 1) 2 (Sum.inl ([uv (sh X), .sl 0 r n cap, iv i, iv (wr .i64 ((k : Int) + 1))], 1, [.ro nl m [.ci .u8 l]])) (by kernel_rfl) ?_
        refine ⟨_, hlt, i, k + 1, hi, hm, by omega, rfl, ?_⟩
        rw [wrN (by omega)]
        show _ = ([uv (stB1 _), _, _, _], _, _)
        rw [hX]
        unfold stB1
        rw [if_neg h2]
    · obtain rfl : k = 8 := by omega
      refine H.lf (f := pI 1) 1 (Sum.inr (Sum.inl (Sum.inl ([uv X, .sl 0 r n cap, iv (wr .i64 ((i : Int) + 1)), iv (8 : Nat)], 1, [.ro nl m [.ci .u8 l]])))) (by kernel_rfl) ?_
      have hlt : n - (i + 1) < mm := by omega
      refine ⟨_, hlt, i + 1, iv (8 : Nat), by omega, rfl, ?_⟩
      rw [wrN (by omega), ← hX]
      rfl

theorem t14v {s0 : Int} {l : List Int} {el : Nat} {m r n : Nat} {cap : Option Nat} {Q : An → Prop} (hn : r + n ≤ m) (hb : n ≤ 3000) (hq : Q (uv (cA l r n s0), [])) : H (ev S0 5 14 [uv s0, .sl 0 r n cap] (memL 1 [.vec el m [.ci .u8 l]])) (fun x => Q (resV 1 x)) F0 := by
  refine fn1 (fi := fi14 false) (by kernel_rfl) (by kernel_rfl) (by kernel_rfl) rfl [0, 1, 0, 1, 1] 1 1 rfl (by kernel_rfl) (fun mm s => ∃ (i : Nat) (j : AV), i ≤ n ∧ mm = n - i ∧ s = ([uv (crN stA1 l r (xo 4294967295 s0) i), .sl 0 r n cap, iv n, iv i, j], 1, [.vec el m [.ci .u8 l]])) ?_ ?_
  · refine pE_Q (k := 1) ?_
    refine H.lf (f := pE 1) 0 (Sum.inr ([0, 1, 0, 1, 1], 1, [uv (xo 4294967295 s0), .sl 0 r n cap, iv n, iv 0, .top], 1, [.vec el m [.ci .u8 l]])) (by kernel_rfl) ?_
    exact ⟨rfl, rfl, n, by omega, 0, _, by omega, rfl, rfl⟩
  · intro mm s hi
    obtain ⟨i, j, hi, hm, rfl⟩ := hi
    refine pL_Q (k := 1) ?_
    refine H.sd 1 (fun b => b) ((i : Int) < n) (by kernel_rfl) (fun h1 => ?_) (fun h1 => ?_)
    · refine H.kd 2 (fun b => b) ((i : Int) < n) (by omega) (by kernel_rfl) ?_
      refine H.kl 0 (fun b => b) (r + Int.toNat i) m (by omega) (by kernel_rfl) ?_
      refine H.lf (f := pL 1) 60 (Sum.inl ([uv (itN stA1 8 (xo (crN stA1 l r (xo 4294967295 s0) i) (wr .u32 (l.getD (r + i) 0)))), .sl 0 r n cap, iv n, iv (wr .i64 ((i : Int) + 1)), iv 8], 1, [.vec el m [.ci .u8 l]])) (by kernel_rfl) ?_
      have hlt : n - (i + 1) < mm := by omega
      exact ⟨_, hlt, i + 1, _, by omega, rfl, by rw [wrN (by omega)]; rfl⟩
    · obtain rfl : i = n := by omega
      exact H.lf (f := pL 1) 0 (Sum.inr (Sum.inl (uv (xo 4294967295 (crN stA1 l r (xo 4294967295 s0) i)), []))) (by kernel_rfl) hq
theorem t15v {s0 : Int} {l : List Int} {el : Nat} {m r n : Nat} {cap : Option Nat} {Q : An → Prop} (hn : r + n ≤ m) (hb : n ≤ 3000) (hq : Q (uv (cB l r n s0), [])) : H (ev S0 5 15 [uv s0, .sl 0 r n cap] (memL 1 [.vec el m [.ci .u8 l]])) (fun x => Q (resV 1 x)) F0 := by
  refine fn2 (fi := fi15 false) (by kernel_rfl) (by kernel_rfl) (by kernel_rfl) rfl [0, 1, 0, 1, 1] 1 [0, 1, 1, 0, 0, 1] 1 1 rfl (by kernel_rfl) (by kernel_rfl) (fun mm s => ∃ (i : Nat) (j : AV), i ≤ n ∧ mm = n - i ∧ s = ([uv (crN stB1 l r (xo s0 4294967295) i), .sl 0 r n cap, iv i, j], 1, [.vec el m [.ci .u8 l]]))
    (fun mm m2 s => ∃ (i k : Nat), i < n ∧ mm = n - i ∧ k ≤ 8 ∧ m2 = 8 - k ∧ s = ([uv (itN stB1 k (xo (crN stB1 l r (xo s0 4294967295) i) (wr .u32 (l.getD (r + i) 0)))), .sl 0 r n cap, iv i, iv k], 1, [.vec el m [.ci .u8 l]])) ?_ ?_ ?_
  · refine pE_Q (k := 1) ?_
    refine H.lf (f := pE 1) 1 (Sum.inr ([0, 1, 0, 1, 1], 1, [uv (xo s0 4294967295), .sl 0 r n cap, iv 0, .top], 1, [.vec el m [.ci .u8 l]])) (by kernel_rfl) ?_
    exact ⟨rfl, rfl, n, by omega, 0, _, by omega, rfl, rfl⟩
  · intro mm s hi
    obtain ⟨i, j, hi, hm, rfl⟩ := hi
    refine pO_Q (k := 1) ?_
    refine H.sd 1 (fun b => b) ((i : Int) < n) (by kernel_rfl) (fun h1 => ?_) (fun h1 => ?_)
    · refine H.kd 2 (fun b => b) ((i : Int) < n) (by omega) (by kernel_rfl) ?_
      refine H.kl 0 (fun b => b) (r + Int.toNat i) m (by omega) (by kernel_rfl) ?_
      refine H.lf (f := pO 1) 1 (Sum.inr ([0, 1, 1, 0, 0, 1], 1, [uv (xo (crN stB1 l r (xo s0 4294967295) i) (wr .u32 (l.getD (r + i) 0))), .sl 0 r n cap, iv i, iv 0], 1, [.vec el m [.ci .u8 l]])) (by kernel_rfl) ?_
      exact ⟨rfl, rfl, 8, by omega, i, 0, by omega, hm, by omega, rfl, rfl⟩
    · obtain rfl : i = n := by omega
      exact H.lf (f := pO 1) 1 (Sum.inl (Sum.inr (Sum.inl (uv (xo (crN stB1 l r (xo s0 4294967295) i) 4294967295), [])))) (by kernel_rfl) hq
  · intro mm m2 s hi
    obtain ⟨i, k, hi, hm, hk, hm2, rfl⟩ := hi
    refine pI_Q (k := 1) ?_
    generalize hX : itN stB1 k (xo (crN stB1 l r (xo s0 4294967295) i) (wr .u32 (l.getD (r + i) 0))) = X
    refine H.sd 1 (fun b => b) ((k : Int) < 8) (by kernel_rfl) (fun h1 => ?_) (fun h1 => ?_)
    · have hlt : 8 - (k + 1) < m2 := by omega
      refine H.se 2 (fun b => b) (an X 1) 1 (by kernel_rfl) (fun h2 => ?_) (fun h2 => ?_)
      · refine H.lf (f := pI 1) 3 (Sum.inl ([uv (xo (sh X) 3988292384), .sl 0 r n cap, iv i, iv (wr .i64 ((k : Int) + 1))], 1, [.vec el m [.ci .u8 l]])) (by kernel_rfl) ?_
        refine ⟨_, hlt, i, k + 1, hi, hm, by omega, rfl, ?_⟩
        rw [wrN (by omega)]
        show _ = ([uv (stB1 _), _, _, _], _, _)
        rw [hX]
        unfold stB1
        rw [if_pos h2]
      · refine H.lf (f := pI 1) 2 (Sum.inl ([uv (sh X), .sl 0 r n cap, iv i, iv (wr .i64 ((k : Int) + 1))], 1, [.vec el m [.ci .u8 l]])) (by kernel_rfl) ?_
        refine ⟨_, hlt, i, k + 1, hi, hm, by omega, rfl, ?_⟩
        rw [wrN (by omega)]
        show _ = ([uv (stB1 _), _, _, _], _, _)
        rw [hX]
        unfold stB1
        rw [if_neg h2]
    · obtain rfl : k = 8 := by omega
      refine H.lf (f := pI 1) 1 (Sum.inr (Sum.inl (Sum.inl ([uv X, .sl 0 r n cap, iv (wr .i64 ((i : Int) + 1)), iv (8 : Nat)], 1, [.vec el m [.ci .u8 l]])))) (by kernel_rfl) ?_
      have hlt : n - (i + 1) < mm := by omega
      refine ⟨_, hlt, i + 1, iv (8 : Nat), by omega, rfl, ?_⟩
      rw [wrN (by omega), ← hX]
      rfl
end Go.Proofs.TabA
