/- A law walked through by the evaluator, for all columns that its argument may have. -/
import Derived.Test.YtnkglgcfemkibaaGryQ
set_option linter.all false
set_option linter.deprecated false
set_option maxRecDepth 1000000
set_option maxHeartbeats 0
namespace Go.Proofs.TabC
open Go Go.Eng
theorem gw10 (nl nl2 : Bool) (n n2 cap cap2 : Nat) (c1 c2 : List Col) (hk : wi (n2 : Int) 50 = ((10 : Nat) : Int)) : H (ev Sq 12 8 [.agg [.sl 0 0 n (some cap), .sl 1 0 n2 (some cap2)]] (memL 2 [.ro nl n c1, .ro nl2 n2 c2])) (fun x => x.1 = .b true) (fun _ _ => False) := by
  refine H.kd (Q := fun x : AV × Mem => x.1 = .b true) 3 (fun b => b) ((0 : Int) < 50 ∧ (50 : Int) < 9223372036854775808) (by omega) (by kernel_rfl) ?_
  refine H.nd (Q := fun x : AV × Mem => x.1 = .b true) 0 (fun b => b) (wi (n2 : Int) 50 = ((0 : Nat) : Int)) (by omega) (by kernel_rfl) ?_
  refine H.nd (Q := fun x : AV × Mem => x.1 = .b true) 0 (fun b => b) (wi (n2 : Int) 50 = ((1 : Nat) : Int)) (by omega) (by kernel_rfl) ?_
  refine H.nd (Q := fun x : AV × Mem => x.1 = .b true) 0 (fun b => b) (wi (n2 : Int) 50 = ((2 : Nat) : Int)) (by omega) (by kernel_rfl) ?_
  refine H.nd (Q := fun x : AV × Mem => x.1 = .b true) 0 (fun b => b) (wi (n2 : Int) 50 = ((3 : Nat) : Int)) (by omega) (by kernel_rfl) ?_
  refine H.nd (Q := fun x : AV × Mem => x.1 = .b true) 0 (fun b => b) (wi (n2 : Int) 50 = ((4 : Nat) : Int)) (by omega) (by kernel_rfl) ?_
  refine H.nd (Q := fun x : AV × Mem => x.1 = .b true) 0 (fun b => b) (wi (n2 : Int) 50 = ((5 : Nat) : Int)) (by omega) (by kernel_rfl) ?_
  refine H.nd (Q := fun x : AV × Mem => x.1 = .b true) 0 (fun b => b) (wi (n2 : Int) 50 = ((6 : Nat) : Int)) (by omega) (by kernel_rfl) ?_
  refine H.nd (Q := fun x : AV × Mem => x.1 = .b true) 0 (fun b => b) (wi (n2 : Int) 50 = ((7 : Nat) : Int)) (by omega) (by kernel_rfl) ?_
  refine H.nd (Q := fun x : AV × Mem => x.1 = .b true) 0 (fun b => b) (wi (n2 : Int) 50 = ((8 : Nat) : Int)) (by omega) (by kernel_rfl) ?_
  refine H.nd (Q := fun x : AV × Mem => x.1 = .b true) 0 (fun b => b) (wi (n2 : Int) 50 = ((9 : Nat) : Int)) (by omega) (by kernel_rfl) ?_
  refine H.kd (Q := fun x : AV × Mem => x.1 = .b true) 0 (fun b => b) (wi (n2 : Int) 50 = ((10 : Nat) : Int)) hk (by kernel_rfl) ?_
  exact H.lf (Q := fun v : AV => v = .b true) (f := Prod.fst) 20000 (AV.b true) (by kernel_rfl) rfl
theorem gw11 (nl nl2 : Bool) (n n2 cap cap2 : Nat) (c1 c2 : List Col) (hk : wi (n2 : Int) 50 = ((11 : Nat) : Int)) : H (ev Sq 12 8 [.agg [.sl 0 0 n (some cap), .sl 1 0 n2 (some cap2)]] (memL 2 [.ro nl n c1, .ro nl2 n2 c2])) (fun x => x.1 = .b true) (fun _ _ => False) := by
  refine H.kd (Q := fun x : AV × Mem => x.1 = .b true) 3 (fun b => b) ((0 : Int) < 50 ∧ (50 : Int) < 9223372036854775808) (by omega) (by kernel_rfl) ?_
  refine H.nd (Q := fun x : AV × Mem => x.1 = .b true) 0 (fun b => b) (wi (n2 : Int) 50 = ((0 : Nat) : Int)) (by omega) (by kernel_rfl) ?_
  refine H.nd (Q := fun x : AV × Mem => x.1 = .b true) 0 (fun b => b) (wi (n2 : Int) 50 = ((1 : Nat) : Int)) (by omega) (by kernel_rfl) ?_
  refine H.nd (Q := fun x : AV × Mem => x.1 = .b true) 0 (fun b => b) (wi (n2 : Int) 50 = ((2 : Nat) : Int)) (by omega) (by kernel_rfl) ?_
  refine H.nd (Q := fun x : AV × Mem => x.1 = .b true) 0 (fun b => b) (wi (n2 : Int) 50 = ((3 : Nat) : Int)) (by omega) (by kernel_rfl) ?_
  refine H.nd (Q := fun x : AV × Mem => x.1 = .b true) 0 (fun b => b) (wi (n2 : Int) 50 = ((4 : Nat) : Int)) (by omega) (by kernel_rfl) ?_
  refine H.nd (Q := fun x : AV × Mem => x.1 = .b true) 0 (fun b => b) (wi (n2 : Int) 50 = ((5 : Nat) : Int)) (by omega) (by kernel_rfl) ?_
  refine H.nd (Q := fun x : AV × Mem => x.1 = .b true) 0 (fun b => b) (wi (n2 : Int) 50 = ((6 : Nat) : Int)) (by omega) (by kernel_rfl) ?_
  refine H.nd (Q := fun x : AV × Mem => x.1 = .b true) 0 (fun b => b) (wi (n2 : Int) 50 = ((7 : Nat) : Int)) (by omega) (by kernel_rfl) ?_
  refine H.nd (Q := fun x : AV × Mem => x.1 = .b true) 0 (fun b => b) (wi (n2 : Int) 50 = ((8 : Nat) : Int)) (by omega) (by kernel_rfl) ?_
  refine H.nd (Q := fun x : AV × Mem => x.1 = .b true) 0 (fun b => b) (wi (n2 : Int) 50 = ((9 : Nat) : Int)) (by omega) (by kernel_rfl) ?_
  refine H.nd (Q := fun x : AV × Mem => x.1 = .b true) 0 (fun b => b) (wi (n2 : Int) 50 = ((10 : Nat) : Int)) (by omega) (by kernel_rfl) ?_
  refine H.kd (Q := fun x : AV × Mem => x.1 = .b true) 0 (fun b => b) (wi (n2 : Int) 50 = ((11 : Nat) : Int)) hk (by kernel_rfl) ?_
  exact H.lf (Q := fun v : AV => v = .b true) (f := Prod.fst) 20000 (AV.b true) (by kernel_rfl) rfl
theorem gw12 (nl nl2 : Bool) (n n2 cap cap2 : Nat) (c1 c2 : List Col) (hk : wi (n2 : Int) 50 = ((12 : Nat) : Int)) : H (ev Sq 12 8 [.agg [.sl 0 0 n (some cap), .sl 1 0 n2 (some cap2)]] (memL 2 [.ro nl n c1, .ro nl2 n2 c2])) (fun x => x.1 = .b true) (fun _ _ => False) := by
  refine H.kd (Q := fun x : AV × Mem => x.1 = .b true) 3 (fun b => b) ((0 : Int) < 50 ∧ (50 : Int) < 9223372036854775808) (by omega) (by kernel_rfl) ?_
  refine H.nd (Q := fun x : AV × Mem => x.1 = .b true) 0 (fun b => b) (wi (n2 : Int) 50 = ((0 : Nat) : Int)) (by omega) (by kernel_rfl) ?_
  refine H.nd (Q := fun x : AV × Mem => x.1 = .b true) 0 (fun b => b) (wi (n2 : Int) 50 = ((1 : Nat) : Int)) (by omega) (by kernel_rfl) ?_
  refine H.nd (Q := fun x : AV × Mem => x.1 = .b true) 0 (fun b => b) (wi (n2 : Int) 50 = ((2 : Nat) : Int)) (by omega) (by kernel_rfl) ?_
  refine H.nd (Q := fun x : AV × Mem => x.1 = .b true) 0 (fun b => b) (wi (n2 : Int) 50 = ((3 : Nat) : Int)) (by omega) (by kernel_rfl) ?_
  refine H.nd (Q := fun x : AV × Mem => x.1 = .b true) 0 (fun b => b) (wi (n2 : Int) 50 = ((4 : Nat) : Int)) (by omega) (by kernel_rfl) ?_
  refine H.nd (Q := fun x : AV × Mem => x.1 = .b true) 0 (fun b => b) (wi (n2 : Int) 50 = ((5 : Nat) : Int)) (by omega) (by kernel_rfl) ?_
  refine H.nd (Q := fun x : AV × Mem => x.1 = .b true) 0 (fun b => b) (wi (n2 : Int) 50 = ((6 : Nat) : Int)) (by omega) (by kernel_rfl) ?_
  refine H.nd (Q := fun x : AV × Mem => x.1 = .b true) 0 (fun b => b) (wi (n2 : Int) 50 = ((7 : Nat) : Int)) (by omega) (by kernel_rfl) ?_
  refine H.nd (Q := fun x : AV × Mem => x.1 = .b true) 0 (fun b => b) (wi (n2 : Int) 50 = ((8 : Nat) : Int)) (by omega) (by kernel_rfl) ?_
  refine H.nd (Q := fun x : AV × Mem => x.1 = .b true) 0 (fun b => b) (wi (n2 : Int) 50 = ((9 : Nat) : Int)) (by omega) (by kernel_rfl) ?_
  refine H.nd (Q := fun x : AV × Mem => x.1 = .b true) 0 (fun b => b) (wi (n2 : Int) 50 = ((10 : Nat) : Int)) (by omega) (by kernel_rfl) ?_
  refine H.nd (Q := fun x : AV × Mem => x.1 = .b true) 0 (fun b => b) (wi (n2 : Int) 50 = ((11 : Nat) : Int)) (by omega) (by kernel_rfl) ?_
  refine H.kd (Q := fun x : AV × Mem => x.1 = .b true) 0 (fun b => b) (wi (n2 : Int) 50 = ((12 : Nat) : Int)) hk (by kernel_rfl) ?_
  exact H.lf (Q := fun v : AV => v = .b true) (f := Prod.fst) 20000 (AV.b true) (by kernel_rfl) rfl
theorem gw13 (nl nl2 : Bool) (n n2 cap cap2 : Nat) (c1 c2 : List Col) (hk : wi (n2 : Int) 50 = ((13 : Nat) : Int)) : H (ev Sq 12 8 [.agg [.sl 0 0 n (some cap), .sl 1 0 n2 (some cap2)]] (memL 2 [.ro nl n c1, .ro nl2 n2 c2])) (fun x => x.1 = .b true) (fun _ _ => False) := by
  refine H.kd (Q := fun x : AV × Mem => x.1 = .b true) 3 (fun b => b) ((0 : Int) < 50 ∧ (50 : Int) < 9223372036854775808) (by omega) (by kernel_rfl) ?_
  refine H.nd (Q := fun x : AV × Mem => x.1 = .b true) 0 (fun b => b) (wi (n2 : Int) 50 = ((0 : Nat) : Int)) (by omega) (by kernel_rfl) ?_
  refine H.nd (Q := fun x : AV × Mem => x.1 = .b true) 0 (fun b => b) (wi (n2 : Int) 50 = ((1 : Nat) : Int)) (by omega) (by kernel_rfl) ?_
  refine H.nd (Q := fun x : AV × Mem => x.1 = .b true) 0 (fun b => b) (wi (n2 : Int) 50 = ((2 : Nat) : Int)) (by omega) (by kernel_rfl) ?_
  refine H.nd (Q := fun x : AV × Mem => x.1 = .b true) 0 (fun b => b) (wi (n2 : Int) 50 = ((3 : Nat) : Int)) (by omega) (by kernel_rfl) ?_
  refine H.nd (Q := fun x : AV × Mem => x.1 = .b true) 0 (fun b => b) (wi (n2 : Int) 50 = ((4 : Nat) : Int)) (by omega) (by kernel_rfl) ?_
  refine H.nd (Q := fun x : AV × Mem => x.1 = .b true) 0 (fun b => b) (wi (n2 : Int) 50 = ((5 : Nat) : Int)) (by omega) (by kernel_rfl) ?_
  refine H.nd (Q := fun x : AV × Mem => x.1 = .b true) 0 (fun b => b) (wi (n2 : Int) 50 = ((6 : Nat) : Int)) (by omega) (by kernel_rfl) ?_
  refine H.nd (Q := fun x : AV × Mem => x.1 = .b true) 0 (fun b => b) (wi (n2 : Int) 50 = ((7 : Nat) : Int)) (by omega) (by kernel_rfl) ?_
  refine H.nd (Q := fun x : AV × Mem => x.1 = .b true) 0 (fun b => b) (wi (n2 : Int) 50 = ((8 : Nat) : Int)) (by omega) (by kernel_rfl) ?_
  refine H.nd (Q := fun x : AV × Mem => x.1 = .b true) 0 (fun b => b) (wi (n2 : Int) 50 = ((9 : Nat) : Int)) (by omega) (by kernel_rfl) ?_
  refine H.nd (Q := fun x : AV × Mem => x.1 = .b true) 0 (fun b => b) (wi (n2 : Int) 50 = ((10 : Nat) : Int)) (by omega) (by kernel_rfl) ?_
  refine H.nd (Q := fun x : AV × Mem => x.1 = .b true) 0 (fun b => b) (wi (n2 : Int) 50 = ((11 : Nat) : Int)) (by omega) (by kernel_rfl) ?_
  refine H.nd (Q := fun x : AV × Mem => x.1 = .b true) 0 (fun b => b) (wi (n2 : Int) 50 = ((12 : Nat) : Int)) (by omega) (by kernel_rfl) ?_
  refine H.kd (Q := fun x : AV × Mem => x.1 = .b true) 0 (fun b => b) (wi (n2 : Int) 50 = ((13 : Nat) : Int)) hk (by kernel_rfl) ?_
  exact H.lf (Q := fun v : AV => v = .b true) (f := Prod.fst) 20000 (AV.b true) (by kernel_rfl) rfl
theorem gw14 (nl nl2 : Bool) (n n2 cap cap2 : Nat) (c1 c2 : List Col) (hk : wi (n2 : Int) 50 = ((14 : Nat) : Int)) : H (ev Sq 12 8 [.agg [.sl 0 0 n (some cap), .sl 1 0 n2 (some cap2)]] (memL 2 [.ro nl n c1, .ro nl2 n2 c2])) (fun x => x.1 = .b true) (fun _ _ => False) := by
  refine H.kd (Q := fun x : AV × Mem => x.1 = .b true) 3 (fun b => b) ((0 : Int) < 50 ∧ (50 : Int) < 9223372036854775808) (by omega) (by kernel_rfl) ?_
  refine H.nd (Q := fun x : AV × Mem => x.1 = .b true) 0 (fun b => b) (wi (n2 : Int) 50 = ((0 : Nat) : Int)) (by omega) (by kernel_rfl) ?_
  refine H.nd (Q := fun x : AV × Mem => x.1 = .b true) 0 (fun b => b) (wi (n2 : Int) 50 = ((1 : Nat) : Int)) (by omega) (by kernel_rfl) ?_
  refine H.nd (Q := fun x : AV × Mem => x.1 = .b true) 0 (fun b => b) (wi (n2 : Int) 50 = ((2 : Nat) : Int)) (by omega) (by kernel_rfl) ?_
  refine H.nd (Q := fun x : AV × Mem => x.1 = .b true) 0 (fun b => b) (wi (n2 : Int) 50 = ((3 : Nat) : Int)) (by omega) (by kernel_rfl) ?_
  refine H.nd (Q := fun x : AV × Mem => x.1 = .b true) 0 (fun b => b) (wi (n2 : Int) 50 = ((4 : Nat) : Int)) (by omega) (by kernel_rfl) ?_
  refine H.nd (Q := fun x : AV × Mem => x.1 = .b true) 0 (fun b => b) (wi (n2 : Int) 50 = ((5 : Nat) : Int)) (by omega) (by kernel_rfl) ?_
  refine H.nd (Q := fun x : AV × Mem => x.1 = .b true) 0 (fun b => b) (wi (n2 : Int) 50 = ((6 : Nat) : Int)) (by omega) (by kernel_rfl) ?_
  refine H.nd (Q := fun x : AV × Mem => x.1 = .b true) 0 (fun b => b) (wi (n2 : Int) 50 = ((7 : Nat) : Int)) (by omega) (by kernel_rfl) ?_
  refine H.nd (Q := fun x : AV × Mem => x.1 = .b true) 0 (fun b => b) (wi (n2 : Int) 50 = ((8 : Nat) : Int)) (by omega) (by kernel_rfl) ?_
  refine H.nd (Q := fun x : AV × Mem => x.1 = .b true) 0 (fun b => b) (wi (n2 : Int) 50 = ((9 : Nat) : Int)) (by omega) (by kernel_rfl) ?_
  refine H.nd (Q := fun x : AV × Mem => x.1 = .b true) 0 (fun b => b) (wi (n2 : Int) 50 = ((10 : Nat) : Int)) (by omega) (by kernel_rfl) ?_
  refine H.nd (Q := fun x : AV × Mem => x.1 = .b true) 0 (fun b => b) (wi (n2 : Int) 50 = ((11 : Nat) : Int)) (by omega) (by kernel_rfl) ?_
  refine H.nd (Q := fun x : AV × Mem => x.1 = .b true) 0 (fun b => b) (wi (n2 : Int) 50 = ((12 : Nat) : Int)) (by omega) (by kernel_rfl) ?_
  refine H.nd (Q := fun x : AV × Mem => x.1 = .b true) 0 (fun b => b) (wi (n2 : Int) 50 = ((13 : Nat) : Int)) (by omega) (by kernel_rfl) ?_
  refine H.kd (Q := fun x : AV × Mem => x.1 = .b true) 0 (fun b => b) (wi (n2 : Int) 50 = ((14 : Nat) : Int)) hk (by kernel_rfl) ?_
  exact H.lf (Q := fun v : AV => v = .b true) (f := Prod.fst) 20000 (AV.b true) (by kernel_rfl) rfl
theorem gw15 (nl nl2 : Bool) (n n2 cap cap2 : Nat) (c1 c2 : List Col) (hk : wi (n2 : Int) 50 = ((15 : Nat) : Int)) : H (ev Sq 12 8 [.agg [.sl 0 0 n (some cap), .sl 1 0 n2 (some cap2)]] (memL 2 [.ro nl n c1, .ro nl2 n2 c2])) (fun x => x.1 = .b true) (fun _ _ => False) := by
  refine H.kd (Q := fun x : AV × Mem => x.1 = .b true) 3 (fun b => b) ((0 : Int) < 50 ∧ (50 : Int) < 9223372036854775808) (by omega) (by kernel_rfl) ?_
  refine H.nd (Q := fun x : AV × Mem => x.1 = .b true) 0 (fun b => b) (wi (n2 : Int) 50 = ((0 : Nat) : Int)) (by omega) (by kernel_rfl) ?_
  refine H.nd (Q := fun x : AV × Mem => x.1 = .b true) 0 (fun b => b) (wi (n2 : Int) 50 = ((1 : Nat) : Int)) (by omega) (by kernel_rfl) ?_
  refine H.nd (Q := fun x : AV × Mem => x.1 = .b true) 0 (fun b => b) (wi (n2 : Int) 50 = ((2 : Nat) : Int)) (by omega) (by kernel_rfl) ?_
  refine H.nd (Q := fun x : AV × Mem => x.1 = .b true) 0 (fun b => b) (wi (n2 : Int) 50 = ((3 : Nat) : Int)) (by omega) (by kernel_rfl) ?_
  refine H.nd (Q := fun x : AV × Mem => x.1 = .b true) 0 (fun b => b) (wi (n2 : Int) 50 = ((4 : Nat) : Int)) (by omega) (by kernel_rfl) ?_
  refine H.nd (Q := fun x : AV × Mem => x.1 = .b true) 0 (fun b => b) (wi (n2 : Int) 50 = ((5 : Nat) : Int)) (by omega) (by kernel_rfl) ?_
  refine H.nd (Q := fun x : AV × Mem => x.1 = .b true) 0 (fun b => b) (wi (n2 : Int) 50 = ((6 : Nat) : Int)) (by omega) (by kernel_rfl) ?_
  refine H.nd (Q := fun x : AV × Mem => x.1 = .b true) 0 (fun b => b) (wi (n2 : Int) 50 = ((7 : Nat) : Int)) (by omega) (by kernel_rfl) ?_
  refine H.nd (Q := fun x : AV × Mem => x.1 = .b true) 0 (fun b => b) (wi (n2 : Int) 50 = ((8 : Nat) : Int)) (by omega) (by kernel_rfl) ?_
  refine H.nd (Q := fun x : AV × Mem => x.1 = .b true) 0 (fun b => b) (wi (n2 : Int) 50 = ((9 : Nat) : Int)) (by omega) (by kernel_rfl) ?_
  refine H.nd (Q := fun x : AV × Mem => x.1 = .b true) 0 (fun b => b) (wi (n2 : Int) 50 = ((10 : Nat) : Int)) (by omega) (by kernel_rfl) ?_
  refine H.nd (Q := fun x : AV × Mem => x.1 = .b true) 0 (fun b => b) (wi (n2 : Int) 50 = ((11 : Nat) : Int)) (by omega) (by kernel_rfl) ?_
  refine H.nd (Q := fun x : AV × Mem => x.1 = .b true) 0 (fun b => b) (wi (n2 : Int) 50 = ((12 : Nat) : Int)) (by omega) (by kernel_rfl) ?_
  refine H.nd (Q := fun x : AV × Mem => x.1 = .b true) 0 (fun b => b) (wi (n2 : Int) 50 = ((13 : Nat) : Int)) (by omega) (by kernel_rfl) ?_
  refine H.nd (Q := fun x : AV × Mem => x.1 = .b true) 0 (fun b => b) (wi (n2 : Int) 50 = ((14 : Nat) : Int)) (by omega) (by kernel_rfl) ?_
  refine H.kd (Q := fun x : AV × Mem => x.1 = .b true) 0 (fun b => b) (wi (n2 : Int) 50 = ((15 : Nat) : Int)) hk (by kernel_rfl) ?_
  exact H.lf (Q := fun v : AV => v = .b true) (f := Prod.fst) 20000 (AV.b true) (by kernel_rfl) rfl
theorem gw16 (nl nl2 : Bool) (n n2 cap cap2 : Nat) (c1 c2 : List Col) (hk : wi (n2 : Int) 50 = ((16 : Nat) : Int)) : H (ev Sq 12 8 [.agg [.sl 0 0 n (some cap), .sl 1 0 n2 (some cap2)]] (memL 2 [.ro nl n c1, .ro nl2 n2 c2])) (fun x => x.1 = .b true) (fun _ _ => False) := by
  refine H.kd (Q := fun x : AV × Mem => x.1 = .b true) 3 (fun b => b) ((0 : Int) < 50 ∧ (50 : Int) < 9223372036854775808) (by omega) (by kernel_rfl) ?_
  refine H.nd (Q := fun x : AV × Mem => x.1 = .b true) 0 (fun b => b) (wi (n2 : Int) 50 = ((0 : Nat) : Int)) (by omega) (by kernel_rfl) ?_
  refine H.nd (Q := fun x : AV × Mem => x.1 = .b true) 0 (fun b => b) (wi (n2 : Int) 50 = ((1 : Nat) : Int)) (by omega) (by kernel_rfl) ?_
  refine H.nd (Q := fun x : AV × Mem => x.1 = .b true) 0 (fun b => b) (wi (n2 : Int) 50 = ((2 : Nat) : Int)) (by omega) (by kernel_rfl) ?_
  refine H.nd (Q := fun x : AV × Mem => x.1 = .b true) 0 (fun b => b) (wi (n2 : Int) 50 = ((3 : Nat) : Int)) (by omega) (by kernel_rfl) ?_
  refine H.nd (Q := fun x : AV × Mem => x.1 = .b true) 0 (fun b => b) (wi (n2 : Int) 50 = ((4 : Nat) : Int)) (by omega) (by kernel_rfl) ?_
  refine H.nd (Q := fun x : AV × Mem => x.1 = .b true) 0 (fun b => b) (wi (n2 : Int) 50 = ((5 : Nat) : Int)) (by omega) (by kernel_rfl) ?_
  refine H.nd (Q := fun x : AV × Mem => x.1 = .b true) 0 (fun b => b) (wi (n2 : Int) 50 = ((6 : Nat) : Int)) (by omega) (by kernel_rfl) ?_
  refine H.nd (Q := fun x : AV × Mem => x.1 = .b true) 0 (fun b => b) (wi (n2 : Int) 50 = ((7 : Nat) : Int)) (by omega) (by kernel_rfl) ?_
  refine H.nd (Q := fun x : AV × Mem => x.1 = .b true) 0 (fun b => b) (wi (n2 : Int) 50 = ((8 : Nat) : Int)) (by omega) (by kernel_rfl) ?_
  refine H.nd (Q := fun x : AV × Mem => x.1 = .b true) 0 (fun b => b) (wi (n2 : Int) 50 = ((9 : Nat) : Int)) (by omega) (by kernel_rfl) ?_
  refine H.nd (Q := fun x : AV × Mem => x.1 = .b true) 0 (fun b => b) (wi (n2 : Int) 50 = ((10 : Nat) : Int)) (by omega) (by kernel_rfl) ?_
  refine H.nd (Q := fun x : AV × Mem => x.1 = .b true) 0 (fun b => b) (wi (n2 : Int) 50 = ((11 : Nat) : Int)) (by omega) (by kernel_rfl) ?_
  refine H.nd (Q := fun x : AV × Mem => x.1 = .b true) 0 (fun b => b) (wi (n2 : Int) 50 = ((12 : Nat) : Int)) (by omega) (by kernel_rfl) ?_
  refine H.nd (Q := fun x : AV × Mem => x.1 = .b true) 0 (fun b => b) (wi (n2 : Int) 50 = ((13 : Nat) : Int)) (by omega) (by kernel_rfl) ?_
  refine H.nd (Q := fun x : AV × Mem => x.1 = .b true) 0 (fun b => b) (wi (n2 : Int) 50 = ((14 : Nat) : Int)) (by omega) (by kernel_rfl) ?_
  refine H.nd (Q := fun x : AV × Mem => x.1 = .b true) 0 (fun b => b) (wi (n2 : Int) 50 = ((15 : Nat) : Int)) (by omega) (by kernel_rfl) ?_
  refine H.kd (Q := fun x : AV × Mem => x.1 = .b true) 0 (fun b => b) (wi (n2 : Int) 50 = ((16 : Nat) : Int)) hk (by kernel_rfl) ?_
  exact H.lf (Q := fun v : AV => v = .b true) (f := Prod.fst) 20000 (AV.b true) (by kernel_rfl) rfl
theorem gw17 (nl nl2 : Bool) (n n2 cap cap2 : Nat) (c1 c2 : List Col) (hk : wi (n2 : Int) 50 = ((17 : Nat) : Int)) : H (ev Sq 12 8 [.agg [.sl 0 0 n (some cap), .sl 1 0 n2 (some cap2)]] (memL 2 [.ro nl n c1, .ro nl2 n2 c2])) (fun x => x.1 = .b true) (fun _ _ => False) := by
  refine H.kd (Q := fun x : AV × Mem => x.1 = .b true) 3 (fun b => b) ((0 : Int) < 50 ∧ (50 : Int) < 9223372036854775808) (by omega) (by kernel_rfl) ?_
  refine H.nd (Q := fun x : AV × Mem => x.1 = .b true) 0 (fun b => b) (wi (n2 : Int) 50 = ((0 : Nat) : Int)) (by omega) (by kernel_rfl) ?_
  refine H.nd (Q := fun x : AV × Mem => x.1 = .b true) 0 (fun b => b) (wi (n2 : Int) 50 = ((1 : Nat) : Int)) (by omega) (by kernel_rfl) ?_
  refine H.nd (Q := fun x : AV × Mem => x.1 = .b true) 0 (fun b => b) (wi (n2 : Int) 50 = ((2 : Nat) : Int)) (by omega) (by kernel_rfl) ?_
  refine H.nd (Q := fun x : AV × Mem => x.1 = .b true) 0 (fun b => b) (wi (n2 : Int) 50 = ((3 : Nat) : Int)) (by omega) (by kernel_rfl) ?_
  refine H.nd (Q := fun x : AV × Mem => x.1 = .b true) 0 (fun b => b) (wi (n2 : Int) 50 = ((4 : Nat) : Int)) (by omega) (by kernel_rfl) ?_
  refine H.nd (Q := fun x : AV × Mem => x.1 = .b true) 0 (fun b => b) (wi (n2 : Int) 50 = ((5 : Nat) : Int)) (by omega) (by kernel_rfl) ?_
  refine H.nd (Q := fun x : AV × Mem => x.1 = .b true) 0 (fun b => b) (wi (n2 : Int) 50 = ((6 : Nat) : Int)) (by omega) (by kernel_rfl) ?_
  refine H.nd (Q := fun x : AV × Mem => x.1 = .b true) 0 (fun b => b) (wi (n2 : Int) 50 = ((7 : Nat) : Int)) (by omega) (by kernel_rfl) ?_
  refine H.nd (Q := fun x : AV × Mem => x.1 = .b true) 0 (fun b => b) (wi (n2 : Int) 50 = ((8 : Nat) : Int)) (by omega) (by kernel_rfl) ?_
  refine H.nd (Q := fun x : AV × Mem => x.1 = .b true) 0 (fun b => b) (wi (n2 : Int) 50 = ((9 : Nat) : Int)) (by omega) (by kernel_rfl) ?_
  refine H.nd (Q := fun x : AV × Mem => x.1 = .b true) 0 (fun b => b) (wi (n2 : Int) 50 = ((10 : Nat) : Int)) (by omega) (by kernel_rfl) ?_
  refine H.nd (Q := fun x : AV × Mem => x.1 = .b true) 0 (fun b => b) (wi (n2 : Int) 50 = ((11 : Nat) : Int)) (by omega) (by kernel_rfl) ?_
  refine H.nd (Q := fun x : AV × Mem => x.1 = .b true) 0 (fun b => b) (wi (n2 : Int) 50 = ((12 : Nat) : Int)) (by omega) (by kernel_rfl) ?_
  refine H.nd (Q := fun x : AV × Mem => x.1 = .b true) 0 (fun b => b) (wi (n2 : Int) 50 = ((13 : Nat) : Int)) (by omega) (by kernel_rfl) ?_
  refine H.nd (Q := fun x : AV × Mem => x.1 = .b true) 0 (fun b => b) (wi (n2 : Int) 50 = ((14 : Nat) : Int)) (by omega) (by kernel_rfl) ?_
  refine H.nd (Q := fun x : AV × Mem => x.1 = .b true) 0 (fun b => b) (wi (n2 : Int) 50 = ((15 : Nat) : Int)) (by omega) (by kernel_rfl) ?_
  refine H.nd (Q := fun x : AV × Mem => x.1 = .b true) 0 (fun b => b) (wi (n2 : Int) 50 = ((16 : Nat) : Int)) (by omega) (by kernel_rfl) ?_
  refine H.kd (Q := fun x : AV × Mem => x.1 = .b true) 0 (fun b => b) (wi (n2 : Int) 50 = ((17 : Nat) : Int)) hk (by kernel_rfl) ?_
  exact H.lf (Q := fun v : AV => v = .b true) (f := Prod.fst) 20000 (AV.b true) (by kernel_rfl) rfl
theorem gw18 (nl nl2 : Bool) (n n2 cap cap2 : Nat) (c1 c2 : List Col) (hk : wi (n2 : Int) 50 = ((18 : Nat) : Int)) : H (ev Sq 12 8 [.agg [.sl 0 0 n (some cap), .sl 1 0 n2 (some cap2)]] (memL 2 [.ro nl n c1, .ro nl2 n2 c2])) (fun x => x.1 = .b true) (fun _ _ => False) := by
  refine H.kd (Q := fun x : AV × Mem => x.1 = .b true) 3 (fun b => b) ((0 : Int) < 50 ∧ (50 : Int) < 9223372036854775808) (by omega) (by kernel_rfl) ?_
  refine H.nd (Q := fun x : AV × Mem => x.1 = .b true) 0 (fun b => b) (wi (n2 : Int) 50 = ((0 : Nat) : Int)) (by omega) (by kernel_rfl) ?_
  refine H.nd (Q := fun x : AV × Mem => x.1 = .b true) 0 (fun b => b) (wi (n2 : Int) 50 = ((1 : Nat) : Int)) (by omega) (by kernel_rfl) ?_
  refine H.nd (Q := fun x : AV × Mem => x.1 = .b true) 0 (fun b => b) (wi (n2 : Int) 50 = ((2 : Nat) : Int)) (by omega) (by kernel_rfl) ?_
  refine H.nd (Q := fun x : AV × Mem => x.1 = .b true) 0 (fun b => b) (wi (n2 : Int) 50 = ((3 : Nat) : Int)) (by omega) (by kernel_rfl) ?_
  refine H.nd (Q := fun x : AV × Mem => x.1 = .b true) 0 (fun b => b) (wi (n2 : Int) 50 = ((4 : Nat) : Int)) (by omega) (by kernel_rfl) ?_
  refine H.nd (Q := fun x : AV × Mem => x.1 = .b true) 0 (fun b => b) (wi (n2 : Int) 50 = ((5 : Nat) : Int)) (by omega) (by kernel_rfl) ?_
  refine H.nd (Q := fun x : AV × Mem => x.1 = .b true) 0 (fun b => b) (wi (n2 : Int) 50 = ((6 : Nat) : Int)) (by omega) (by kernel_rfl) ?_
  refine H.nd (Q := fun x : AV × Mem => x.1 = .b true) 0 (fun b => b) (wi (n2 : Int) 50 = ((7 : Nat) : Int)) (by omega) (by kernel_rfl) ?_
  refine H.nd (Q := fun x : AV × Mem => x.1 = .b true) 0 (fun b => b) (wi (n2 : Int) 50 = ((8 : Nat) : Int)) (by omega) (by kernel_rfl) ?_
  refine H.nd (Q := fun x : AV × Mem => x.1 = .b true) 0 (fun b => b) (wi (n2 : Int) 50 = ((9 : Nat) : Int)) (by omega) (by kernel_rfl) ?_
  refine H.nd (Q := fun x : AV × Mem => x.1 = .b true) 0 (fun b => b) (wi (n2 : Int) 50 = ((10 : Nat) : Int)) (by omega) (by kernel_rfl) ?_
  refine H.nd (Q := fun x : AV × Mem => x.1 = .b true) 0 (fun b => b) (wi (n2 : Int) 50 = ((11 : Nat) : Int)) (by omega) (by kernel_rfl) ?_
  refine H.nd (Q := fun x : AV × Mem => x.1 = .b true) 0 (fun b => b) (wi (n2 : Int) 50 = ((12 : Nat) : Int)) (by omega) (by kernel_rfl) ?_
  refine H.nd (Q := fun x : AV × Mem => x.1 = .b true) 0 (fun b => b) (wi (n2 : Int) 50 = ((13 : Nat) : Int)) (by omega) (by kernel_rfl) ?_
  refine H.nd (Q := fun x : AV × Mem => x.1 = .b true) 0 (fun b => b) (wi (n2 : Int) 50 = ((14 : Nat) : Int)) (by omega) (by kernel_rfl) ?_
  refine H.nd (Q := fun x : AV × Mem => x.1 = .b true) 0 (fun b => b) (wi (n2 : Int) 50 = ((15 : Nat) : Int)) (by omega) (by kernel_rfl) ?_
  refine H.nd (Q := fun x : AV × Mem => x.1 = .b true) 0 (fun b => b) (wi (n2 : Int) 50 = ((16 : Nat) : Int)) (by omega) (by kernel_rfl) ?_
  refine H.nd (Q := fun x : AV × Mem => x.1 = .b true) 0 (fun b => b) (wi (n2 : Int) 50 = ((17 : Nat) : Int)) (by omega) (by kernel_rfl) ?_
  refine H.kd (Q := fun x : AV × Mem => x.1 = .b true) 0 (fun b => b) (wi (n2 : Int) 50 = ((18 : Nat) : Int)) hk (by kernel_rfl) ?_
  exact H.lf (Q := fun v : AV => v = .b true) (f := Prod.fst) 20000 (AV.b true) (by kernel_rfl) rfl
theorem gw19 (nl nl2 : Bool) (n n2 cap cap2 : Nat) (c1 c2 : List Col) (hk : wi (n2 : Int) 50 = ((19 : Nat) : Int)) : H (ev Sq 12 8 [.agg [.sl 0 0 n (some cap), .sl 1 0 n2 (some cap2)]] (memL 2 [.ro nl n c1, .ro nl2 n2 c2])) (fun x => x.1 = .b true) (fun _ _ => False) := by
  refine H.kd (Q := fun x : AV × Mem => x.1 = .b true) 3 (fun b => b) ((0 : Int) < 50 ∧ (50 : Int) < 9223372036854775808) (by omega) (by kernel_rfl) ?_
  refine H.nd (Q := fun x : AV × Mem => x.1 = .b true) 0 (fun b => b) (wi (n2 : Int) 50 = ((0 : Nat) : Int)) (by omega) (by kernel_rfl) ?_
  refine H.nd (Q := fun x : AV × Mem => x.1 = .b true) 0 (fun b => b) (wi (n2 : Int) 50 = ((1 : Nat) : Int)) (by omega) (by kernel_rfl) ?_
  refine H.nd (Q := fun x : AV × Mem => x.1 = .b true) 0 (fun b => b) (wi (n2 : Int) 50 = ((2 : Nat) : Int)) (by omega) (by kernel_rfl) ?_
  refine H.nd (Q := fun x : AV × Mem => x.1 = .b true) 0 (fun b => b) (wi (n2 : Int) 50 = ((3 : Nat) : Int)) (by omega) (by kernel_rfl) ?_
  refine H.nd (Q := fun x : AV × Mem => x.1 = .b true) 0 (fun b => b) (wi (n2 : Int) 50 = ((4 : Nat) : Int)) (by omega) (by kernel_rfl) ?_
  refine H.nd (Q := fun x : AV × Mem => x.1 = .b true) 0 (fun b => b) (wi (n2 : Int) 50 = ((5 : Nat) : Int)) (by omega) (by kernel_rfl) ?_
  refine H.nd (Q := fun x : AV × Mem => x.1 = .b true) 0 (fun b => b) (wi (n2 : Int) 50 = ((6 : Nat) : Int)) (by omega) (by kernel_rfl) ?_
  refine H.nd (Q := fun x : AV × Mem => x.1 = .b true) 0 (fun b => b) (wi (n2 : Int) 50 = ((7 : Nat) : Int)) (by omega) (by kernel_rfl) ?_
  refine H.nd (Q := fun x : AV × Mem => x.1 = .b true) 0 (fun b => b) (wi (n2 : Int) 50 = ((8 : Nat) : Int)) (by omega) (by kernel_rfl) ?_
  refine H.nd (Q := fun x : AV × Mem => x.1 = .b true) 0 (fun b => b) (wi (n2 : Int) 50 = ((9 : Nat) : Int)) (by omega) (by kernel_rfl) ?_
  refine H.nd (Q := fun x : AV × Mem => x.1 = .b true) 0 (fun b => b) (wi (n2 : Int) 50 = ((10 : Nat) : Int)) (by omega) (by kernel_rfl) ?_
  refine H.nd (Q := fun x : AV × Mem => x.1 = .b true) 0 (fun b => b) (wi (n2 : Int) 50 = ((11 : Nat) : Int)) (by omega) (by kernel_rfl) ?_
  refine H.nd (Q := fun x : AV × Mem => x.1 = .b true) 0 (fun b => b) (wi (n2 : Int) 50 = ((12 : Nat) : Int)) (by omega) (by kernel_rfl) ?_
  refine H.nd (Q := fun x : AV × Mem => x.1 = .b true) 0 (fun b => b) (wi (n2 : Int) 50 = ((13 : Nat) : Int)) (by omega) (by kernel_rfl) ?_
  refine H.nd (Q := fun x : AV × Mem => x.1 = .b true) 0 (fun b => b) (wi (n2 : Int) 50 = ((14 : Nat) : Int)) (by omega) (by kernel_rfl) ?_
  refine H.nd (Q := fun x : AV × Mem => x.1 = .b true) 0 (fun b => b) (wi (n2 : Int) 50 = ((15 : Nat) : Int)) (by omega) (by kernel_rfl) ?_
  refine H.nd (Q := fun x : AV × Mem => x.1 = .b true) 0 (fun b => b) (wi (n2 : Int) 50 = ((16 : Nat) : Int)) (by omega) (by kernel_rfl) ?_
  refine H.nd (Q := fun x : AV × Mem => x.1 = .b true) 0 (fun b => b) (wi (n2 : Int) 50 = ((17 : Nat) : Int)) (by omega) (by kernel_rfl) ?_
  refine H.nd (Q := fun x : AV × Mem => x.1 = .b true) 0 (fun b => b) (wi (n2 : Int) 50 = ((18 : Nat) : Int)) (by omega) (by kernel_rfl) ?_
  refine H.kd (Q := fun x : AV × Mem => x.1 = .b true) 0 (fun b => b) (wi (n2 : Int) 50 = ((19 : Nat) : Int)) hk (by kernel_rfl) ?_
  exact H.lf (Q := fun v : AV => v = .b true) (f := Prod.fst) 20000 (AV.b true) (by kernel_rfl) rfl
end Go.Proofs.TabC
