/- A law walked through by the evaluator, for all columns that its argument may have. -/
import Derived.Test.YtnkglgcfemkibaaGryQ
set_option linter.all false
set_option linter.deprecated false
set_option maxRecDepth 1000000
set_option maxHeartbeats 0
namespace Go.Proofs.TabC
open Go Go.Eng
theorem gw20 (nl nl2 : Bool) (n n2 cap cap2 : Nat) (c1 c2 : List Col) (hk : wi (n2 : Int) 50 = ((20 : Nat) : Int)) : H (ev Sq 12 8 [.agg [.sl 0 0 n (some cap), .sl 1 0 n2 (some cap2)]] (memL 2 [.ro nl n c1, .ro nl2 n2 c2])) (fun x => x.1 = .b true) (fun _ _ => False) := by
  refine H.kd (Q := fun x : AV × Mem => x.1 = .b true) 3 (fun b => b) ((0 : Int) < 50 ∧ (50 : Int) < 9223372036854775808) (by omega) (by kernel_rfl) ?_
  refine H.nd (Q := fun x : AV × Mem => x.1 = .b true) 0 (fun b => b) (wi (n2 : Int) 50 = ((0 : Nat) : Int)) (by omega) (by kernel_rfl) ?_
  refine H.nd (Q := fun x : AV × Mem => x.1 = .b true) 0 (fun b => b) (wi (n2 : Int) 50 = ((1 : Nat) : Int)) (by omega) (by kernel_rfl) ?_
  refine H.nd (Q := fun x : AV × Mem => x.1 = .b true) 0 (fun b => b) (wi (n2 : Int) 50 = ((2 : Nat) : Int)) (by omega) (by kernel_rfl) ?_
  refine H.nd (Q := fun x : AV × Mem => x.1 = .b true) 0 (fun b => b) (wi (n2 : Int) 50 = ((3 : Nat) : Int)) (by omega) (by kernel_rfl) ?_
  refine H.nd (Q := fun x : AV × Mem => x.1 = .b true) 0 (fun b => b) (wi (n2 : Int) 50 = ((4 : Nat) : Int)) (by omega) (by kernel_rfl) ?_
  refine H.nd (Q := fun x : AV × Mem => x.1 = .b true) 0 (fun b => b) (wi (n2 : Int) 50 = ((5 : Nat) : Int)) (by omega) (by kernel_rfl) ?_
  refine H.nd (Q := fun x : AV × Mem => x.1 = .b true) 0 (fun b => b) (wi (n2 : Int) 50 = ((6 : Nat) : Int)) (by omega) (by kernel_rfl) ?_
  refine H.nd (Q := fun x : AV × Mem => x.1 = .b true) 0 (fun b => b) (wi (n2 : Int) 50 = ((7 : Nat) : Int)) (by omega) (by kernel_rfl) ?_
  refine H.nd (Q := fun x : AV × Mem => x.1 = .b true) 0 (fun b => b) (wi (n2 : Int) 50 = ((8 : Nat) : Int)) (by omega) (by kernel_rfl) ?_
  refine H.nd (Q := fun x : AV × Mem => x.1 = .b true) 0 (fun b => b) (wi (n2 : Int) 50 = ((9 : Nat) : Int)) (by omega) (by kernel_rfl) ?_
  refine H.nd (Q := fun x : AV × Mem => x.1 = .b true) 0 (fun b => b) (wi (n2 : Int) 50 = ((10 : Nat) : Int)) (by omega) (by kernel_rfl) ?_
  refine H.nd (Q := fun x : AV × Mem => x.1 = .b true) 0 (fun b => b) (wi (n2 : Int) 50 = ((11 : Nat) : Int)) (by omega) (by kernel_rfl) ?_
  refine H.nd (Q := fun x : AV × Mem => x.1 = .b true) 0 (fun b => b) (wi (n2 : Int) 50 = ((12 : Nat) : Int)) (by omega) (by kernel_rfl) ?_
  refine H.nd (Q := fun x : AV × Mem => x.1 = .b true) 0 (fun b => b) (wi (n2 : Int) 50 = ((13 : Nat) : Int)) (by omega) (by kernel_rfl) ?_
  refine H.nd (Q := fun x : AV × Mem => x.1 = .b true) 0 (fun b => b) (wi (n2 : Int) 50 = ((14 : Nat) : Int)) (by omega) (by kernel_rfl) ?_
  refine H.nd (Q := fun x : AV × Mem => x.1 = .b true) 0 (fun b => b) (wi (n2 : Int) 50 = ((15 : Nat) : Int)) (by omega) (by kernel_rfl) ?_
  refine H.nd (Q := fun x : AV × Mem => x.1 = .b true) 0 (fun b => b) (wi (n2 : Int) 50 = ((16 : Nat) : Int)) (by omega) (by kernel_rfl) ?_
  refine H.nd (Q := fun x : AV × Mem => x.1 = .b true) 0 (fun b => b) (wi (n2 : Int) 50 = ((17 : Nat) : Int)) (by omega) (by kernel_rfl) ?_
  refine H.nd (Q := fun x : AV × Mem => x.1 = .b true) 0 (fun b => b) (wi (n2 : Int) 50 = ((18 : Nat) : Int)) (by omega) (by kernel_rfl) ?_
  refine H.nd (Q := fun x : AV × Mem => x.1 = .b true) 0 (fun b => b) (wi (n2 : Int) 50 = ((19 : Nat) : Int)) (by omega) (by kernel_rfl) ?_
  refine H.kd (Q := fun x : AV × Mem => x.1 = .b true) 0 (fun b => b) (wi (n2 : Int) 50 = ((20 : Nat) : Int)) hk (by kernel_rfl) ?_
  exact H.lf (Q := fun v : AV => v = .b true) (f := Prod.fst) 20000 (AV.b true) (by kernel_rfl) rfl
theorem gw21 (nl nl2 : Bool) (n n2 cap cap2 : Nat) (c1 c2 : List Col) (hk : wi (n2 : Int) 50 = ((21 : Nat) : Int)) : H (ev Sq 12 8 [.agg [.sl 0 0 n (some cap), .sl 1 0 n2 (some cap2)]] (memL 2 [.ro nl n c1, .ro nl2 n2 c2])) (fun x => x.1 = .b true) (fun _ _ => False) := by
  refine H.kd (Q := fun x : AV × Mem => x.1 = .b true) 3 (fun b => b) ((0 : Int) < 50 ∧ (50 : Int) < 9223372036854775808) (by omega) (by kernel_rfl) ?_
  refine H.nd (Q := fun x : AV × Mem => x.1 = .b true) 0 (fun b => b) (wi (n2 : Int) 50 = ((0 : Nat) : Int)) (by omega) (by kernel_rfl) ?_
  refine H.nd (Q := fun x : AV × Mem => x.1 = .b true) 0 (fun b => b) (wi (n2 : Int) 50 = ((1 : Nat) : Int)) (by omega) (by kernel_rfl) ?_
  refine H.nd (Q := fun x : AV × Mem => x.1 = .b true) 0 (fun b => b) (wi (n2 : Int) 50 = ((2 : Nat) : Int)) (by omega) (by kernel_rfl) ?_
  refine H.nd (Q := fun x : AV × Mem => x.1 = .b true) 0 (fun b => b) (wi (n2 : Int) 50 = ((3 : Nat) : Int)) (by omega) (by kernel_rfl) ?_
  refine H.nd (Q := fun x : AV × Mem => x.1 = .b true) 0 (fun b => b) (wi (n2 : Int) 50 = ((4 : Nat) : Int)) (by omega) (by kernel_rfl) ?_
  refine H.nd (Q := fun x : AV × Mem => x.1 = .b true) 0 (fun b => b) (wi (n2 : Int) 50 = ((5 : Nat) : Int)) (by omega) (by kernel_rfl) ?_
  refine H.nd (Q := fun x : AV × Mem => x.1 = .b true) 0 (fun b => b) (wi (n2 : Int) 50 = ((6 : Nat) : Int)) (by omega) (by kernel_rfl) ?_
  refine H.nd (Q := fun x : AV × Mem => x.1 = .b true) 0 (fun b => b) (wi (n2 : Int) 50 = ((7 : Nat) : Int)) (by omega) (by kernel_rfl) ?_
  refine H.nd (Q := fun x : AV × Mem => x.1 = .b true) 0 (fun b => b) (wi (n2 : Int) 50 = ((8 : Nat) : Int)) (by omega) (by kernel_rfl) ?_
  refine H.nd (Q := fun x : AV × Mem => x.1 = .b true) 0 (fun b => b) (wi (n2 : Int) 50 = ((9 : Nat) : Int)) (by omega) (by kernel_rfl) ?_
  refine H.nd (Q := fun x : AV × Mem => x.1 = .b true) 0 (fun b => b) (wi (n2 : Int) 50 = ((10 : Nat) : Int)) (by omega) (by kernel_rfl) ?_
  refine H.nd (Q := fun x : AV × Mem => x.1 = .b true) 0 (fun b => b) (wi (n2 : Int) 50 = ((11 : Nat) : Int)) (by omega) (by kernel_rfl) ?_
  refine H.nd (Q := fun x : AV × Mem => x.1 = .b true) 0 (fun b => b) (wi (n2 : Int) 50 = ((12 : Nat) : Int)) (by omega) (by kernel_rfl) ?_
  refine H.nd (Q := fun x : AV × Mem => x.1 = .b true) 0 (fun b => b) (wi (n2 : Int) 50 = ((13 : Nat) : Int)) (by omega) (by kernel_rfl) ?_
  refine H.nd (Q := fun x : AV × Mem => x.1 = .b true) 0 (fun b => b) (wi (n2 : Int) 50 = ((14 : Nat) : Int)) (by omega) (by kernel_rfl) ?_
  refine H.nd (Q := fun x : AV × Mem => x.1 = .b true) 0 (fun b => b) (wi (n2 : Int) 50 = ((15 : Nat) : Int)) (by omega) (by kernel_rfl) ?_
  refine H.nd (Q := fun x : AV × Mem => x.1 = .b true) 0 (fun b => b) (wi (n2 : Int) 50 = ((16 : Nat) : Int)) (by omega) (by kernel_rfl) ?_
  refine H.nd (Q := fun x : AV × Mem => x.1 = .b true) 0 (fun b => b) (wi (n2 : Int) 50 = ((17 : Nat) : Int)) (by omega) (by kernel_rfl) ?_
  refine H.nd (Q := fun x : AV × Mem => x.1 = .b true) 0 (fun b => b) (wi (n2 : Int) 50 = ((18 : Nat) : Int)) (by omega) (by kernel_rfl) ?_
  refine H.nd (Q := fun x : AV × Mem => x.1 = .b true) 0 (fun b => b) (wi (n2 : Int) 50 = ((19 : Nat) : Int)) (by omega) (by kernel_rfl) ?_
  refine H.nd (Q := fun x : AV × Mem => x.1 = .b true) 0 (fun b => b) (wi (n2 : Int) 50 = ((20 : Nat) : Int)) (by omega) (by kernel_rfl) ?_
  refine H.kd (Q := fun x : AV × Mem => x.1 = .b true) 0 (fun b => b) (wi (n2 : Int) 50 = ((21 : Nat) : Int)) hk (by kernel_rfl) ?_
  exact H.lf (Q := fun v : AV => v = .b true) (f := Prod.fst) 20000 (AV.b true) (by kernel_rfl) rfl
theorem gw22 (nl nl2 : Bool) (n n2 cap cap2 : Nat) (c1 c2 : List Col) (hk : wi (n2 : Int) 50 = ((22 : Nat) : Int)) : H (ev Sq 12 8 [.agg [.sl 0 0 n (some cap), .sl 1 0 n2 (some cap2)]] (memL 2 [.ro nl n c1, .ro nl2 n2 c2])) (fun x => x.1 = .b true) (fun _ _ => False) := by
  refine H.kd (Q := fun x : AV × Mem => x.1 = .b true) 3 (fun b => b) ((0 : Int) < 50 ∧ (50 : Int) < 9223372036854775808) (by omega) (by kernel_rfl) ?_
  refine H.nd (Q := fun x : AV × Mem => x.1 = .b true) 0 (fun b => b) (wi (n2 : Int) 50 = ((0 : Nat) : Int)) (by omega) (by kernel_rfl) ?_
  refine H.nd (Q := fun x : AV × Mem => x.1 = .b true) 0 (fun b => b) (wi (n2 : Int) 50 = ((1 : Nat) : Int)) (by omega) (by kernel_rfl) ?_
  refine H.nd (Q := fun x : AV × Mem => x.1 = .b true) 0 (fun b => b) (wi (n2 : Int) 50 = ((2 : Nat) : Int)) (by omega) (by kernel_rfl) ?_
  refine H.nd (Q := fun x : AV × Mem => x.1 = .b true) 0 (fun b => b) (wi (n2 : Int) 50 = ((3 : Nat) : Int)) (by omega) (by kernel_rfl) ?_
  refine H.nd (Q := fun x : AV × Mem => x.1 = .b true) 0 (fun b => b) (wi (n2 : Int) 50 = ((4 : Nat) : Int)) (by omega) (by kernel_rfl) ?_
  refine H.nd (Q := fun x : AV × Mem => x.1 = .b true) 0 (fun b => b) (wi (n2 : Int) 50 = ((5 : Nat) : Int)) (by omega) (by kernel_rfl) ?_
  refine H.nd (Q := fun x : AV × Mem => x.1 = .b true) 0 (fun b => b) (wi (n2 : Int) 50 = ((6 : Nat) : Int)) (by omega) (by kernel_rfl) ?_
  refine H.nd (Q := fun x : AV × Mem => x.1 = .b true) 0 (fun b => b) (wi (n2 : Int) 50 = ((7 : Nat) : Int)) (by omega) (by kernel_rfl) ?_
  refine H.nd (Q := fun x : AV × Mem => x.1 = .b true) 0 (fun b => b) (wi (n2 : Int) 50 = ((8 : Nat) : Int)) (by omega) (by kernel_rfl) ?_
  refine H.nd (Q := fun x : AV × Mem => x.1 = .b true) 0 (fun b => b) (wi (n2 : Int) 50 = ((9 : Nat) : Int)) (by omega) (by kernel_rfl) ?_
  refine H.nd (Q := fun x : AV × Mem => x.1 = .b true) 0 (fun b => b) (wi (n2 : Int) 50 = ((10 : Nat) : Int)) (by omega) (by kernel_rfl) ?_
  refine H.nd (Q := fun x : AV × Mem => x.1 = .b true) 0 (fun b => b) (wi (n2 : Int) 50 = ((11 : Nat) : Int)) (by omega) (by kernel_rfl) ?_
  refine H.nd (Q := fun x : AV × Mem => x.1 = .b true) 0 (fun b => b) (wi (n2 : Int) 50 = ((12 : Nat) : Int)) (by omega) (by kernel_rfl) ?_
  refine H.nd (Q := fun x : AV × Mem => x.1 = .b true) 0 (fun b => b) (wi (n2 : Int) 50 = ((13 : Nat) : Int)) (by omega) (by kernel_rfl) ?_
  refine H.nd (Q := fun x : AV × Mem => x.1 = .b true) 0 (fun b => b) (wi (n2 : Int) 50 = ((14 : Nat) : Int)) (by omega) (by kernel_rfl) ?_
  refine H.nd (Q := fun x : AV × Mem => x.1 = .b true) 0 (fun b => b) (wi (n2 : Int) 50 = ((15 : Nat) : Int)) (by omega) (by kernel_rfl) ?_
  refine H.nd (Q := fun x : AV × Mem => x.1 = .b true) 0 (fun b => b) (wi (n2 : Int) 50 = ((16 : Nat) : Int)) (by omega) (by kernel_rfl) ?_
  refine H.nd (Q := fun x : AV × Mem => x.1 = .b true) 0 (fun b => b) (wi (n2 : Int) 50 = ((17 : Nat) : Int)) (by omega) (by kernel_rfl) ?_
  refine H.nd (Q := fun x : AV × Mem => x.1 = .b true) 0 (fun b => b) (wi (n2 : Int) 50 = ((18 : Nat) : Int)) (by omega) (by kernel_rfl) ?_
  refine H.nd (Q := fun x : AV × Mem => x.1 = .b true) 0 (fun b => b) (wi (n2 : Int) 50 = ((19 : Nat) : Int)) (by omega) (by kernel_rfl) ?_
  refine H.nd (Q := fun x : AV × Mem => x.1 = .b true) 0 (fun b => b) (wi (n2 : Int) 50 = ((20 : Nat) : Int)) (by omega) (by kernel_rfl) ?_
  refine H.nd (Q := fun x : AV × Mem => x.1 = .b true) 0 (fun b => b) (wi (n2 : Int) 50 = ((21 : Nat) : Int)) (by omega) (by kernel_rfl) ?_
  refine H.kd (Q := fun x : AV × Mem => x.1 = .b true) 0 (fun b => b) (wi (n2 : Int) 50 = ((22 : Nat) : Int)) hk (by kernel_rfl) ?_
  exact H.lf (Q := fun v : AV => v = .b true) (f := Prod.fst) 20000 (AV.b true) (by kernel_rfl) rfl
theorem gw23 (nl nl2 : Bool) (n n2 cap cap2 : Nat) (c1 c2 : List Col) (hk : wi (n2 : Int) 50 = ((23 : Nat) : Int)) : H (ev Sq 12 8 [.agg [.sl 0 0 n (some cap), .sl 1 0 n2 (some cap2)]] (memL 2 [.ro nl n c1, .ro nl2 n2 c2])) (fun x => x.1 = .b true) (fun _ _ => False) := by
  refine H.kd (Q := fun x : AV × Mem => x.1 = .b true) 3 (fun b => b) ((0 : Int) < 50 ∧ (50 : Int) < 9223372036854775808) (by omega) (by kernel_rfl) ?_
  refine H.nd (Q := fun x : AV × Mem => x.1 = .b true) 0 (fun b => b) (wi (n2 : Int) 50 = ((0 : Nat) : Int)) (by omega) (by kernel_rfl) ?_
  refine H.nd (Q := fun x : AV × Mem => x.1 = .b true) 0 (fun b => b) (wi (n2 : Int) 50 = ((1 : Nat) : Int)) (by omega) (by kernel_rfl) ?_
  refine H.nd (Q := fun x : AV × Mem => x.1 = .b true) 0 (fun b => b) (wi (n2 : Int) 50 = ((2 : Nat) : Int)) (by omega) (by kernel_rfl) ?_
  refine H.nd (Q := fun x : AV × Mem => x.1 = .b true) 0 (fun b => b) (wi (n2 : Int) 50 = ((3 : Nat) : Int)) (by omega) (by kernel_rfl) ?_
  refine H.nd (Q := fun x : AV × Mem => x.1 = .b true) 0 (fun b => b) (wi (n2 : Int) 50 = ((4 : Nat) : Int)) (by omega) (by kernel_rfl) ?_
  refine H.nd (Q := fun x : AV × Mem => x.1 = .b true) 0 (fun b => b) (wi (n2 : Int) 50 = ((5 : Nat) : Int)) (by omega) (by kernel_rfl) ?_
  refine H.nd (Q := fun x : AV × Mem => x.1 = .b true) 0 (fun b => b) (wi (n2 : Int) 50 = ((6 : Nat) : Int)) (by omega) (by kernel_rfl) ?_
  refine H.nd (Q := fun x : AV × Mem => x.1 = .b true) 0 (fun b => b) (wi (n2 : Int) 50 = ((7 : Nat) : Int)) (by omega) (by kernel_rfl) ?_
  refine H.nd (Q := fun x : AV × Mem => x.1 = .b true) 0 (fun b => b) (wi (n2 : Int) 50 = ((8 : Nat) : Int)) (by omega) (by kernel_rfl) ?_
  refine H.nd (Q := fun x : AV × Mem => x.1 = .b true) 0 (fun b => b) (wi (n2 : Int) 50 = ((9 : Nat) : Int)) (by omega) (by kernel_rfl) ?_
  refine H.nd (Q := fun x : AV × Mem => x.1 = .b true) 0 (fun b => b) (wi (n2 : Int) 50 = ((10 : Nat) : Int)) (by omega) (by kernel_rfl) ?_
  refine H.nd (Q := fun x : AV × Mem => x.1 = .b true) 0 (fun b => b) (wi (n2 : Int) 50 = ((11 : Nat) : Int)) (by omega) (by kernel_rfl) ?_
  refine H.nd (Q := fun x : AV × Mem => x.1 = .b true) 0 (fun b => b) (wi (n2 : Int) 50 = ((12 : Nat) : Int)) (by omega) (by kernel_rfl) ?_
  refine H.nd (Q := fun x : AV × Mem => x.1 = .b true) 0 (fun b => b) (wi (n2 : Int) 50 = ((13 : Nat) : Int)) (by omega) (by kernel_rfl) ?_
  refine H.nd (Q := fun x : AV × Mem => x.1 = .b true) 0 (fun b => b) (wi (n2 : Int) 50 = ((14 : Nat) : Int)) (by omega) (by kernel_rfl) ?_
  refine H.nd (Q := fun x : AV × Mem => x.1 = .b true) 0 (fun b => b) (wi (n2 : Int) 50 = ((15 : Nat) : Int)) (by omega) (by kernel_rfl) ?_
  refine H.nd (Q := fun x : AV × Mem => x.1 = .b true) 0 (fun b => b) (wi (n2 : Int) 50 = ((16 : Nat) : Int)) (by omega) (by kernel_rfl) ?_
  refine H.nd (Q := fun x : AV × Mem => x.1 = .b true) 0 (fun b => b) (wi (n2 : Int) 50 = ((17 : Nat) : Int)) (by omega) (by kernel_rfl) ?_
  refine H.nd (Q := fun x : AV × Mem => x.1 = .b true) 0 (fun b => b) (wi (n2 : Int) 50 = ((18 : Nat) : Int)) (by omega) (by kernel_rfl) ?_
  refine H.nd (Q := fun x : AV × Mem => x.1 = .b true) 0 (fun b => b) (wi (n2 : Int) 50 = ((19 : Nat) : Int)) (by omega) (by kernel_rfl) ?_
  refine H.nd (Q := fun x : AV × Mem => x.1 = .b true) 0 (fun b => b) (wi (n2 : Int) 50 = ((20 : Nat) : Int)) (by omega) (by kernel_rfl) ?_
  refine H.nd (Q := fun x : AV × Mem => x.1 = .b true) 0 (fun b => b) (wi (n2 : Int) 50 = ((21 : Nat) : Int)) (by omega) (by kernel_rfl) ?_
  refine H.nd (Q := fun x : AV × Mem => x.1 = .b true) 0 (fun b => b) (wi (n2 : Int) 50 = ((22 : Nat) : Int)) (by omega) (by kernel_rfl) ?_
  refine H.kd (Q := fun x : AV × Mem => x.1 = .b true) 0 (fun b => b) (wi (n2 : Int) 50 = ((23 : Nat) : Int)) hk (by kernel_rfl) ?_
  exact H.lf (Q := fun v : AV => v = .b true) (f := Prod.fst) 20000 (AV.b true) (by kernel_rfl) rfl
theorem gw24 (nl nl2 : Bool) (n n2 cap cap2 : Nat) (c1 c2 : List Col) (hk : wi (n2 : Int) 50 = ((24 : Nat) : Int)) : H (ev Sq 12 8 [.agg [.sl 0 0 n (some cap), .sl 1 0 n2 (some cap2)]] (memL 2 [.ro nl n c1, .ro nl2 n2 c2])) (fun x => x.1 = .b true) (fun _ _ => False) := by
  refine H.kd (Q := fun x : AV × Mem => x.1 = .b true) 3 (fun b => b) ((0 : Int) < 50 ∧ (50 : Int) < 9223372036854775808) (by omega) (by kernel_rfl) ?_
  refine H.nd (Q := fun x : AV × Mem => x.1 = .b true) 0 (fun b => b) (wi (n2 : Int) 50 = ((0 : Nat) : Int)) (by omega) (by kernel_rfl) ?_
  refine H.nd (Q := fun x : AV × Mem => x.1 = .b true) 0 (fun b => b) (wi (n2 : Int) 50 = ((1 : Nat) : Int)) (by omega) (by kernel_rfl) ?_
  refine H.nd (Q := fun x : AV × Mem => x.1 = .b true) 0 (fun b => b) (wi (n2 : Int) 50 = ((2 : Nat) : Int)) (by omega) (by kernel_rfl) ?_
  refine H.nd (Q := fun x : AV × Mem => x.1 = .b true) 0 (fun b => b) (wi (n2 : Int) 50 = ((3 : Nat) : Int)) (by omega) (by kernel_rfl) ?_
  refine H.nd (Q := fun x : AV × Mem => x.1 = .b true) 0 (fun b => b) (wi (n2 : Int) 50 = ((4 : Nat) : Int)) (by omega) (by kernel_rfl) ?_
  refine H.nd (Q := fun x : AV × Mem => x.1 = .b true) 0 (fun b => b) (wi (n2 : Int) 50 = ((5 : Nat) : Int)) (by omega) (by kernel_rfl) ?_
  refine H.nd (Q := fun x : AV × Mem => x.1 = .b true) 0 (fun b => b) (wi (n2 : Int) 50 = ((6 : Nat) : Int)) (by omega) (by kernel_rfl) ?_
  refine H.nd (Q := fun x : AV × Mem => x.1 = .b true) 0 (fun b => b) (wi (n2 : Int) 50 = ((7 : Nat) : Int)) (by omega) (by kernel_rfl) ?_
  refine H.nd (Q := fun x : AV × Mem => x.1 = .b true) 0 (fun b => b) (wi (n2 : Int) 50 = ((8 : Nat) : Int)) (by omega) (by kernel_rfl) ?_
  refine H.nd (Q := fun x : AV × Mem => x.1 = .b true) 0 (fun b => b) (wi (n2 : Int) 50 = ((9 : Nat) : Int)) (by omega) (by kernel_rfl) ?_
  refine H.nd (Q := fun x : AV × Mem => x.1 = .b true) 0 (fun b => b) (wi (n2 : Int) 50 = ((10 : Nat) : Int)) (by omega) (by kernel_rfl) ?_
  refine H.nd (Q := fun x : AV × Mem => x.1 = .b true) 0 (fun b => b) (wi (n2 : Int) 50 = ((11 : Nat) : Int)) (by omega) (by kernel_rfl) ?_
  refine H.nd (Q := fun x : AV × Mem => x.1 = .b true) 0 (fun b => b) (wi (n2 : Int) 50 = ((12 : Nat) : Int)) (by omega) (by kernel_rfl) ?_
  refine H.nd (Q := fun x : AV × Mem => x.1 = .b true) 0 (fun b => b) (wi (n2 : Int) 50 = ((13 : Nat) : Int)) (by omega) (by kernel_rfl) ?_
  refine H.nd (Q := fun x : AV × Mem => x.1 = .b true) 0 (fun b => b) (wi (n2 : Int) 50 = ((14 : Nat) : Int)) (by omega) (by kernel_rfl) ?_
  refine H.nd (Q := fun x : AV × Mem => x.1 = .b true) 0 (fun b => b) (wi (n2 : Int) 50 = ((15 : Nat) : Int)) (by omega) (by kernel_rfl) ?_
  refine H.nd (Q := fun x : AV × Mem => x.1 = .b true) 0 (fun b => b) (wi (n2 : Int) 50 = ((16 : Nat) : Int)) (by omega) (by kernel_rfl) ?_
  refine H.nd (Q := fun x : AV × Mem => x.1 = .b true) 0 (fun b => b) (wi (n2 : Int) 50 = ((17 : Nat) : Int)) (by omega) (by kernel_rfl) ?_
  refine H.nd (Q := fun x : AV × Mem => x.1 = .b true) 0 (fun b => b) (wi (n2 : Int) 50 = ((18 : Nat) : Int)) (by omega) (by kernel_rfl) ?_
  refine H.nd (Q := fun x : AV × Mem => x.1 = .b true) 0 (fun b => b) (wi (n2 : Int) 50 = ((19 : Nat) : Int)) (by omega) (by kernel_rfl) ?_
  refine H.nd (Q := fun x : AV × Mem => x.1 = .b true) 0 (fun b => b) (wi (n2 : Int) 50 = ((20 : Nat) : Int)) (by omega) (by kernel_rfl) ?_
  refine H.nd (Q := fun x : AV × Mem => x.1 = .b true) 0 (fun b => b) (wi (n2 : Int) 50 = ((21 : Nat) : Int)) (by omega) (by kernel_rfl) ?_
  refine H.nd (Q := fun x : AV × Mem => x.1 = .b true) 0 (fun b => b) (wi (n2 : Int) 50 = ((22 : Nat) : Int)) (by omega) (by kernel_rfl) ?_
  refine H.nd (Q := fun x : AV × Mem => x.1 = .b true) 0 (fun b => b) (wi (n2 : Int) 50 = ((23 : Nat) : Int)) (by omega) (by kernel_rfl) ?_
  refine H.kd (Q := fun x : AV × Mem => x.1 = .b true) 0 (fun b => b) (wi (n2 : Int) 50 = ((24 : Nat) : Int)) hk (by kernel_rfl) ?_
  exact H.lf (Q := fun v : AV => v = .b true) (f := Prod.fst) 20000 (AV.b true) (by kernel_rfl) rfl
theorem gw25 (nl nl2 : Bool) (n n2 cap cap2 : Nat) (c1 c2 : List Col) (hk : wi (n2 : Int) 50 = ((25 : Nat) : Int)) : H (ev Sq 12 8 [.agg [.sl 0 0 n (some cap), .sl 1 0 n2 (some cap2)]] (memL 2 [.ro nl n c1, .ro nl2 n2 c2])) (fun x => x.1 = .b true) (fun _ _ => False) := by
  refine H.kd (Q := fun x : AV × Mem => x.1 = .b true) 3 (fun b => b) ((0 : Int) < 50 ∧ (50 : Int) < 9223372036854775808) (by omega) (by kernel_rfl) ?_
  refine H.nd (Q := fun x : AV × Mem => x.1 = .b true) 0 (fun b => b) (wi (n2 : Int) 50 = ((0 : Nat) : Int)) (by omega) (by kernel_rfl) ?_
  refine H.nd (Q := fun x : AV × Mem => x.1 = .b true) 0 (fun b => b) (wi (n2 : Int) 50 = ((1 : Nat) : Int)) (by omega) (by kernel_rfl) ?_
  refine H.nd (Q := fun x : AV × Mem => x.1 = .b true) 0 (fun b => b) (wi (n2 : Int) 50 = ((2 : Nat) : Int)) (by omega) (by kernel_rfl) ?_
  refine H.nd (Q := fun x : AV × Mem => x.1 = .b true) 0 (fun b => b) (wi (n2 : Int) 50 = ((3 : Nat) : Int)) (by omega) (by kernel_rfl) ?_
  refine H.nd (Q := fun x : AV × Mem => x.1 = .b true) 0 (fun b => b) (wi (n2 : Int) 50 = ((4 : Nat) : Int)) (by omega) (by kernel_rfl) ?_
  refine H.nd (Q := fun x : AV × Mem => x.1 = .b true) 0 (fun b => b) (wi (n2 : Int) 50 = ((5 : Nat) : Int)) (by omega) (by kernel_rfl) ?_
  refine H.nd (Q := fun x : AV × Mem => x.1 = .b true) 0 (fun b => b) (wi (n2 : Int) 50 = ((6 : Nat) : Int)) (by omega) (by kernel_rfl) ?_
  refine H.nd (Q := fun x : AV × Mem => x.1 = .b true) 0 (fun b => b) (wi (n2 : Int) 50 = ((7 : Nat) : Int)) (by omega) (by kernel_rfl) ?_
  refine H.nd (Q := fun x : AV × Mem => x.1 = .b true) 0 (fun b => b) (wi (n2 : Int) 50 = ((8 : Nat) : Int)) (by omega) (by kernel_rfl) ?_
  refine H.nd (Q := fun x : AV × Mem => x.1 = .b true) 0 (fun b => b) (wi (n2 : Int) 50 = ((9 : Nat) : Int)) (by omega) (by kernel_rfl) ?_
  refine H.nd (Q := fun x : AV × Mem => x.1 = .b true) 0 (fun b => b) (wi (n2 : Int) 50 = ((10 : Nat) : Int)) (by omega) (by kernel_rfl) ?_
  refine H.nd (Q := fun x : AV × Mem => x.1 = .b true) 0 (fun b => b) (wi (n2 : Int) 50 = ((11 : Nat) : Int)) (by omega) (by kernel_rfl) ?_
  refine H.nd (Q := fun x : AV × Mem => x.1 = .b true) 0 (fun b => b) (wi (n2 : Int) 50 = ((12 : Nat) : Int)) (by omega) (by kernel_rfl) ?_
  refine H.nd (Q := fun x : AV × Mem => x.1 = .b true) 0 (fun b => b) (wi (n2 : Int) 50 = ((13 : Nat) : Int)) (by omega) (by kernel_rfl) ?_
  refine H.nd (Q := fun x : AV × Mem => x.1 = .b true) 0 (fun b => b) (wi (n2 : Int) 50 = ((14 : Nat) : Int)) (by omega) (by kernel_rfl) ?_
  refine H.nd (Q := fun x : AV × Mem => x.1 = .b true) 0 (fun b => b) (wi (n2 : Int) 50 = ((15 : Nat) : Int)) (by omega) (by kernel_rfl) ?_
  refine H.nd (Q := fun x : AV × Mem => x.1 = .b true) 0 (fun b => b) (wi (n2 : Int) 50 = ((16 : Nat) : Int)) (by omega) (by kernel_rfl) ?_
  refine H.nd (Q := fun x : AV × Mem => x.1 = .b true) 0 (fun b => b) (wi (n2 : Int) 50 = ((17 : Nat) : Int)) (by omega) (by kernel_rfl) ?_
  refine H.nd (Q := fun x : AV × Mem => x.1 = .b true) 0 (fun b => b) (wi (n2 : Int) 50 = ((18 : Nat) : Int)) (by omega) (by kernel_rfl) ?_
  refine H.nd (Q := fun x : AV × Mem => x.1 = .b true) 0 (fun b => b) (wi (n2 : Int) 50 = ((19 : Nat) : Int)) (by omega) (by kernel_rfl) ?_
  refine H.nd (Q := fun x : AV × Mem => x.1 = .b true) 0 (fun b => b) (wi (n2 : Int) 50 = ((20 : Nat) : Int)) (by omega) (by kernel_rfl) ?_
  refine H.nd (Q := fun x : AV × Mem => x.1 = .b true) 0 (fun b => b) (wi (n2 : Int) 50 = ((21 : Nat) : Int)) (by omega) (by kernel_rfl) ?_
  refine H.nd (Q := fun x : AV × Mem => x.1 = .b true) 0 (fun b => b) (wi (n2 : Int) 50 = ((22 : Nat) : Int)) (by omega) (by kernel_rfl) ?_
  refine H.nd (Q := fun x : AV × Mem => x.1 = .b true) 0 (fun b => b) (wi (n2 : Int) 50 = ((23 : Nat) : Int)) (by omega) (by kernel_rfl) ?_
  refine H.nd (Q := fun x : AV × Mem => x.1 = .b true) 0 (fun b => b) (wi (n2 : Int) 50 = ((24 : Nat) : Int)) (by omega) (by kernel_rfl) ?_
  refine H.kd (Q := fun x : AV × Mem => x.1 = .b true) 0 (fun b => b) (wi (n2 : Int) 50 = ((25 : Nat) : Int)) hk (by kernel_rfl) ?_
  exact H.lf (Q := fun v : AV => v = .b true) (f := Prod.fst) 20000 (AV.b true) (by kernel_rfl) rfl
theorem gw26 (nl nl2 : Bool) (n n2 cap cap2 : Nat) (c1 c2 : List Col) (hk : wi (n2 : Int) 50 = ((26 : Nat) : Int)) : H (ev Sq 12 8 [.agg [.sl 0 0 n (some cap), .sl 1 0 n2 (some cap2)]] (memL 2 [.ro nl n c1, .ro nl2 n2 c2])) (fun x => x.1 = .b true) (fun _ _ => False) := by
  refine H.kd (Q := fun x : AV × Mem => x.1 = .b true) 3 (fun b => b) ((0 : Int) < 50 ∧ (50 : Int) < 9223372036854775808) (by omega) (by kernel_rfl) ?_
  refine H.nd (Q := fun x : AV × Mem => x.1 = .b true) 0 (fun b => b) (wi (n2 : Int) 50 = ((0 : Nat) : Int)) (by omega) (by kernel_rfl) ?_
  refine H.nd (Q := fun x : AV × Mem => x.1 = .b true) 0 (fun b => b) (wi (n2 : Int) 50 = ((1 : Nat) : Int)) (by omega) (by kernel_rfl) ?_
  refine H.nd (Q := fun x : AV × Mem => x.1 = .b true) 0 (fun b => b) (wi (n2 : Int) 50 = ((2 : Nat) : Int)) (by omega) (by kernel_rfl) ?_
  refine H.nd (Q := fun x : AV × Mem => x.1 = .b true) 0 (fun b => b) (wi (n2 : Int) 50 = ((3 : Nat) : Int)) (by omega) (by kernel_rfl) ?_
  refine H.nd (Q := fun x : AV × Mem => x.1 = .b true) 0 (fun b => b) (wi (n2 : Int) 50 = ((4 : Nat) : Int)) (by omega) (by kernel_rfl) ?_
  refine H.nd (Q := fun x : AV × Mem => x.1 = .b true) 0 (fun b => b) (wi (n2 : Int) 50 = ((5 : Nat) : Int)) (by omega) (by kernel_rfl) ?_
  refine H.nd (Q := fun x : AV × Mem => x.1 = .b true) 0 (fun b => b) (wi (n2 : Int) 50 = ((6 : Nat) : Int)) (by omega) (by kernel_rfl) ?_
  refine H.nd (Q := fun x : AV × Mem => x.1 = .b true) 0 (fun b => b) (wi (n2 : Int) 50 = ((7 : Nat) : Int)) (by omega) (by kernel_rfl) ?_
  refine H.nd (Q := fun x : AV × Mem => x.1 = .b true) 0 (fun b => b) (wi (n2 : Int) 50 = ((8 : Nat) : Int)) (by omega) (by kernel_rfl) ?_
  refine H.nd (Q := fun x : AV × Mem => x.1 = .b true) 0 (fun b => b) (wi (n2 : Int) 50 = ((9 : Nat) : Int)) (by omega) (by kernel_rfl) ?_
  refine H.nd (Q := fun x : AV × Mem => x.1 = .b true) 0 (fun b => b) (wi (n2 : Int) 50 = ((10 : Nat) : Int)) (by omega) (by kernel_rfl) ?_
  refine H.nd (Q := fun x : AV × Mem => x.1 = .b true) 0 (fun b => b) (wi (n2 : Int) 50 = ((11 : Nat) : Int)) (by omega) (by kernel_rfl) ?_
  refine H.nd (Q := fun x : AV × Mem => x.1 = .b true) 0 (fun b => b) (wi (n2 : Int) 50 = ((12 : Nat) : Int)) (by omega) (by kernel_rfl) ?_
  refine H.nd (Q := fun x : AV × Mem => x.1 = .b true) 0 (fun b => b) (wi (n2 : Int) 50 = ((13 : Nat) : Int)) (by omega) (by kernel_rfl) ?_
  refine H.nd (Q := fun x : AV × Mem => x.1 = .b true) 0 (fun b => b) (wi (n2 : Int) 50 = ((14 : Nat) : Int)) (by omega) (by kernel_rfl) ?_
  refine H.nd (Q := fun x : AV × Mem => x.1 = .b true) 0 (fun b => b) (wi (n2 : Int) 50 = ((15 : Nat) : Int)) (by omega) (by kernel_rfl) ?_
  refine H.nd (Q := fun x : AV × Mem => x.1 = .b true) 0 (fun b => b) (wi (n2 : Int) 50 = ((16 : Nat) : Int)) (by omega) (by kernel_rfl) ?_
  refine H.nd (Q := fun x : AV × Mem => x.1 = .b true) 0 (fun b => b) (wi (n2 : Int) 50 = ((17 : Nat) : Int)) (by omega) (by kernel_rfl) ?_
  refine H.nd (Q := fun x : AV × Mem => x.1 = .b true) 0 (fun b => b) (wi (n2 : Int) 50 = ((18 : Nat) : Int)) (by omega) (by kernel_rfl) ?_
  refine H.nd (Q := fun x : AV × Mem => x.1 = .b true) 0 (fun b => b) (wi (n2 : Int) 50 = ((19 : Nat) : Int)) (by omega) (by kernel_rfl) ?_
  refine H.nd (Q := fun x : AV × Mem => x.1 = .b true) 0 (fun b => b) (wi (n2 : Int) 50 = ((20 : Nat) : Int)) (by omega) (by kernel_rfl) ?_
  refine H.nd (Q := fun x : AV × Mem => x.1 = .b true) 0 (fun b => b) (wi (n2 : Int) 50 = ((21 : Nat) : Int)) (by omega) (by kernel_rfl) ?_
  refine H.nd (Q := fun x : AV × Mem => x.1 = .b true) 0 (fun b => b) (wi (n2 : Int) 50 = ((22 : Nat) : Int)) (by omega) (by kernel_rfl) ?_
  refine H.nd (Q := fun x : AV × Mem => x.1 = .b true) 0 (fun b => b) (wi (n2 : Int) 50 = ((23 : Nat) : Int)) (by omega) (by kernel_rfl) ?_
  refine H.nd (Q := fun x : AV × Mem => x.1 = .b true) 0 (fun b => b) (wi (n2 : Int) 50 = ((24 : Nat) : Int)) (by omega) (by kernel_rfl) ?_
  refine H.nd (Q := fun x : AV × Mem => x.1 = .b true) 0 (fun b => b) (wi (n2 : Int) 50 = ((25 : Nat) : Int)) (by omega) (by kernel_rfl) ?_
  refine H.kd (Q := fun x : AV × Mem => x.1 = .b true) 0 (fun b => b) (wi (n2 : Int) 50 = ((26 : Nat) : Int)) hk (by kernel_rfl) ?_
  exact H.lf (Q := fun v : AV => v = .b true) (f := Prod.fst) 20000 (AV.b true) (by kernel_rfl) rfl
theorem gw27 (nl nl2 : Bool) (n n2 cap cap2 : Nat) (c1 c2 : List Col) (hk : wi (n2 : Int) 50 = ((27 : Nat) : Int)) : H (ev Sq 12 8 [.agg [.sl 0 0 n (some cap), .sl 1 0 n2 (some cap2)]] (memL 2 [.ro nl n c1, .ro nl2 n2 c2])) (fun x => x.1 = .b true) (fun _ _ => False) := by
  refine H.kd (Q := fun x : AV × Mem => x.1 = .b true) 3 (fun b => b) ((0 : Int) < 50 ∧ (50 : Int) < 9223372036854775808) (by omega) (by kernel_rfl) ?_
  refine H.nd (Q := fun x : AV × Mem => x.1 = .b true) 0 (fun b => b) (wi (n2 : Int) 50 = ((0 : Nat) : Int)) (by omega) (by kernel_rfl) ?_
  refine H.nd (Q := fun x : AV × Mem => x.1 = .b true) 0 (fun b => b) (wi (n2 : Int) 50 = ((1 : Nat) : Int)) (by omega) (by kernel_rfl) ?_
  refine H.nd (Q := fun x : AV × Mem => x.1 = .b true) 0 (fun b => b) (wi (n2 : Int) 50 = ((2 : Nat) : Int)) (by omega) (by kernel_rfl) ?_
  refine H.nd (Q := fun x : AV × Mem => x.1 = .b true) 0 (fun b => b) (wi (n2 : Int) 50 = ((3 : Nat) : Int)) (by omega) (by kernel_rfl) ?_
  refine H.nd (Q := fun x : AV × Mem => x.1 = .b true) 0 (fun b => b) (wi (n2 : Int) 50 = ((4 : Nat) : Int)) (by omega) (by kernel_rfl) ?_
  refine H.nd (Q := fun x : AV × Mem => x.1 = .b true) 0 (fun b => b) (wi (n2 : Int) 50 = ((5 : Nat) : Int)) (by omega) (by kernel_rfl) ?_
  refine H.nd (Q := fun x : AV × Mem => x.1 = .b true) 0 (fun b => b) (wi (n2 : Int) 50 = ((6 : Nat) : Int)) (by omega) (by kernel_rfl) ?_
  refine H.nd (Q := fun x : AV × Mem => x.1 = .b true) 0 (fun b => b) (wi (n2 : Int) 50 = ((7 : Nat) : Int)) (by omega) (by kernel_rfl) ?_
  refine H.nd (Q := fun x : AV × Mem => x.1 = .b true) 0 (fun b => b) (wi (n2 : Int) 50 = ((8 : Nat) : Int)) (by omega) (by kernel_rfl) ?_
  refine H.nd (Q := fun x : AV × Mem => x.1 = .b true) 0 (fun b => b) (wi (n2 : Int) 50 = ((9 : Nat) : Int)) (by omega) (by kernel_rfl) ?_
  refine H.nd (Q := fun x : AV × Mem => x.1 = .b true) 0 (fun b => b) (wi (n2 : Int) 50 = ((10 : Nat) : Int)) (by omega) (by kernel_rfl) ?_
  refine H.nd (Q := fun x : AV × Mem => x.1 = .b true) 0 (fun b => b) (wi (n2 : Int) 50 = ((11 : Nat) : Int)) (by omega) (by kernel_rfl) ?_
  refine H.nd (Q := fun x : AV × Mem => x.1 = .b true) 0 (fun b => b) (wi (n2 : Int) 50 = ((12 : Nat) : Int)) (by omega) (by kernel_rfl) ?_
  refine H.nd (Q := fun x : AV × Mem => x.1 = .b true) 0 (fun b => b) (wi (n2 : Int) 50 = ((13 : Nat) : Int)) (by omega) (by kernel_rfl) ?_
  refine H.nd (Q := fun x : AV × Mem => x.1 = .b true) 0 (fun b => b) (wi (n2 : Int) 50 = ((14 : Nat) : Int)) (by omega) (by kernel_rfl) ?_
  refine H.nd (Q := fun x : AV × Mem => x.1 = .b true) 0 (fun b => b) (wi (n2 : Int) 50 = ((15 : Nat) : Int)) (by omega) (by kernel_rfl) ?_
  refine H.nd (Q := fun x : AV × Mem => x.1 = .b true) 0 (fun b => b) (wi (n2 : Int) 50 = ((16 : Nat) : Int)) (by omega) (by kernel_rfl) ?_
  refine H.nd (Q := fun x : AV × Mem => x.1 = .b true) 0 (fun b => b) (wi (n2 : Int) 50 = ((17 : Nat) : Int)) (by omega) (by kernel_rfl) ?_
  refine H.nd (Q := fun x : AV × Mem => x.1 = .b true) 0 (fun b => b) (wi (n2 : Int) 50 = ((18 : Nat) : Int)) (by omega) (by kernel_rfl) ?_
  refine H.nd (Q := fun x : AV × Mem => x.1 = .b true) 0 (fun b => b) (wi (n2 : Int) 50 = ((19 : Nat) : Int)) (by omega) (by kernel_rfl) ?_
  refine H.nd (Q := fun x : AV × Mem => x.1 = .b true) 0 (fun b => b) (wi (n2 : Int) 50 = ((20 : Nat) : Int)) (by omega) (by kernel_rfl) ?_
  refine H.nd (Q := fun x : AV × Mem => x.1 = .b true) 0 (fun b => b) (wi (n2 : Int) 50 = ((21 : Nat) : Int)) (by omega) (by kernel_rfl) ?_
  refine H.nd (Q := fun x : AV × Mem => x.1 = .b true) 0 (fun b => b) (wi (n2 : Int) 50 = ((22 : Nat) : Int)) (by omega) (by kernel_rfl) ?_
  refine H.nd (Q := fun x : AV × Mem => x.1 = .b true) 0 (fun b => b) (wi (n2 : Int) 50 = ((23 : Nat) : Int)) (by omega) (by kernel_rfl) ?_
  refine H.nd (Q := fun x : AV × Mem => x.1 = .b true) 0 (fun b => b) (wi (n2 : Int) 50 = ((24 : Nat) : Int)) (by omega) (by kernel_rfl) ?_
  refine H.nd (Q := fun x : AV × Mem => x.1 = .b true) 0 (fun b => b) (wi (n2 : Int) 50 = ((25 : Nat) : Int)) (by omega) (by kernel_rfl) ?_
  refine H.nd (Q := fun x : AV × Mem => x.1 = .b true) 0 (fun b => b) (wi (n2 : Int) 50 = ((26 : Nat) : Int)) (by omega) (by kernel_rfl) ?_
  refine H.kd (Q := fun x : AV × Mem => x.1 = .b true) 0 (fun b => b) (wi (n2 : Int) 50 = ((27 : Nat) : Int)) hk (by kernel_rfl) ?_
  exact H.lf (Q := fun v : AV => v = .b true) (f := Prod.fst) 20000 (AV.b true) (by kernel_rfl) rfl
theorem gw28 (nl nl2 : Bool) (n n2 cap cap2 : Nat) (c1 c2 : List Col) (hk : wi (n2 : Int) 50 = ((28 : Nat) : Int)) : H (ev Sq 12 8 [.agg [.sl 0 0 n (some cap), .sl 1 0 n2 (some cap2)]] (memL 2 [.ro nl n c1, .ro nl2 n2 c2])) (fun x => x.1 = .b true) (fun _ _ => False) := by
  refine H.kd (Q := fun x : AV × Mem => x.1 = .b true) 3 (fun b => b) ((0 : Int) < 50 ∧ (50 : Int) < 9223372036854775808) (by omega) (by kernel_rfl) ?_
  refine H.nd (Q := fun x : AV × Mem => x.1 = .b true) 0 (fun b => b) (wi (n2 : Int) 50 = ((0 : Nat) : Int)) (by omega) (by kernel_rfl) ?_
  refine H.nd (Q := fun x : AV × Mem => x.1 = .b true) 0 (fun b => b) (wi (n2 : Int) 50 = ((1 : Nat) : Int)) (by omega) (by kernel_rfl) ?_
  refine H.nd (Q := fun x : AV × Mem => x.1 = .b true) 0 (fun b => b) (wi (n2 : Int) 50 = ((2 : Nat) : Int)) (by omega) (by kernel_rfl) ?_
  refine H.nd (Q := fun x : AV × Mem => x.1 = .b true) 0 (fun b => b) (wi (n2 : Int) 50 = ((3 : Nat) : Int)) (by omega) (by kernel_rfl) ?_
  refine H.nd (Q := fun x : AV × Mem => x.1 = .b true) 0 (fun b => b) (wi (n2 : Int) 50 = ((4 : Nat) : Int)) (by omega) (by kernel_rfl) ?_
  refine H.nd (Q := fun x : AV × Mem => x.1 = .b true) 0 (fun b => b) (wi (n2 : Int) 50 = ((5 : Nat) : Int)) (by omega) (by kernel_rfl) ?_
  refine H.nd (Q := fun x : AV × Mem => x.1 = .b true) 0 (fun b => b) (wi (n2 : Int) 50 = ((6 : Nat) : Int)) (by omega) (by kernel_rfl) ?_
  refine H.nd (Q := fun x : AV × Mem => x.1 = .b true) 0 (fun b => b) (wi (n2 : Int) 50 = ((7 : Nat) : Int)) (by omega) (by kernel_rfl) ?_
  refine H.nd (Q := fun x : AV × Mem => x.1 = .b true) 0 (fun b => b) (wi (n2 : Int) 50 = ((8 : Nat) : Int)) (by omega) (by kernel_rfl) ?_
  refine H.nd (Q := fun x : AV × Mem => x.1 = .b true) 0 (fun b => b) (wi (n2 : Int) 50 = ((9 : Nat) : Int)) (by omega) (by kernel_rfl) ?_
  refine H.nd (Q := fun x : AV × Mem => x.1 = .b true) 0 (fun b => b) (wi (n2 : Int) 50 = ((10 : Nat) : Int)) (by omega) (by kernel_rfl) ?_
  refine H.nd (Q := fun x : AV × Mem => x.1 = .b true) 0 (fun b => b) (wi (n2 : Int) 50 = ((11 : Nat) : Int)) (by omega) (by kernel_rfl) ?_
  refine H.nd (Q := fun x : AV × Mem => x.1 = .b true) 0 (fun b => b) (wi (n2 : Int) 50 = ((12 : Nat) : Int)) (by omega) (by kernel_rfl) ?_
  refine H.nd (Q := fun x : AV × Mem => x.1 = .b true) 0 (fun b => b) (wi (n2 : Int) 50 = ((13 : Nat) : Int)) (by omega) (by kernel_rfl) ?_
  refine H.nd (Q := fun x : AV × Mem => x.1 = .b true) 0 (fun b => b) (wi (n2 : Int) 50 = ((14 : Nat) : Int)) (by omega) (by kernel_rfl) ?_
  refine H.nd (Q := fun x : AV × Mem => x.1 = .b true) 0 (fun b => b) (wi (n2 : Int) 50 = ((15 : Nat) : Int)) (by omega) (by kernel_rfl) ?_
  refine H.nd (Q := fun x : AV × Mem => x.1 = .b true) 0 (fun b => b) (wi (n2 : Int) 50 = ((16 : Nat) : Int)) (by omega) (by kernel_rfl) ?_
  refine H.nd (Q := fun x : AV × Mem => x.1 = .b true) 0 (fun b => b) (wi (n2 : Int) 50 = ((17 : Nat) : Int)) (by omega) (by kernel_rfl) ?_
  refine H.nd (Q := fun x : AV × Mem => x.1 = .b true) 0 (fun b => b) (wi (n2 : Int) 50 = ((18 : Nat) : Int)) (by omega) (by kernel_rfl) ?_
  refine H.nd (Q := fun x : AV × Mem => x.1 = .b true) 0 (fun b => b) (wi (n2 : Int) 50 = ((19 : Nat) : Int)) (by omega) (by kernel_rfl) ?_
  refine H.nd (Q := fun x : AV × Mem => x.1 = .b true) 0 (fun b => b) (wi (n2 : Int) 50 = ((20 : Nat) : Int)) (by omega) (by kernel_rfl) ?_
  refine H.nd (Q := fun x : AV × Mem => x.1 = .b true) 0 (fun b => b) (wi (n2 : Int) 50 = ((21 : Nat) : Int)) (by omega) (by kernel_rfl) ?_
  refine H.nd (Q := fun x : AV × Mem => x.1 = .b true) 0 (fun b => b) (wi (n2 : Int) 50 = ((22 : Nat) : Int)) (by omega) (by kernel_rfl) ?_
  refine H.nd (Q := fun x : AV × Mem => x.1 = .b true) 0 (fun b => b) (wi (n2 : Int) 50 = ((23 : Nat) : Int)) (by omega) (by kernel_rfl) ?_
  refine H.nd (Q := fun x : AV × Mem => x.1 = .b true) 0 (fun b => b) (wi (n2 : Int) 50 = ((24 : Nat) : Int)) (by omega) (by kernel_rfl) ?_
  refine H.nd (Q := fun x : AV × Mem => x.1 = .b true) 0 (fun b => b) (wi (n2 : Int) 50 = ((25 : Nat) : Int)) (by omega) (by kernel_rfl) ?_
  refine H.nd (Q := fun x : AV × Mem => x.1 = .b true) 0 (fun b => b) (wi (n2 : Int) 50 = ((26 : Nat) : Int)) (by omega) (by kernel_rfl) ?_
  refine H.nd (Q := fun x : AV × Mem => x.1 = .b true) 0 (fun b => b) (wi (n2 : Int) 50 = ((27 : Nat) : Int)) (by omega) (by kernel_rfl) ?_
  refine H.kd (Q := fun x : AV × Mem => x.1 = .b true) 0 (fun b => b) (wi (n2 : Int) 50 = ((28 : Nat) : Int)) hk (by kernel_rfl) ?_
  exact H.lf (Q := fun v : AV => v = .b true) (f := Prod.fst) 20000 (AV.b true) (by kernel_rfl) rfl
theorem gw29 (nl nl2 : Bool) (n n2 cap cap2 : Nat) (c1 c2 : List Col) (hk : wi (n2 : Int) 50 = ((29 : Nat) : Int)) : H (ev Sq 12 8 [.agg [.sl 0 0 n (some cap), .sl 1 0 n2 (some cap2)]] (memL 2 [.ro nl n c1, .ro nl2 n2 c2])) (fun x => x.1 = .b true) (fun _ _ => False) := by
  refine H.kd (Q := fun x : AV × Mem => x.1 = .b true) 3 (fun b => b) ((0 : Int) < 50 ∧ (50 : Int) < 9223372036854775808) (by omega) (by kernel_rfl) ?_
  refine H.nd (Q := fun x : AV × Mem => x.1 = .b true) 0 (fun b => b) (wi (n2 : Int) 50 = ((0 : Nat) : Int)) (by omega) (by kernel_rfl) ?_
  refine H.nd (Q := fun x : AV × Mem => x.1 = .b true) 0 (fun b => b) (wi (n2 : Int) 50 = ((1 : Nat) : Int)) (by omega) (by kernel_rfl) ?_
  refine H.nd (Q := fun x : AV × Mem => x.1 = .b true) 0 (fun b => b) (wi (n2 : Int) 50 = ((2 : Nat) : Int)) (by omega) (by kernel_rfl) ?_
  refine H.nd (Q := fun x : AV × Mem => x.1 = .b true) 0 (fun b => b) (wi (n2 : Int) 50 = ((3 : Nat) : Int)) (by omega) (by kernel_rfl) ?_
  refine H.nd (Q := fun x : AV × Mem => x.1 = .b true) 0 (fun b => b) (wi (n2 : Int) 50 = ((4 : Nat) : Int)) (by omega) (by kernel_rfl) ?_
  refine H.nd (Q := fun x : AV × Mem => x.1 = .b true) 0 (fun b => b) (wi (n2 : Int) 50 = ((5 : Nat) : Int)) (by omega) (by kernel_rfl) ?_
  refine H.nd (Q := fun x : AV × Mem => x.1 = .b true) 0 (fun b => b) (wi (n2 : Int) 50 = ((6 : Nat) : Int)) (by omega) (by kernel_rfl) ?_
  refine H.nd (Q := fun x : AV × Mem => x.1 = .b true) 0 (fun b => b) (wi (n2 : Int) 50 = ((7 : Nat) : Int)) (by omega) (by kernel_rfl) ?_
  refine H.nd (Q := fun x : AV × Mem => x.1 = .b true) 0 (fun b => b) (wi (n2 : Int) 50 = ((8 : Nat) : Int)) (by omega) (by kernel_rfl) ?_
  refine H.nd (Q := fun x : AV × Mem => x.1 = .b true) 0 (fun b => b) (wi (n2 : Int) 50 = ((9 : Nat) : Int)) (by omega) (by kernel_rfl) ?_
  refine H.nd (Q := fun x : AV × Mem => x.1 = .b true) 0 (fun b => b) (wi (n2 : Int) 50 = ((10 : Nat) : Int)) (by omega) (by kernel_rfl) ?_
  refine H.nd (Q := fun x : AV × Mem => x.1 = .b true) 0 (fun b => b) (wi (n2 : Int) 50 = ((11 : Nat) : Int)) (by omega) (by kernel_rfl) ?_
  refine H.nd (Q := fun x : AV × Mem => x.1 = .b true) 0 (fun b => b) (wi (n2 : Int) 50 = ((12 : Nat) : Int)) (by omega) (by kernel_rfl) ?_
  refine H.nd (Q := fun x : AV × Mem => x.1 = .b true) 0 (fun b => b) (wi (n2 : Int) 50 = ((13 : Nat) : Int)) (by omega) (by kernel_rfl) ?_
  refine H.nd (Q := fun x : AV × Mem => x.1 = .b true) 0 (fun b => b) (wi (n2 : Int) 50 = ((14 : Nat) : Int)) (by omega) (by kernel_rfl) ?_
  refine H.nd (Q := fun x : AV × Mem => x.1 = .b true) 0 (fun b => b) (wi (n2 : Int) 50 = ((15 : Nat) : Int)) (by omega) (by kernel_rfl) ?_
  refine H.nd (Q := fun x : AV × Mem => x.1 = .b true) 0 (fun b => b) (wi (n2 : Int) 50 = ((16 : Nat) : Int)) (by omega) (by kernel_rfl) ?_
  refine H.nd (Q := fun x : AV × Mem => x.1 = .b true) 0 (fun b => b) (wi (n2 : Int) 50 = ((17 : Nat) : Int)) (by omega) (by kernel_rfl) ?_
  refine H.nd (Q := fun x : AV × Mem => x.1 = .b true) 0 (fun b => b) (wi (n2 : Int) 50 = ((18 : Nat) : Int)) (by omega) (by kernel_rfl) ?_
  refine H.nd (Q := fun x : AV × Mem => x.1 = .b true) 0 (fun b => b) (wi (n2 : Int) 50 = ((19 : Nat) : Int)) (by omega) (by kernel_rfl) ?_
  refine H.nd (Q := fun x : AV × Mem => x.1 = .b true) 0 (fun b => b) (wi (n2 : Int) 50 = ((20 : Nat) : Int)) (by omega) (by kernel_rfl) ?_
  refine H.nd (Q := fun x : AV × Mem => x.1 = .b true) 0 (fun b => b) (wi (n2 : Int) 50 = ((21 : Nat) : Int)) (by omega) (by kernel_rfl) ?_
  refine H.nd (Q := fun x : AV × Mem => x.1 = .b true) 0 (fun b => b) (wi (n2 : Int) 50 = ((22 : Nat) : Int)) (by omega) (by kernel_rfl) ?_
  refine H.nd (Q := fun x : AV × Mem => x.1 = .b true) 0 (fun b => b) (wi (n2 : Int) 50 = ((23 : Nat) : Int)) (by omega) (by kernel_rfl) ?_
  refine H.nd (Q := fun x : AV × Mem => x.1 = .b true) 0 (fun b => b) (wi (n2 : Int) 50 = ((24 : Nat) : Int)) (by omega) (by kernel_rfl) ?_
  refine H.nd (Q := fun x : AV × Mem => x.1 = .b true) 0 (fun b => b) (wi (n2 : Int) 50 = ((25 : Nat) : Int)) (by omega) (by kernel_rfl) ?_
  refine H.nd (Q := fun x : AV × Mem => x.1 = .b true) 0 (fun b => b) (wi (n2 : Int) 50 = ((26 : Nat) : Int)) (by omega) (by kernel_rfl) ?_
  refine H.nd (Q := fun x : AV × Mem => x.1 = .b true) 0 (fun b => b) (wi (n2 : Int) 50 = ((27 : Nat) : Int)) (by omega) (by kernel_rfl) ?_
  refine H.nd (Q := fun x : AV × Mem => x.1 = .b true) 0 (fun b => b) (wi (n2 : Int) 50 = ((28 : Nat) : Int)) (by omega) (by kernel_rfl) ?_
  refine H.kd (Q := fun x : AV × Mem => x.1 = .b true) 0 (fun b => b) (wi (n2 : Int) 50 = ((29 : Nat) : Int)) hk (by kernel_rfl) ?_
  exact H.lf (Q := fun v : AV => v = .b true) (f := Prod.fst) 20000 (AV.b true) (by kernel_rfl) rfl
end Go.Proofs.TabC
