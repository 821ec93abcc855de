/- Lemmas about the evaluator of the code. -/
import Derived.Test.YtiokhipgpfeoeaaSetH
set_option linter.all false
set_option linter.deprecated false
set_option maxRecDepth 1000000
set_option maxHeartbeats 4000000
namespace Go.Proofs.TabH
open Go Go.Eng

noncomputable def gp26 : List AV → T AV
  | [.v (.float .f64 n)] => .ret (.i .u64 ((n : Int)))
  | _ => .fail

theorem gp26_eq : gp26 = g26 := by
  funext l; unfold gp26 g26; simp only [uI_eq]; rfl
noncomputable def gp67 : List AV → T AV
  | [.v (.float .f64 x)] => .br (decide (x < 18446744073709551616)) (.ret (.i .u64 (bitsV x))) .fail
  | _ => .fail

theorem gp67_eq : gp67 = g67 := by
  funext l; unfold gp67 g67; (try simp only [bitsO_eq, cmpO_eq, clampO_eq, healthO_eq, brkO_eq, weightO_eq, noteO_eq, noteC_eq, goodO_eq]); rfl
noncomputable def gp64 : List AV → T AV
  | [.v (.float .f64 x)] => .br (decide (x < 18446744073709551616)) (.ret (.i .u64 (bitsV x))) .fail
  | _ => .fail

theorem gp64_eq : gp64 = g64 := by
  funext l; unfold gp64 g64; (try simp only [bitsO_eq, cmpO_eq, clampO_eq, healthO_eq, brkO_eq, weightO_eq, noteO_eq, noteC_eq, goodO_eq]); rfl
noncomputable def gp65 : List AV → T AV
  | [.v (.float .f64 x), .v (.float .f64 y)] => .br (decide (x < 18446744073709551616)) (.br (decide (y < 18446744073709551616)) (.ret (iv (cmpV x y))) .fail) .fail
  | _ => .fail

theorem gp65_eq : gp65 = g65 := by
  funext l; unfold gp65 g65; (try simp only [bitsO_eq, cmpO_eq, clampO_eq, healthO_eq, brkO_eq, weightO_eq, noteO_eq, noteC_eq, goodO_eq]); rfl
noncomputable def gp49 : List AV → T AV
  | [.v (.float .f64 x), .v (.float .f64 y)] => .br (decide (x < 18446744073709551616)) (.br (decide (y < 18446744073709551616)) (.ret (iv (cmpV x y))) .fail) .fail
  | _ => .fail

theorem gp49_eq : gp49 = g49 := by
  funext l; unfold gp49 g49; (try simp only [bitsO_eq, cmpO_eq, clampO_eq, healthO_eq, brkO_eq, weightO_eq, noteO_eq, noteC_eq, goodO_eq]); rfl
noncomputable def gp61 : List AV → T AV
  | [.v (.float .f64 x), .v (.float .f64 y)] => .br (decide (x < 18446744073709551616)) (.br (decide (y < 18446744073709551616)) (.ret (.b (cmpV x y == 0))) .fail) .fail
  | _ => .fail

theorem gp61_eq : gp61 = g61 := by
  funext l; unfold gp61 g61; (try simp only [bitsO_eq, cmpO_eq, clampO_eq, healthO_eq, brkO_eq, weightO_eq, noteO_eq, noteC_eq, goodO_eq]); rfl
noncomputable def gp62 : List AV → T AV
  | [.v (.float .f64 x), .v (.float .f64 a), .v (.float .f64 b)] => .br (decide (x < 18446744073709551616)) (.br (decide (a < 18446744073709551616)) (.br (decide (b < 18446744073709551616)) (.ret (fv (clampV x a b))) .fail) .fail) .fail
  | _ => .fail

theorem gp62_eq : gp62 = g62 := by
  funext l; unfold gp62 g62; (try simp only [bitsO_eq, cmpO_eq, clampO_eq, healthO_eq, brkO_eq, weightO_eq, noteO_eq, noteC_eq, goodO_eq]); rfl
noncomputable def gp50 : List AV → T AV
  | [.v (.float .f64 x), .v (.float .f64 a), .v (.float .f64 b)] => .br (decide (x < 18446744073709551616)) (.br (decide (a < 18446744073709551616)) (.br (decide (b < 18446744073709551616)) (.ret (fv (clampV x a b))) .fail) .fail) .fail
  | _ => .fail

theorem gp50_eq : gp50 = g50 := by
  funext l; unfold gp50 g50; (try simp only [bitsO_eq, cmpO_eq, clampO_eq, healthO_eq, brkO_eq, weightO_eq, noteO_eq, noteC_eq, goodO_eq]); rfl
noncomputable def gp63 : List AV → T AV
  | [.v (.float .f64 x)] => .br (decide (x < 18446744073709551616)) (.ret (fv (clampV x 0 f1W))) .fail
  | _ => .fail

theorem gp63_eq : gp63 = g63 := by
  funext l; unfold gp63 g63; (try simp only [bitsO_eq, cmpO_eq, clampO_eq, healthO_eq, brkO_eq, weightO_eq, noteO_eq, noteC_eq, goodO_eq]); rfl
noncomputable def gp51 : List AV → T AV
  | [.v (.float .f64 x), .v (.float .f64 y)] => .br (decide (x = y)) (.ret (.b true)) .fail
  | _ => .fail

theorem gp51_eq : gp51 = g51 := by
  funext l; unfold gp51 g51; (try simp only [bitsO_eq, cmpO_eq, clampO_eq, healthO_eq, brkO_eq, weightO_eq, noteO_eq, noteC_eq, goodO_eq]); rfl
noncomputable def gp46 : List AV → T AV
  | [.agg [.v (.float .f64 s), .i .i64 c]] => .br (decide (s < 18446744073709551616)) (.ret (.b (healthV s c))) .fail
  | _ => .fail

theorem gp46_eq : gp46 = g46 := by
  funext l; unfold gp46 g46; (try simp only [bitsO_eq, cmpO_eq, clampO_eq, healthO_eq, brkO_eq, weightO_eq, noteO_eq, noteC_eq, goodO_eq]); rfl
noncomputable def gp20 : List AV → T AV
  | [.agg [.v (.float .f64 s), .i .i64 c]] => .br (decide (s < 18446744073709551616)) (.ret (.b (healthV s c))) .fail
  | _ => .fail

theorem gp20_eq : gp20 = g20 := by
  funext l; unfold gp20 g20; (try simp only [bitsO_eq, cmpO_eq, clampO_eq, healthO_eq, brkO_eq, weightO_eq, noteO_eq, noteC_eq, goodO_eq]); rfl
noncomputable def gp47 : List AV → T AV
  | [.agg [.v (.float .f64 s), .i .i64 c], .v (.float .f64 x), .v (.float .f64 w)] => .br (decide (s < 18446744073709551616)) (.br (decide (x < 18446744073709551616)) (.br (decide (w < 18446744073709551616)) (.br (healthV s c) (.br (weightV w) (.ret (.agg [fv (noteV s c x w), iv (noteN c x)])) .fail) .fail) .fail) .fail) .fail
  | _ => .fail

theorem gp47_eq : gp47 = g47 := by
  funext l; unfold gp47 g47; (try simp only [bitsO_eq, cmpO_eq, clampO_eq, healthO_eq, brkO_eq, weightO_eq, noteO_eq, noteC_eq, goodO_eq]); rfl
noncomputable def gp23 : List AV → T AV
  | [.agg [.v (.float .f64 s), .i .i64 c], .v (.float .f64 x), .v (.float .f64 w)] => .br (decide (s < 18446744073709551616)) (.br (decide (x < 18446744073709551616)) (.br (decide (w < 18446744073709551616)) (.br (healthV s c) (.br (weightV w) (.ret (.agg [fv (noteV s c x w), iv (noteN c x)])) .fail) .fail) .fail) .fail) .fail
  | _ => .fail

theorem gp23_eq : gp23 = g23 := by
  funext l; unfold gp23 g23; (try simp only [bitsO_eq, cmpO_eq, clampO_eq, healthO_eq, brkO_eq, weightO_eq, noteO_eq, noteC_eq, goodO_eq]); rfl
noncomputable def gp52 : List AV → T AV
  | [.agg [.v (.float .f64 s), .i .i64 c], .v (.float .f64 f)] => .ret (.b (decide (c = 0) || !(fo s f == some .lt)))
  | _ => .fail

theorem gp52_eq : gp52 = g52 := by
  funext l; unfold gp52 g52; (try simp only [bitsO_eq, cmpO_eq, clampO_eq, healthO_eq, brkO_eq, weightO_eq, noteO_eq, noteC_eq, goodO_eq]); rfl
noncomputable def gp31 : List AV → T AV
  | [.agg [.v (.float .f64 s), .i .i64 c], .v (.float .f64 f)] => .ret (.b (decide (c = 0) || !(fo s f == some .lt)))
  | _ => .fail

theorem gp31_eq : gp31 = g31 := by
  funext l; unfold gp31 g31; (try simp only [bitsO_eq, cmpO_eq, clampO_eq, healthO_eq, brkO_eq, weightO_eq, noteO_eq, noteC_eq, goodO_eq]); rfl
noncomputable def gp53 : List AV → T AV
  | [.agg [.i .i64 st, .i .i64 q, .i .i64 u, .v (.float .f64 s), .i .i64 c]] => .br (decide (s < 18446744073709551616)) (.ret (.b (brkV st q u s c))) .fail
  | _ => .fail

theorem gp53_eq : gp53 = g53 := by
  funext l; unfold gp53 g53; (try simp only [bitsO_eq, cmpO_eq, clampO_eq, healthO_eq, brkO_eq, weightO_eq, noteO_eq, noteC_eq, goodO_eq]); rfl
noncomputable def gp42 : List AV → T AV
  | [.agg [.i .i64 st, .i .i64 q, .i .i64 u, .v (.float .f64 s), .i .i64 c]] => .br (decide (s < 18446744073709551616)) (.ret (.b (brkV st q u s c))) .fail
  | _ => .fail

theorem gp42_eq : gp42 = g42 := by
  funext l; unfold gp42 g42; (try simp only [bitsO_eq, cmpO_eq, clampO_eq, healthO_eq, brkO_eq, weightO_eq, noteO_eq, noteC_eq, goodO_eq]); rfl
noncomputable def S8p : Sp := fun n => bif2 (Nat.beq n 53) (some (treeS gp53)) (bif2 (Nat.beq n 42) (some (treeS gp42)) (bif2 (Nat.beq n 47) (some (treeS gp47)) (bif2 (Nat.beq n 23) (some (treeS gp23)) (bif2 (Nat.beq n 52) (some (treeS gp52)) (bif2 (Nat.beq n 31) (some (treeS gp31)) (bif2 (Nat.beq n 46) (some (treeS gp46)) (bif2 (Nat.beq n 20) (some (treeS gp20)) (bif2 (Nat.beq n 51) (some (treeS gp51)) (bif2 (Nat.beq n 63) (some (treeS gp63)) (bif2 (Nat.beq n 62) (some (treeS gp62)) (bif2 (Nat.beq n 50) (some (treeS gp50)) (bif2 (Nat.beq n 61) (some (treeS gp61)) (bif2 (Nat.beq n 65) (some (treeS gp65)) (bif2 (Nat.beq n 49) (some (treeS gp49)) (bif2 (Nat.beq n 67) (some (treeS gp67)) (bif2 (Nat.beq n 64) (some (treeS gp64)) (bif2 (Nat.beq n 16) (some (treeS g16)) (bif2 (Nat.beq n 26) (some (treeS gp26)) (none)))))))))))))))))))
theorem S8p_eq : S8p = S8 := by
  unfold S8p S8 S6 S5 S4 S3 S2 S1 Sx
  rw [gp53_eq, gp42_eq, gp47_eq, gp23_eq, gp52_eq, gp31_eq, gp46_eq, gp20_eq, gp51_eq, gp63_eq, gp62_eq, gp50_eq, gp61_eq, gp65_eq, gp49_eq, gp67_eq, gp64_eq, gp26_eq]
theorem s8p (N : Nat) : SOk Try.prog N S8p := S8p_eq ▸ s8 N
end Go.Proofs.TabH
