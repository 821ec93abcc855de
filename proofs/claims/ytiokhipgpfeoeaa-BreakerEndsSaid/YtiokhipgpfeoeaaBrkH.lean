/- Lemmas about the evaluator of the code. -/
import Derived.Test.YtiokhipgpfeoeaaWinH
import Derived.Test.YtiokhipgpfeoeaaEngPk
set_option linter.all false
set_option linter.deprecated false
set_option maxRecDepth 1000000
set_option maxHeartbeats 4000000
namespace Go.Proofs.TabH
open Go Go.Eng
/-! ## A step of a breaker, the program's and the page's -/
abbrev BR := Int × Int × Int × Nat × Int
abbrev agB (r : BR) : AV := .agg [iv r.1, iv r.2.1, iv r.2.2.1, fv r.2.2.2.1, iv r.2.2.2.2]
theorem nl_of {s x : Nat} {c st q u : Int} (hs : s < 18446744073709551616) (hx : x < 18446744073709551616) (h : brkO st q u s c = true) : noteO s c x 4598175219545276416 < 18446744073709551616 := noteO_lt hs hx (brk_of.1 h).2 weight4
def ExR (v : AV) : Prop := ∃ r : BR, v = .tup [agB r, .b true] ∧ r.2.2.2.1 < 18446744073709551616
theorem step43 (st q u : Int) (s : Nat) (c : Int) (d now fails pause : Int) (ok : Bool) (fl : Int) (hs : s < 18446744073709551616) :
    ∃ r : BR, r.2.2.2.1 < 18446744073709551616 ∧ H (ev S9 5 43 [.agg [iv st, iv q, iv u, fv s, iv c], .agg [iv d, iv now, iv fails, iv pause, .b ok, .i .u64 fl]] mem0) (fun y => y.1 = .tup [agB r, .b true]) (fun _ _ => False) := by
  refine H.pick (f := Prod.fst) (B := fun r : BR => AV.tup [agB r, .b true]) (P := fun r => r.2.2.2.1 < 18446744073709551616) ?_
  have key : ∀ (a b c' : Int) (x : Nat) (e : Int) {v : AV}, v = .tup [agB (a, b, c', x, e), .b true] → x < 18446744073709551616 → ExR v := fun a b c' x e v h1 h2 => ⟨(a, b, c', x, e), h1, h2⟩
  have nl : ∀ (x : Nat), brkO st q u s c = true → (x < 18446744073709551616) → noteO s c x 4598175219545276416 < 18446744073709551616 := fun x h hx => nl_of hs hx h
  show H (ev S9 5 43 [.agg [iv st, iv q, iv u, fv s, iv c], .agg [iv d, iv now, iv fails, iv pause, .b ok, .i .u64 fl]] mem0) (fun y => ExR (Prod.fst y)) (fun _ _ => False)
  refine H.kd 4 (fun b => b) (s < 18446744073709551616) (by (first | assumption | omega | exact weight4 | exact (brk_of.1 (by assumption)).2)) (by kernel_rfl) ?_
  refine H.sb 0 (fun b => (b == true)) (brkO st q u s c) (by kernel_rfl) (fun h1 => ?_) (fun h1 => ?_)
  ·
   refine H.sd 5 (fun b => (b == true)) (now ≥ 0) (by kernel_rfl) (fun h2 => ?_) (fun h2 => ?_)
   ·
    refine H.se 44 (fun b => b) (wi d 6) (0) (by kernel_rfl) (fun h3 => ?_) (fun h3 => ?_)
    ·
     refine H.sd 0 (fun b => b) (now ≤ 1099511627776) (by kernel_rfl) (fun h4 => ?_) (fun h4 => ?_)
     ·
      refine H.se 5 (fun b => (b == false)) (st) (0) (by kernel_rfl) (fun h5 => ?_) (fun h5 => ?_)
      ·
       refine H.kd 13 (fun b => b) (s < 18446744073709551616) (by (first | assumption | omega | exact weight4 | exact (brk_of.1 (by assumption)).2)) (by kernel_rfl) ?_
       refine H.kb 0 (fun b => ((!b) == false)) (b := (brkO st q u s c)) (d := true) (by (first | assumption | omega | exact weight4 | exact (brk_of.1 (by assumption)).2)) (by kernel_rfl) ?_
       refine H.kd 3 (fun b => (b == true)) (now ≥ 0) (by (first | assumption | omega | exact weight4 | exact (brk_of.1 (by assumption)).2)) (by kernel_rfl) ?_
       refine H.kd 6 (fun b => (!b)) (now ≤ 1099511627776) (by (first | assumption | omega | exact weight4 | exact (brk_of.1 (by assumption)).2)) (by kernel_rfl) ?_
       refine H.ke 4 (fun b => (b == false)) (st) (0) (by (first | assumption | omega | exact weight4 | exact (brk_of.1 (by assumption)).2)) (by kernel_rfl) ?_
       refine H.lf (f := Prod.fst) 42 (AV.tup [AV.agg [AV.i IntKind.i64 st, AV.i IntKind.i64 q, AV.i IntKind.i64 u, AV.v (Value.float FloatKind.f64 s), AV.i IntKind.i64 c], AV.b true]) (by kernel_rfl) ?_
       first | exact key _ _ _ _ _ rfl hs | exact key _ _ _ _ _ rfl (nl _ (by assumption) (by decide)) | exact key _ _ _ _ _ rfl (by decide) | exact key st q u s c (by rw [beq_self_eq_true]) hs
      ·
       refine H.se 5 (fun b => (b == true)) (st) (1) (by kernel_rfl) (fun h6 => ?_) (fun h6 => ?_)
       ·
        refine H.kd 12 (fun b => b) (s < 18446744073709551616) (by (first | assumption | omega | exact weight4 | exact (brk_of.1 (by assumption)).2)) (by kernel_rfl) ?_
        refine H.kb 0 (fun b => ((!b) == false)) (b := (brkO st q u s c)) (d := true) (by (first | assumption | omega | exact weight4 | exact (brk_of.1 (by assumption)).2)) (by kernel_rfl) ?_
        refine H.kd 3 (fun b => (b == true)) (now ≥ 0) (by (first | assumption | omega | exact weight4 | exact (brk_of.1 (by assumption)).2)) (by kernel_rfl) ?_
        refine H.kd 6 (fun b => (!b)) (now ≤ 1099511627776) (by (first | assumption | omega | exact weight4 | exact (brk_of.1 (by assumption)).2)) (by kernel_rfl) ?_
        refine H.ne 4 (fun b => (b == false)) (st) (0) (by (first | assumption | omega | exact weight4 | exact (brk_of.1 (by assumption)).2)) (by kernel_rfl) ?_
        refine H.ke 5 (fun b => (b == true)) (st) (1) (by (first | assumption | omega | exact weight4 | exact (brk_of.1 (by assumption)).2)) (by kernel_rfl) ?_
        refine H.lf (f := Prod.fst) 41 (AV.tup [AV.agg [AV.i IntKind.i64 st, AV.i IntKind.i64 q, AV.i IntKind.i64 u, AV.v (Value.float FloatKind.f64 s), AV.i IntKind.i64 c], AV.b (decide (now ≥ u) == decide (now ≥ u))]) (by kernel_rfl) ?_
        first | exact key _ _ _ _ _ rfl hs | exact key _ _ _ _ _ rfl (nl _ (by assumption) (by decide)) | exact key _ _ _ _ _ rfl (by decide) | exact key st q u s c (by rw [beq_self_eq_true]) hs
       ·
        refine H.kd 10 (fun b => b) (s < 18446744073709551616) (by (first | assumption | omega | exact weight4 | exact (brk_of.1 (by assumption)).2)) (by kernel_rfl) ?_
        refine H.kb 0 (fun b => ((!b) == false)) (b := (brkO st q u s c)) (d := true) (by (first | assumption | omega | exact weight4 | exact (brk_of.1 (by assumption)).2)) (by kernel_rfl) ?_
        refine H.kd 3 (fun b => (b == true)) (now ≥ 0) (by (first | assumption | omega | exact weight4 | exact (brk_of.1 (by assumption)).2)) (by kernel_rfl) ?_
        refine H.kd 6 (fun b => (!b)) (now ≤ 1099511627776) (by (first | assumption | omega | exact weight4 | exact (brk_of.1 (by assumption)).2)) (by kernel_rfl) ?_
        refine H.ne 4 (fun b => (b == false)) (st) (0) (by (first | assumption | omega | exact weight4 | exact (brk_of.1 (by assumption)).2)) (by kernel_rfl) ?_
        refine H.ne 5 (fun b => (b == true)) (st) (1) (by (first | assumption | omega | exact weight4 | exact (brk_of.1 (by assumption)).2)) (by kernel_rfl) ?_
        refine H.lf (f := Prod.fst) 39 (AV.tup [AV.agg [AV.i IntKind.i64 st, AV.i IntKind.i64 q, AV.i IntKind.i64 u, AV.v (Value.float FloatKind.f64 s), AV.i IntKind.i64 c], AV.b true]) (by kernel_rfl) ?_
        first | exact key _ _ _ _ _ rfl hs | exact key _ _ _ _ _ rfl (nl _ (by assumption) (by decide)) | exact key _ _ _ _ _ rfl (by decide) | exact key st q u s c (by rw [beq_self_eq_true]) hs
     ·
      refine H.kd 3 (fun b => b) (s < 18446744073709551616) (by (first | assumption | omega | exact weight4 | exact (brk_of.1 (by assumption)).2)) (by kernel_rfl) ?_
      refine H.kb 0 (fun b => ((!b) == false)) (b := (brkO st q u s c)) (d := true) (by (first | assumption | omega | exact weight4 | exact (brk_of.1 (by assumption)).2)) (by kernel_rfl) ?_
      refine H.kd 3 (fun b => (b == true)) (now ≥ 0) (by (first | assumption | omega | exact weight4 | exact (brk_of.1 (by assumption)).2)) (by kernel_rfl) ?_
      refine H.nd 6 (fun b => (!b)) (now ≤ 1099511627776) (by (first | assumption | omega | exact weight4 | exact (brk_of.1 (by assumption)).2)) (by kernel_rfl) ?_
      refine H.lf (f := Prod.fst) 32 (AV.tup [AV.agg [AV.i IntKind.i64 st, AV.i IntKind.i64 q, AV.i IntKind.i64 u, AV.v (Value.float FloatKind.f64 s), AV.i IntKind.i64 c], AV.b true]) (by kernel_rfl) ?_
      first | exact key _ _ _ _ _ rfl hs | exact key _ _ _ _ _ rfl (nl _ (by assumption) (by decide)) | exact key _ _ _ _ _ rfl (by decide) | exact key st q u s c (by rw [beq_self_eq_true]) hs
    ·
     refine H.se 1 (fun b => b) (wi d 6) (1) (by kernel_rfl) (fun h4 => ?_) (fun h4 => ?_)
     ·
      refine H.sd 19 (fun b => b) (now ≤ 1099511627776) (by kernel_rfl) (fun h5 => ?_) (fun h5 => ?_)
      ·
       refine H.se 5 (fun b => (b == false)) (st) (0) (by kernel_rfl) (fun h6 => ?_) (fun h6 => ?_)
       ·
        refine H.ne 16 (fun b => b) (st) (1) (by (first | assumption | omega | exact weight4 | exact (brk_of.1 (by assumption)).2)) (by kernel_rfl) ?_
        refine H.kd 29 (fun b => b) (s < 18446744073709551616) (by (first | assumption | omega | exact weight4 | exact (brk_of.1 (by assumption)).2)) (by kernel_rfl) ?_
        refine H.kb 0 (fun b => ((!b) == false)) (b := (brkO st q u s c)) (d := true) (by (first | assumption | omega | exact weight4 | exact (brk_of.1 (by assumption)).2)) (by kernel_rfl) ?_
        refine H.kd 3 (fun b => (b == true)) (now ≥ 0) (by (first | assumption | omega | exact weight4 | exact (brk_of.1 (by assumption)).2)) (by kernel_rfl) ?_
        refine H.kd 6 (fun b => (!b)) (now ≤ 1099511627776) (by (first | assumption | omega | exact weight4 | exact (brk_of.1 (by assumption)).2)) (by kernel_rfl) ?_
        refine H.ke 4 (fun b => (b == false)) (st) (0) (by (first | assumption | omega | exact weight4 | exact (brk_of.1 (by assumption)).2)) (by kernel_rfl) ?_
        refine H.ne 16 (fun b => b) (st) (1) (by (first | assumption | omega | exact weight4 | exact (brk_of.1 (by assumption)).2)) (by kernel_rfl) ?_
        refine H.ke 51 (fun b => (b == true)) (st) (st) (by (first | assumption | omega | exact weight4 | exact (brk_of.1 (by assumption)).2)) (by kernel_rfl) ?_
        refine H.ke 8 (fun b => (b == true)) (q) (q) (by (first | assumption | omega | exact weight4 | exact (brk_of.1 (by assumption)).2)) (by kernel_rfl) ?_
        refine H.ke 8 (fun b => (b == true)) (u) (u) (by (first | assumption | omega | exact weight4 | exact (brk_of.1 (by assumption)).2)) (by kernel_rfl) ?_
        refine H.ke 12 (fun b => (b == true)) (c) (c) (by (first | assumption | omega | exact weight4 | exact (brk_of.1 (by assumption)).2)) (by kernel_rfl) ?_
        refine H.kd 6 (fun b => b) (s = s) (by (first | assumption | omega | exact weight4 | exact (brk_of.1 (by assumption)).2)) (by kernel_rfl) ?_
        refine H.lf (f := Prod.fst) 24 (AV.tup [AV.agg [AV.i IntKind.i64 st, AV.i IntKind.i64 q, AV.i IntKind.i64 u, AV.v (Value.float FloatKind.f64 s), AV.i IntKind.i64 c], AV.b true]) (by kernel_rfl) ?_
        first | exact key _ _ _ _ _ rfl hs | exact key _ _ _ _ _ rfl (nl _ (by assumption) (by decide)) | exact key _ _ _ _ _ rfl (by decide) | exact key st q u s c (by rw [beq_self_eq_true]) hs
       ·
        refine H.se 5 (fun b => (b == true)) (st) (1) (by kernel_rfl) (fun h7 => ?_) (fun h7 => ?_)
        ·
         refine H.sd 9 (fun b => b) (now ≥ u) (by kernel_rfl) (fun h8 => ?_) (fun h8 => ?_)
         ·
          refine H.ke 5 (fun b => b) (st) (1) (by (first | assumption | omega | exact weight4 | exact (brk_of.1 (by assumption)).2)) (by kernel_rfl) ?_
          refine H.kd 37 (fun b => b) (s < 18446744073709551616) (by (first | assumption | omega | exact weight4 | exact (brk_of.1 (by assumption)).2)) (by kernel_rfl) ?_
          refine H.kb 0 (fun b => ((!b) == false)) (b := (brkO st q u s c)) (d := true) (by (first | assumption | omega | exact weight4 | exact (brk_of.1 (by assumption)).2)) (by kernel_rfl) ?_
          refine H.kd 3 (fun b => (b == true)) (now ≥ 0) (by (first | assumption | omega | exact weight4 | exact (brk_of.1 (by assumption)).2)) (by kernel_rfl) ?_
          refine H.kd 6 (fun b => (!b)) (now ≤ 1099511627776) (by (first | assumption | omega | exact weight4 | exact (brk_of.1 (by assumption)).2)) (by kernel_rfl) ?_
          refine H.ne 4 (fun b => (b == false)) (st) (0) (by (first | assumption | omega | exact weight4 | exact (brk_of.1 (by assumption)).2)) (by kernel_rfl) ?_
          refine H.ke 5 (fun b => (b == true)) (st) (1) (by (first | assumption | omega | exact weight4 | exact (brk_of.1 (by assumption)).2)) (by kernel_rfl) ?_
          refine H.kd 12 (fun b => (!b)) (now ≥ u) (by (first | assumption | omega | exact weight4 | exact (brk_of.1 (by assumption)).2)) (by kernel_rfl) ?_
          refine H.ke 2 (fun b => b) (st) (1) (by (first | assumption | omega | exact weight4 | exact (brk_of.1 (by assumption)).2)) (by kernel_rfl) ?_
          refine H.ke 68 (fun b => (b == true)) (q) (q) (by (first | assumption | omega | exact weight4 | exact (brk_of.1 (by assumption)).2)) (by kernel_rfl) ?_
          refine H.ke 21 (fun b => (b == true)) (c) (c) (by (first | assumption | omega | exact weight4 | exact (brk_of.1 (by assumption)).2)) (by kernel_rfl) ?_
          refine H.kd 6 (fun b => b) (s = s) (by (first | assumption | omega | exact weight4 | exact (brk_of.1 (by assumption)).2)) (by kernel_rfl) ?_
          refine H.lf (f := Prod.fst) 24 (AV.tup [AV.agg [AV.i IntKind.i64 2, AV.i IntKind.i64 q, AV.i IntKind.i64 0, AV.v (Value.float FloatKind.f64 s), AV.i IntKind.i64 c], AV.b true]) (by kernel_rfl) ?_
          first | exact key _ _ _ _ _ rfl hs | exact key _ _ _ _ _ rfl (nl _ (by assumption) (by decide)) | exact key _ _ _ _ _ rfl (by decide) | exact key st q u s c (by rw [beq_self_eq_true]) hs
         ·
          refine H.kd 6 (fun b => b) (s < 18446744073709551616) (by (first | assumption | omega | exact weight4 | exact (brk_of.1 (by assumption)).2)) (by kernel_rfl) ?_
          refine H.kb 0 (fun b => ((!b) == false)) (b := (brkO st q u s c)) (d := true) (by (first | assumption | omega | exact weight4 | exact (brk_of.1 (by assumption)).2)) (by kernel_rfl) ?_
          refine H.kd 3 (fun b => (b == true)) (now ≥ 0) (by (first | assumption | omega | exact weight4 | exact (brk_of.1 (by assumption)).2)) (by kernel_rfl) ?_
          refine H.kd 6 (fun b => (!b)) (now ≤ 1099511627776) (by (first | assumption | omega | exact weight4 | exact (brk_of.1 (by assumption)).2)) (by kernel_rfl) ?_
          refine H.ne 4 (fun b => (b == false)) (st) (0) (by (first | assumption | omega | exact weight4 | exact (brk_of.1 (by assumption)).2)) (by kernel_rfl) ?_
          refine H.ke 5 (fun b => (b == true)) (st) (1) (by (first | assumption | omega | exact weight4 | exact (brk_of.1 (by assumption)).2)) (by kernel_rfl) ?_
          refine H.nd 12 (fun b => (!b)) (now ≥ u) (by (first | assumption | omega | exact weight4 | exact (brk_of.1 (by assumption)).2)) (by kernel_rfl) ?_
          refine H.lf (f := Prod.fst) 65 (AV.tup [AV.agg [AV.i IntKind.i64 st, AV.i IntKind.i64 q, AV.i IntKind.i64 u, AV.v (Value.float FloatKind.f64 s), AV.i IntKind.i64 c], AV.b true]) (by kernel_rfl) ?_
          first | exact key _ _ _ _ _ rfl hs | exact key _ _ _ _ _ rfl (nl _ (by assumption) (by decide)) | exact key _ _ _ _ _ rfl (by decide) | exact key st q u s c (by rw [beq_self_eq_true]) hs
        ·
         refine H.kd 14 (fun b => b) (s < 18446744073709551616) (by (first | assumption | omega | exact weight4 | exact (brk_of.1 (by assumption)).2)) (by kernel_rfl) ?_
         refine H.kb 0 (fun b => ((!b) == false)) (b := (brkO st q u s c)) (d := true) (by (first | assumption | omega | exact weight4 | exact (brk_of.1 (by assumption)).2)) (by kernel_rfl) ?_
         refine H.kd 3 (fun b => (b == true)) (now ≥ 0) (by (first | assumption | omega | exact weight4 | exact (brk_of.1 (by assumption)).2)) (by kernel_rfl) ?_
         refine H.kd 6 (fun b => (!b)) (now ≤ 1099511627776) (by (first | assumption | omega | exact weight4 | exact (brk_of.1 (by assumption)).2)) (by kernel_rfl) ?_
         refine H.ne 4 (fun b => (b == false)) (st) (0) (by (first | assumption | omega | exact weight4 | exact (brk_of.1 (by assumption)).2)) (by kernel_rfl) ?_
         refine H.ne 5 (fun b => (b == true)) (st) (1) (by (first | assumption | omega | exact weight4 | exact (brk_of.1 (by assumption)).2)) (by kernel_rfl) ?_
         refine H.lf (f := Prod.fst) 76 (AV.tup [AV.agg [AV.i IntKind.i64 st, AV.i IntKind.i64 q, AV.i IntKind.i64 u, AV.v (Value.float FloatKind.f64 s), AV.i IntKind.i64 c], AV.b true]) (by kernel_rfl) ?_
         first | exact key _ _ _ _ _ rfl hs | exact key _ _ _ _ _ rfl (nl _ (by assumption) (by decide)) | exact key _ _ _ _ _ rfl (by decide) | exact key st q u s c (by rw [beq_self_eq_true]) hs
      ·
       refine H.kd 6 (fun b => b) (s < 18446744073709551616) (by (first | assumption | omega | exact weight4 | exact (brk_of.1 (by assumption)).2)) (by kernel_rfl) ?_
       refine H.kb 0 (fun b => ((!b) == false)) (b := (brkO st q u s c)) (d := true) (by (first | assumption | omega | exact weight4 | exact (brk_of.1 (by assumption)).2)) (by kernel_rfl) ?_
       refine H.kd 3 (fun b => (b == true)) (now ≥ 0) (by (first | assumption | omega | exact weight4 | exact (brk_of.1 (by assumption)).2)) (by kernel_rfl) ?_
       refine H.nd 6 (fun b => (!b)) (now ≤ 1099511627776) (by (first | assumption | omega | exact weight4 | exact (brk_of.1 (by assumption)).2)) (by kernel_rfl) ?_
       refine H.lf (f := Prod.fst) 68 (AV.tup [AV.agg [AV.i IntKind.i64 st, AV.i IntKind.i64 q, AV.i IntKind.i64 u, AV.v (Value.float FloatKind.f64 s), AV.i IntKind.i64 c], AV.b true]) (by kernel_rfl) ?_
       first | exact key _ _ _ _ _ rfl hs | exact key _ _ _ _ _ rfl (nl _ (by assumption) (by decide)) | exact key _ _ _ _ _ rfl (by decide) | exact key st q u s c (by rw [beq_self_eq_true]) hs
     ·
      refine H.se 1 (fun b => b) (wi d 6) (2) (by kernel_rfl) (fun h5 => ?_) (fun h5 => ?_)
      ·
       refine H.sd 18 (fun b => b) (now ≤ 1099511627776) (by kernel_rfl) (fun h6 => ?_) (fun h6 => ?_)
       ·
        refine H.se 5 (fun b => (b == false)) (st) (0) (by kernel_rfl) (fun h7 => ?_) (fun h7 => ?_)
        ·
         refine H.ne 16 (fun b => b) (st) (1) (by (first | assumption | omega | exact weight4 | exact (brk_of.1 (by assumption)).2)) (by kernel_rfl) ?_
         refine H.kd 29 (fun b => b) (s < 18446744073709551616) (by (first | assumption | omega | exact weight4 | exact (brk_of.1 (by assumption)).2)) (by kernel_rfl) ?_
         refine H.kb 0 (fun b => ((!b) == false)) (b := (brkO st q u s c)) (d := true) (by (first | assumption | omega | exact weight4 | exact (brk_of.1 (by assumption)).2)) (by kernel_rfl) ?_
         refine H.kd 3 (fun b => (b == true)) (now ≥ 0) (by (first | assumption | omega | exact weight4 | exact (brk_of.1 (by assumption)).2)) (by kernel_rfl) ?_
         refine H.kd 6 (fun b => (!b)) (now ≤ 1099511627776) (by (first | assumption | omega | exact weight4 | exact (brk_of.1 (by assumption)).2)) (by kernel_rfl) ?_
         refine H.ke 4 (fun b => (b == false)) (st) (0) (by (first | assumption | omega | exact weight4 | exact (brk_of.1 (by assumption)).2)) (by kernel_rfl) ?_
         refine H.ne 16 (fun b => b) (st) (1) (by (first | assumption | omega | exact weight4 | exact (brk_of.1 (by assumption)).2)) (by kernel_rfl) ?_
         refine H.ke 51 (fun b => (b == true)) (st) (st) (by (first | assumption | omega | exact weight4 | exact (brk_of.1 (by assumption)).2)) (by kernel_rfl) ?_
         refine H.ke 8 (fun b => (b == true)) (q) (q) (by (first | assumption | omega | exact weight4 | exact (brk_of.1 (by assumption)).2)) (by kernel_rfl) ?_
         refine H.ke 8 (fun b => (b == true)) (u) (u) (by (first | assumption | omega | exact weight4 | exact (brk_of.1 (by assumption)).2)) (by kernel_rfl) ?_
         refine H.ke 12 (fun b => (b == true)) (c) (c) (by (first | assumption | omega | exact weight4 | exact (brk_of.1 (by assumption)).2)) (by kernel_rfl) ?_
         refine H.kd 6 (fun b => b) (s = s) (by (first | assumption | omega | exact weight4 | exact (brk_of.1 (by assumption)).2)) (by kernel_rfl) ?_
         refine H.lf (f := Prod.fst) 24 (AV.tup [AV.agg [AV.i IntKind.i64 st, AV.i IntKind.i64 q, AV.i IntKind.i64 u, AV.v (Value.float FloatKind.f64 s), AV.i IntKind.i64 c], AV.b true]) (by kernel_rfl) ?_
         first | exact key _ _ _ _ _ rfl hs | exact key _ _ _ _ _ rfl (nl _ (by assumption) (by decide)) | exact key _ _ _ _ _ rfl (by decide) | exact key st q u s c (by rw [beq_self_eq_true]) hs
        ·
         refine H.se 5 (fun b => (b == true)) (st) (1) (by kernel_rfl) (fun h8 => ?_) (fun h8 => ?_)
         ·
          refine H.sd 9 (fun b => b) (now ≥ u) (by kernel_rfl) (fun h9 => ?_) (fun h9 => ?_)
          ·
           refine H.ke 5 (fun b => b) (st) (1) (by (first | assumption | omega | exact weight4 | exact (brk_of.1 (by assumption)).2)) (by kernel_rfl) ?_
           refine H.kd 37 (fun b => b) (s < 18446744073709551616) (by (first | assumption | omega | exact weight4 | exact (brk_of.1 (by assumption)).2)) (by kernel_rfl) ?_
           refine H.kb 0 (fun b => ((!b) == false)) (b := (brkO st q u s c)) (d := true) (by (first | assumption | omega | exact weight4 | exact (brk_of.1 (by assumption)).2)) (by kernel_rfl) ?_
           refine H.kd 3 (fun b => (b == true)) (now ≥ 0) (by (first | assumption | omega | exact weight4 | exact (brk_of.1 (by assumption)).2)) (by kernel_rfl) ?_
           refine H.kd 6 (fun b => (!b)) (now ≤ 1099511627776) (by (first | assumption | omega | exact weight4 | exact (brk_of.1 (by assumption)).2)) (by kernel_rfl) ?_
           refine H.ne 4 (fun b => (b == false)) (st) (0) (by (first | assumption | omega | exact weight4 | exact (brk_of.1 (by assumption)).2)) (by kernel_rfl) ?_
           refine H.ke 5 (fun b => (b == true)) (st) (1) (by (first | assumption | omega | exact weight4 | exact (brk_of.1 (by assumption)).2)) (by kernel_rfl) ?_
           refine H.kd 12 (fun b => (!b)) (now ≥ u) (by (first | assumption | omega | exact weight4 | exact (brk_of.1 (by assumption)).2)) (by kernel_rfl) ?_
           refine H.ke 2 (fun b => b) (st) (1) (by (first | assumption | omega | exact weight4 | exact (brk_of.1 (by assumption)).2)) (by kernel_rfl) ?_
           refine H.ke 68 (fun b => (b == true)) (q) (q) (by (first | assumption | omega | exact weight4 | exact (brk_of.1 (by assumption)).2)) (by kernel_rfl) ?_
           refine H.ke 21 (fun b => (b == true)) (c) (c) (by (first | assumption | omega | exact weight4 | exact (brk_of.1 (by assumption)).2)) (by kernel_rfl) ?_
           refine H.kd 6 (fun b => b) (s = s) (by (first | assumption | omega | exact weight4 | exact (brk_of.1 (by assumption)).2)) (by kernel_rfl) ?_
           refine H.lf (f := Prod.fst) 24 (AV.tup [AV.agg [AV.i IntKind.i64 2, AV.i IntKind.i64 q, AV.i IntKind.i64 0, AV.v (Value.float FloatKind.f64 s), AV.i IntKind.i64 c], AV.b true]) (by kernel_rfl) ?_
           first | exact key _ _ _ _ _ rfl hs | exact key _ _ _ _ _ rfl (nl _ (by assumption) (by decide)) | exact key _ _ _ _ _ rfl (by decide) | exact key st q u s c (by rw [beq_self_eq_true]) hs
          ·
           refine H.kd 6 (fun b => b) (s < 18446744073709551616) (by (first | assumption | omega | exact weight4 | exact (brk_of.1 (by assumption)).2)) (by kernel_rfl) ?_
           refine H.kb 0 (fun b => ((!b) == false)) (b := (brkO st q u s c)) (d := true) (by (first | assumption | omega | exact weight4 | exact (brk_of.1 (by assumption)).2)) (by kernel_rfl) ?_
           refine H.kd 3 (fun b => (b == true)) (now ≥ 0) (by (first | assumption | omega | exact weight4 | exact (brk_of.1 (by assumption)).2)) (by kernel_rfl) ?_
           refine H.kd 6 (fun b => (!b)) (now ≤ 1099511627776) (by (first | assumption | omega | exact weight4 | exact (brk_of.1 (by assumption)).2)) (by kernel_rfl) ?_
           refine H.ne 4 (fun b => (b == false)) (st) (0) (by (first | assumption | omega | exact weight4 | exact (brk_of.1 (by assumption)).2)) (by kernel_rfl) ?_
           refine H.ke 5 (fun b => (b == true)) (st) (1) (by (first | assumption | omega | exact weight4 | exact (brk_of.1 (by assumption)).2)) (by kernel_rfl) ?_
           refine H.nd 12 (fun b => (!b)) (now ≥ u) (by (first | assumption | omega | exact weight4 | exact (brk_of.1 (by assumption)).2)) (by kernel_rfl) ?_
           refine H.lf (f := Prod.fst) 65 (AV.tup [AV.agg [AV.i IntKind.i64 st, AV.i IntKind.i64 q, AV.i IntKind.i64 u, AV.v (Value.float FloatKind.f64 s), AV.i IntKind.i64 c], AV.b true]) (by kernel_rfl) ?_
           first | exact key _ _ _ _ _ rfl hs | exact key _ _ _ _ _ rfl (nl _ (by assumption) (by decide)) | exact key _ _ _ _ _ rfl (by decide) | exact key st q u s c (by rw [beq_self_eq_true]) hs
         ·
          refine H.kd 14 (fun b => b) (s < 18446744073709551616) (by (first | assumption | omega | exact weight4 | exact (brk_of.1 (by assumption)).2)) (by kernel_rfl) ?_
          refine H.kb 0 (fun b => ((!b) == false)) (b := (brkO st q u s c)) (d := true) (by (first | assumption | omega | exact weight4 | exact (brk_of.1 (by assumption)).2)) (by kernel_rfl) ?_
          refine H.kd 3 (fun b => (b == true)) (now ≥ 0) (by (first | assumption | omega | exact weight4 | exact (brk_of.1 (by assumption)).2)) (by kernel_rfl) ?_
          refine H.kd 6 (fun b => (!b)) (now ≤ 1099511627776) (by (first | assumption | omega | exact weight4 | exact (brk_of.1 (by assumption)).2)) (by kernel_rfl) ?_
          refine H.ne 4 (fun b => (b == false)) (st) (0) (by (first | assumption | omega | exact weight4 | exact (brk_of.1 (by assumption)).2)) (by kernel_rfl) ?_
          refine H.ne 5 (fun b => (b == true)) (st) (1) (by (first | assumption | omega | exact weight4 | exact (brk_of.1 (by assumption)).2)) (by kernel_rfl) ?_
          refine H.lf (f := Prod.fst) 76 (AV.tup [AV.agg [AV.i IntKind.i64 st, AV.i IntKind.i64 q, AV.i IntKind.i64 u, AV.v (Value.float FloatKind.f64 s), AV.i IntKind.i64 c], AV.b true]) (by kernel_rfl) ?_
          first | exact key _ _ _ _ _ rfl hs | exact key _ _ _ _ _ rfl (nl _ (by assumption) (by decide)) | exact key _ _ _ _ _ rfl (by decide) | exact key st q u s c (by rw [beq_self_eq_true]) hs
       ·
        refine H.kd 6 (fun b => b) (s < 18446744073709551616) (by (first | assumption | omega | exact weight4 | exact (brk_of.1 (by assumption)).2)) (by kernel_rfl) ?_
        refine H.kb 0 (fun b => ((!b) == false)) (b := (brkO st q u s c)) (d := true) (by (first | assumption | omega | exact weight4 | exact (brk_of.1 (by assumption)).2)) (by kernel_rfl) ?_
        refine H.kd 3 (fun b => (b == true)) (now ≥ 0) (by (first | assumption | omega | exact weight4 | exact (brk_of.1 (by assumption)).2)) (by kernel_rfl) ?_
        refine H.nd 6 (fun b => (!b)) (now ≤ 1099511627776) (by (first | assumption | omega | exact weight4 | exact (brk_of.1 (by assumption)).2)) (by kernel_rfl) ?_
        refine H.lf (f := Prod.fst) 68 (AV.tup [AV.agg [AV.i IntKind.i64 st, AV.i IntKind.i64 q, AV.i IntKind.i64 u, AV.v (Value.float FloatKind.f64 s), AV.i IntKind.i64 c], AV.b true]) (by kernel_rfl) ?_
        first | exact key _ _ _ _ _ rfl hs | exact key _ _ _ _ _ rfl (nl _ (by assumption) (by decide)) | exact key _ _ _ _ _ rfl (by decide) | exact key st q u s c (by rw [beq_self_eq_true]) hs
      ·
       refine H.kd 22 (fun b => b) (s < 18446744073709551616) (by (first | assumption | omega | exact weight4 | exact (brk_of.1 (by assumption)).2)) (by kernel_rfl) ?_
       refine H.kb 0 (fun b => (b == true)) (b := (brkO st q u s c)) (d := true) (by (first | assumption | omega | exact weight4 | exact (brk_of.1 (by assumption)).2)) (by kernel_rfl) ?_
       refine H.kd 3 (fun b => (b == true)) (now ≥ 0) (by (first | assumption | omega | exact weight4 | exact (brk_of.1 (by assumption)).2)) (by kernel_rfl) ?_
       refine H.sd 5 (fun b => (b == true)) (now ≤ 1099511627776) (by kernel_rfl) (fun h6 => ?_) (fun h6 => ?_)
       ·
        refine H.sd 5 (fun b => (b == true)) (fails ≥ 1) (by kernel_rfl) (fun h7 => ?_) (fun h7 => ?_)
        ·
         refine H.sd 5 (fun b => (b == true)) (fails ≤ 1048576) (by kernel_rfl) (fun h8 => ?_) (fun h8 => ?_)
         ·
          refine H.sd 5 (fun b => (b == true)) (pause ≥ 0) (by kernel_rfl) (fun h9 => ?_) (fun h9 => ?_)
          ·
           refine H.sd 6 (fun b => b) (pause ≤ 1099511627776) (by kernel_rfl) (fun h10 => ?_) (fun h10 => ?_)
           ·
            refine H.sb 6 (fun b => b) (ok) (by kernel_rfl) (fun h11 => ?_) (fun h11 => ?_)
            ·
             refine H.kd 1 (fun b => b) (s < 18446744073709551616) (by (first | assumption | omega | exact weight4 | exact (brk_of.1 (by assumption)).2)) (by kernel_rfl) ?_
             refine H.kb 2 (fun b => b) (b := (healthO s c)) (d := true) (by (first | assumption | omega | exact weight4 | exact (brk_of.1 (by assumption)).2)) (by kernel_rfl) ?_
             refine H.kb 0 (fun b => b) (b := (weightO 4598175219545276416)) (d := true) (by (first | assumption | omega | exact weight4 | exact (brk_of.1 (by assumption)).2)) (by kernel_rfl) ?_
             refine H.kb 6 (fun b => b) (b := (ok)) (d := true) (by (first | assumption | omega | exact weight4 | exact (brk_of.1 (by assumption)).2)) (by kernel_rfl) ?_
             refine H.se 6 (fun b => b) (st) (1) (by kernel_rfl) (fun h12 => ?_) (fun h12 => ?_)
             ·
              refine H.kd 29 (fun b => b) (s < 18446744073709551616) (by (first | assumption | omega | exact weight4 | exact (brk_of.1 (by assumption)).2)) (by kernel_rfl) ?_
              refine H.kb 0 (fun b => ((!b) == false)) (b := (brkO st q u s c)) (d := true) (by (first | assumption | omega | exact weight4 | exact (brk_of.1 (by assumption)).2)) (by kernel_rfl) ?_
              refine H.kd 3 (fun b => (b == true)) (now ≥ 0) (by (first | assumption | omega | exact weight4 | exact (brk_of.1 (by assumption)).2)) (by kernel_rfl) ?_
              refine H.kd 6 (fun b => ((!b) == false)) (now ≤ 1099511627776) (by (first | assumption | omega | exact weight4 | exact (brk_of.1 (by assumption)).2)) (by kernel_rfl) ?_
              refine H.kd 5 (fun b => (b == true)) (fails ≥ 1) (by (first | assumption | omega | exact weight4 | exact (brk_of.1 (by assumption)).2)) (by kernel_rfl) ?_
              refine H.kd 6 (fun b => ((!b) == false)) (fails ≤ 1048576) (by (first | assumption | omega | exact weight4 | exact (brk_of.1 (by assumption)).2)) (by kernel_rfl) ?_
              refine H.kd 5 (fun b => (b == true)) (pause ≥ 0) (by (first | assumption | omega | exact weight4 | exact (brk_of.1 (by assumption)).2)) (by kernel_rfl) ?_
              refine H.kd 6 (fun b => (!b)) (pause ≤ 1099511627776) (by (first | assumption | omega | exact weight4 | exact (brk_of.1 (by assumption)).2)) (by kernel_rfl) ?_
              refine H.kb 4 (fun b => b) (b := (ok)) (d := true) (by (first | assumption | omega | exact weight4 | exact (brk_of.1 (by assumption)).2)) (by kernel_rfl) ?_
              refine H.kd 1 (fun b => b) (s < 18446744073709551616) (by (first | assumption | omega | exact weight4 | exact (brk_of.1 (by assumption)).2)) (by kernel_rfl) ?_
              refine H.kb 2 (fun b => b) (b := (healthO s c)) (d := true) (by (first | assumption | omega | exact weight4 | exact (brk_of.1 (by assumption)).2)) (by kernel_rfl) ?_
              refine H.kb 0 (fun b => b) (b := (weightO 4598175219545276416)) (d := true) (by (first | assumption | omega | exact weight4 | exact (brk_of.1 (by assumption)).2)) (by kernel_rfl) ?_
              refine H.kb 12 (fun b => b) (b := (ok)) (d := true) (by (first | assumption | omega | exact weight4 | exact (brk_of.1 (by assumption)).2)) (by kernel_rfl) ?_
              refine H.ke 6 (fun b => b) (st) (1) (by (first | assumption | omega | exact weight4 | exact (brk_of.1 (by assumption)).2)) (by kernel_rfl) ?_
              refine H.ke 63 (fun b => (b == true)) (st) (st) (by (first | assumption | omega | exact weight4 | exact (brk_of.1 (by assumption)).2)) (by kernel_rfl) ?_
              refine H.ke 17 (fun b => (b == true)) (u) (u) (by (first | assumption | omega | exact weight4 | exact (brk_of.1 (by assumption)).2)) (by kernel_rfl) ?_
              refine H.ke 12 (fun b => (b == true)) (noteC c 4607182418800017408) (noteC c 4607182418800017408) (by (first | assumption | omega | exact weight4 | exact (brk_of.1 (by assumption)).2)) (by kernel_rfl) ?_
              refine H.kd 6 (fun b => b) (noteO s c 4607182418800017408 4598175219545276416 = noteO s c 4607182418800017408 4598175219545276416) (by (first | assumption | omega | exact weight4 | exact (brk_of.1 (by assumption)).2)) (by kernel_rfl) ?_
              refine H.lf (f := Prod.fst) 24 (AV.tup [AV.agg [AV.i IntKind.i64 st, AV.i IntKind.i64 0, AV.i IntKind.i64 u, AV.v (Value.float FloatKind.f64 (noteO s c 4607182418800017408 4598175219545276416)), AV.i IntKind.i64 (noteC c 4607182418800017408)], AV.b true]) (by kernel_rfl) ?_
              first | exact key _ _ _ _ _ rfl hs | exact key _ _ _ _ _ rfl (nl _ (by assumption) (by decide)) | exact key _ _ _ _ _ rfl (by decide) | exact key st q u s c (by rw [beq_self_eq_true]) hs
             ·
              refine H.kb 0 (fun b => (b == true)) (b := (ok)) (d := true) (by (first | assumption | omega | exact weight4 | exact (brk_of.1 (by assumption)).2)) (by kernel_rfl) ?_
              refine H.se 5 (fun b => b) (st) (2) (by kernel_rfl) (fun h13 => ?_) (fun h13 => ?_)
              ·
               refine H.kd 39 (fun b => b) (s < 18446744073709551616) (by (first | assumption | omega | exact weight4 | exact (brk_of.1 (by assumption)).2)) (by kernel_rfl) ?_
               refine H.kb 0 (fun b => ((!b) == false)) (b := (brkO st q u s c)) (d := true) (by (first | assumption | omega | exact weight4 | exact (brk_of.1 (by assumption)).2)) (by kernel_rfl) ?_
               refine H.kd 3 (fun b => (b == true)) (now ≥ 0) (by (first | assumption | omega | exact weight4 | exact (brk_of.1 (by assumption)).2)) (by kernel_rfl) ?_
               refine H.kd 6 (fun b => ((!b) == false)) (now ≤ 1099511627776) (by (first | assumption | omega | exact weight4 | exact (brk_of.1 (by assumption)).2)) (by kernel_rfl) ?_
               refine H.kd 5 (fun b => (b == true)) (fails ≥ 1) (by (first | assumption | omega | exact weight4 | exact (brk_of.1 (by assumption)).2)) (by kernel_rfl) ?_
               refine H.kd 6 (fun b => ((!b) == false)) (fails ≤ 1048576) (by (first | assumption | omega | exact weight4 | exact (brk_of.1 (by assumption)).2)) (by kernel_rfl) ?_
               refine H.kd 5 (fun b => (b == true)) (pause ≥ 0) (by (first | assumption | omega | exact weight4 | exact (brk_of.1 (by assumption)).2)) (by kernel_rfl) ?_
               refine H.kd 6 (fun b => (!b)) (pause ≤ 1099511627776) (by (first | assumption | omega | exact weight4 | exact (brk_of.1 (by assumption)).2)) (by kernel_rfl) ?_
               refine H.kb 4 (fun b => b) (b := (ok)) (d := true) (by (first | assumption | omega | exact weight4 | exact (brk_of.1 (by assumption)).2)) (by kernel_rfl) ?_
               refine H.kd 1 (fun b => b) (s < 18446744073709551616) (by (first | assumption | omega | exact weight4 | exact (brk_of.1 (by assumption)).2)) (by kernel_rfl) ?_
               refine H.kb 2 (fun b => b) (b := (healthO s c)) (d := true) (by (first | assumption | omega | exact weight4 | exact (brk_of.1 (by assumption)).2)) (by kernel_rfl) ?_
               refine H.kb 0 (fun b => b) (b := (weightO 4598175219545276416)) (d := true) (by (first | assumption | omega | exact weight4 | exact (brk_of.1 (by assumption)).2)) (by kernel_rfl) ?_
               refine H.kb 12 (fun b => b) (b := (ok)) (d := true) (by (first | assumption | omega | exact weight4 | exact (brk_of.1 (by assumption)).2)) (by kernel_rfl) ?_
               refine H.ne 6 (fun b => b) (st) (1) (by (first | assumption | omega | exact weight4 | exact (brk_of.1 (by assumption)).2)) (by kernel_rfl) ?_
               refine H.kb 0 (fun b => (b == true)) (b := (ok)) (d := true) (by (first | assumption | omega | exact weight4 | exact (brk_of.1 (by assumption)).2)) (by kernel_rfl) ?_
               refine H.ke 5 (fun b => b) (st) (2) (by (first | assumption | omega | exact weight4 | exact (brk_of.1 (by assumption)).2)) (by kernel_rfl) ?_
               refine H.ke 91 (fun b => (b == true)) (u) (u) (by (first | assumption | omega | exact weight4 | exact (brk_of.1 (by assumption)).2)) (by kernel_rfl) ?_
               refine H.lf (f := Prod.fst) 44 (AV.tup [AV.agg [AV.i IntKind.i64 0, AV.i IntKind.i64 0, AV.i IntKind.i64 u, AV.v (Value.float FloatKind.f64 9221120237041090561), AV.i IntKind.i64 0], AV.b true]) (by kernel_rfl) ?_
               first | exact key _ _ _ _ _ rfl hs | exact key _ _ _ _ _ rfl (nl _ (by assumption) (by decide)) | exact key _ _ _ _ _ rfl (by decide) | exact key st q u s c (by rw [beq_self_eq_true]) hs
              ·
               refine H.ne 2 (fun b => (b == false)) (st) (2) (by (first | assumption | omega | exact weight4 | exact (brk_of.1 (by assumption)).2)) (by kernel_rfl) ?_
               refine H.nd 8 (fun b => (b == false)) (0 ≥ fails) (by (first | assumption | omega | exact weight4 | exact (brk_of.1 (by assumption)).2)) (by kernel_rfl) ?_
               refine H.sb 8 (fun b => (!b)) (goodO (noteO s c 4607182418800017408 4598175219545276416) (noteC c 4607182418800017408) (Int.toNat fl)) (by kernel_rfl) (fun h14 => ?_) (fun h14 => ?_)
               ·
                refine H.kd 29 (fun b => b) (s < 18446744073709551616) (by (first | assumption | omega | exact weight4 | exact (brk_of.1 (by assumption)).2)) (by kernel_rfl) ?_
                refine H.kb 0 (fun b => ((!b) == false)) (b := (brkO st q u s c)) (d := true) (by (first | assumption | omega | exact weight4 | exact (brk_of.1 (by assumption)).2)) (by kernel_rfl) ?_
                refine H.kd 3 (fun b => (b == true)) (now ≥ 0) (by (first | assumption | omega | exact weight4 | exact (brk_of.1 (by assumption)).2)) (by kernel_rfl) ?_
                refine H.kd 6 (fun b => ((!b) == false)) (now ≤ 1099511627776) (by (first | assumption | omega | exact weight4 | exact (brk_of.1 (by assumption)).2)) (by kernel_rfl) ?_
                refine H.kd 5 (fun b => (b == true)) (fails ≥ 1) (by (first | assumption | omega | exact weight4 | exact (brk_of.1 (by assumption)).2)) (by kernel_rfl) ?_
                refine H.kd 6 (fun b => ((!b) == false)) (fails ≤ 1048576) (by (first | assumption | omega | exact weight4 | exact (brk_of.1 (by assumption)).2)) (by kernel_rfl) ?_
                refine H.kd 5 (fun b => (b == true)) (pause ≥ 0) (by (first | assumption | omega | exact weight4 | exact (brk_of.1 (by assumption)).2)) (by kernel_rfl) ?_
                refine H.kd 6 (fun b => (!b)) (pause ≤ 1099511627776) (by (first | assumption | omega | exact weight4 | exact (brk_of.1 (by assumption)).2)) (by kernel_rfl) ?_
                refine H.kb 4 (fun b => b) (b := (ok)) (d := true) (by (first | assumption | omega | exact weight4 | exact (brk_of.1 (by assumption)).2)) (by kernel_rfl) ?_
                refine H.kd 1 (fun b => b) (s < 18446744073709551616) (by (first | assumption | omega | exact weight4 | exact (brk_of.1 (by assumption)).2)) (by kernel_rfl) ?_
                refine H.kb 2 (fun b => b) (b := (healthO s c)) (d := true) (by (first | assumption | omega | exact weight4 | exact (brk_of.1 (by assumption)).2)) (by kernel_rfl) ?_
                refine H.kb 0 (fun b => b) (b := (weightO 4598175219545276416)) (d := true) (by (first | assumption | omega | exact weight4 | exact (brk_of.1 (by assumption)).2)) (by kernel_rfl) ?_
                refine H.kb 12 (fun b => b) (b := (ok)) (d := true) (by (first | assumption | omega | exact weight4 | exact (brk_of.1 (by assumption)).2)) (by kernel_rfl) ?_
                refine H.ne 6 (fun b => b) (st) (1) (by (first | assumption | omega | exact weight4 | exact (brk_of.1 (by assumption)).2)) (by kernel_rfl) ?_
                refine H.kb 0 (fun b => (b == true)) (b := (ok)) (d := true) (by (first | assumption | omega | exact weight4 | exact (brk_of.1 (by assumption)).2)) (by kernel_rfl) ?_
                refine H.ne 5 (fun b => b) (st) (2) (by (first | assumption | omega | exact weight4 | exact (brk_of.1 (by assumption)).2)) (by kernel_rfl) ?_
                refine H.ne 2 (fun b => b) (st) (2) (by (first | assumption | omega | exact weight4 | exact (brk_of.1 (by assumption)).2)) (by kernel_rfl) ?_
                refine H.nd 3 (fun b => b) (0 ≥ fails) (by (first | assumption | omega | exact weight4 | exact (brk_of.1 (by assumption)).2)) (by kernel_rfl) ?_
                refine H.kb 2 (fun b => (!b)) (b := (goodO (noteO s c 4607182418800017408 4598175219545276416) (noteC c 4607182418800017408) (Int.toNat fl))) (d := true) (by (first | assumption | omega | exact weight4 | exact (brk_of.1 (by assumption)).2)) (by kernel_rfl) ?_
                refine H.ke 63 (fun b => (b == true)) (st) (st) (by (first | assumption | omega | exact weight4 | exact (brk_of.1 (by assumption)).2)) (by kernel_rfl) ?_
                refine H.ke 17 (fun b => (b == true)) (u) (u) (by (first | assumption | omega | exact weight4 | exact (brk_of.1 (by assumption)).2)) (by kernel_rfl) ?_
                refine H.ke 12 (fun b => (b == true)) (noteC c 4607182418800017408) (noteC c 4607182418800017408) (by (first | assumption | omega | exact weight4 | exact (brk_of.1 (by assumption)).2)) (by kernel_rfl) ?_
                refine H.kd 6 (fun b => b) (noteO s c 4607182418800017408 4598175219545276416 = noteO s c 4607182418800017408 4598175219545276416) (by (first | assumption | omega | exact weight4 | exact (brk_of.1 (by assumption)).2)) (by kernel_rfl) ?_
                refine H.lf (f := Prod.fst) 24 (AV.tup [AV.agg [AV.i IntKind.i64 st, AV.i IntKind.i64 0, AV.i IntKind.i64 u, AV.v (Value.float FloatKind.f64 (noteO s c 4607182418800017408 4598175219545276416)), AV.i IntKind.i64 (noteC c 4607182418800017408)], AV.b true]) (by kernel_rfl) ?_
                first | exact key _ _ _ _ _ rfl hs | exact key _ _ _ _ _ rfl (nl _ (by assumption) (by decide)) | exact key _ _ _ _ _ rfl (by decide) | exact key st q u s c (by rw [beq_self_eq_true]) hs
               ·
                refine H.kd 45 (fun b => b) (s < 18446744073709551616) (by (first | assumption | omega | exact weight4 | exact (brk_of.1 (by assumption)).2)) (by kernel_rfl) ?_
                refine H.kb 0 (fun b => ((!b) == false)) (b := (brkO st q u s c)) (d := true) (by (first | assumption | omega | exact weight4 | exact (brk_of.1 (by assumption)).2)) (by kernel_rfl) ?_
                refine H.kd 3 (fun b => (b == true)) (now ≥ 0) (by (first | assumption | omega | exact weight4 | exact (brk_of.1 (by assumption)).2)) (by kernel_rfl) ?_
                refine H.kd 6 (fun b => ((!b) == false)) (now ≤ 1099511627776) (by (first | assumption | omega | exact weight4 | exact (brk_of.1 (by assumption)).2)) (by kernel_rfl) ?_
                refine H.kd 5 (fun b => (b == true)) (fails ≥ 1) (by (first | assumption | omega | exact weight4 | exact (brk_of.1 (by assumption)).2)) (by kernel_rfl) ?_
                refine H.kd 6 (fun b => ((!b) == false)) (fails ≤ 1048576) (by (first | assumption | omega | exact weight4 | exact (brk_of.1 (by assumption)).2)) (by kernel_rfl) ?_
                refine H.kd 5 (fun b => (b == true)) (pause ≥ 0) (by (first | assumption | omega | exact weight4 | exact (brk_of.1 (by assumption)).2)) (by kernel_rfl) ?_
                refine H.kd 6 (fun b => (!b)) (pause ≤ 1099511627776) (by (first | assumption | omega | exact weight4 | exact (brk_of.1 (by assumption)).2)) (by kernel_rfl) ?_
                refine H.kb 4 (fun b => b) (b := (ok)) (d := true) (by (first | assumption | omega | exact weight4 | exact (brk_of.1 (by assumption)).2)) (by kernel_rfl) ?_
                refine H.kd 1 (fun b => b) (s < 18446744073709551616) (by (first | assumption | omega | exact weight4 | exact (brk_of.1 (by assumption)).2)) (by kernel_rfl) ?_
                refine H.kb 2 (fun b => b) (b := (healthO s c)) (d := true) (by (first | assumption | omega | exact weight4 | exact (brk_of.1 (by assumption)).2)) (by kernel_rfl) ?_
                refine H.kb 0 (fun b => b) (b := (weightO 4598175219545276416)) (d := true) (by (first | assumption | omega | exact weight4 | exact (brk_of.1 (by assumption)).2)) (by kernel_rfl) ?_
                refine H.kb 12 (fun b => b) (b := (ok)) (d := true) (by (first | assumption | omega | exact weight4 | exact (brk_of.1 (by assumption)).2)) (by kernel_rfl) ?_
                refine H.ne 6 (fun b => b) (st) (1) (by (first | assumption | omega | exact weight4 | exact (brk_of.1 (by assumption)).2)) (by kernel_rfl) ?_
                refine H.kb 0 (fun b => (b == true)) (b := (ok)) (d := true) (by (first | assumption | omega | exact weight4 | exact (brk_of.1 (by assumption)).2)) (by kernel_rfl) ?_
                refine H.ne 5 (fun b => b) (st) (2) (by (first | assumption | omega | exact weight4 | exact (brk_of.1 (by assumption)).2)) (by kernel_rfl) ?_
                refine H.ne 2 (fun b => b) (st) (2) (by (first | assumption | omega | exact weight4 | exact (brk_of.1 (by assumption)).2)) (by kernel_rfl) ?_
                refine H.nd 3 (fun b => b) (0 ≥ fails) (by (first | assumption | omega | exact weight4 | exact (brk_of.1 (by assumption)).2)) (by kernel_rfl) ?_
                refine H.kb 2 (fun b => (!b)) (b := (goodO (noteO s c 4607182418800017408 4598175219545276416) (noteC c 4607182418800017408) (Int.toNat fl))) (d := false) (by (first | assumption | omega | exact weight4 | exact (brk_of.1 (by assumption)).2)) (by kernel_rfl) ?_
                refine H.ke 97 (fun b => (b == true)) (wr IntKind.i64 (now + pause)) (wr IntKind.i64 (now + pause)) (by (first | assumption | omega | exact weight4 | exact (brk_of.1 (by assumption)).2)) (by kernel_rfl) ?_
                refine H.ke 12 (fun b => (b == true)) (noteC c 4607182418800017408) (noteC c 4607182418800017408) (by (first | assumption | omega | exact weight4 | exact (brk_of.1 (by assumption)).2)) (by kernel_rfl) ?_
                refine H.kd 6 (fun b => b) (noteO s c 4607182418800017408 4598175219545276416 = noteO s c 4607182418800017408 4598175219545276416) (by (first | assumption | omega | exact weight4 | exact (brk_of.1 (by assumption)).2)) (by kernel_rfl) ?_
                refine H.lf (f := Prod.fst) 24 (AV.tup [AV.agg [AV.i IntKind.i64 1, AV.i IntKind.i64 0, AV.i IntKind.i64 (wr IntKind.i64 (now + pause)), AV.v (Value.float FloatKind.f64 (noteO s c 4607182418800017408 4598175219545276416)), AV.i IntKind.i64 (noteC c 4607182418800017408)], AV.b true]) (by kernel_rfl) ?_
                first | exact key _ _ _ _ _ rfl hs | exact key _ _ _ _ _ rfl (nl _ (by assumption) (by decide)) | exact key _ _ _ _ _ rfl (by decide) | exact key st q u s c (by rw [beq_self_eq_true]) hs
            ·
             refine H.kd 1 (fun b => b) (s < 18446744073709551616) (by (first | assumption | omega | exact weight4 | exact (brk_of.1 (by assumption)).2)) (by kernel_rfl) ?_
             refine H.kb 2 (fun b => b) (b := (healthO s c)) (d := true) (by (first | assumption | omega | exact weight4 | exact (brk_of.1 (by assumption)).2)) (by kernel_rfl) ?_
             refine H.kb 0 (fun b => b) (b := (weightO 4598175219545276416)) (d := true) (by (first | assumption | omega | exact weight4 | exact (brk_of.1 (by assumption)).2)) (by kernel_rfl) ?_
             refine H.kb 6 (fun b => b) (b := (ok)) (d := false) (by (first | assumption | omega | exact weight4 | exact (brk_of.1 (by assumption)).2)) (by kernel_rfl) ?_
             refine H.se 8 (fun b => b) (st) (1) (by kernel_rfl) (fun h12 => ?_) (fun h12 => ?_)
             ·
              refine H.kd 29 (fun b => b) (s < 18446744073709551616) (by (first | assumption | omega | exact weight4 | exact (brk_of.1 (by assumption)).2)) (by kernel_rfl) ?_
              refine H.kb 0 (fun b => ((!b) == false)) (b := (brkO st q u s c)) (d := true) (by (first | assumption | omega | exact weight4 | exact (brk_of.1 (by assumption)).2)) (by kernel_rfl) ?_
              refine H.kd 3 (fun b => (b == true)) (now ≥ 0) (by (first | assumption | omega | exact weight4 | exact (brk_of.1 (by assumption)).2)) (by kernel_rfl) ?_
              refine H.kd 6 (fun b => ((!b) == false)) (now ≤ 1099511627776) (by (first | assumption | omega | exact weight4 | exact (brk_of.1 (by assumption)).2)) (by kernel_rfl) ?_
              refine H.kd 5 (fun b => (b == true)) (fails ≥ 1) (by (first | assumption | omega | exact weight4 | exact (brk_of.1 (by assumption)).2)) (by kernel_rfl) ?_
              refine H.kd 6 (fun b => ((!b) == false)) (fails ≤ 1048576) (by (first | assumption | omega | exact weight4 | exact (brk_of.1 (by assumption)).2)) (by kernel_rfl) ?_
              refine H.kd 5 (fun b => (b == true)) (pause ≥ 0) (by (first | assumption | omega | exact weight4 | exact (brk_of.1 (by assumption)).2)) (by kernel_rfl) ?_
              refine H.kd 6 (fun b => (!b)) (pause ≤ 1099511627776) (by (first | assumption | omega | exact weight4 | exact (brk_of.1 (by assumption)).2)) (by kernel_rfl) ?_
              refine H.kb 4 (fun b => b) (b := (ok)) (d := false) (by (first | assumption | omega | exact weight4 | exact (brk_of.1 (by assumption)).2)) (by kernel_rfl) ?_
              refine H.kd 1 (fun b => b) (s < 18446744073709551616) (by (first | assumption | omega | exact weight4 | exact (brk_of.1 (by assumption)).2)) (by kernel_rfl) ?_
              refine H.kb 2 (fun b => b) (b := (healthO s c)) (d := true) (by (first | assumption | omega | exact weight4 | exact (brk_of.1 (by assumption)).2)) (by kernel_rfl) ?_
              refine H.kb 0 (fun b => b) (b := (weightO 4598175219545276416)) (d := true) (by (first | assumption | omega | exact weight4 | exact (brk_of.1 (by assumption)).2)) (by kernel_rfl) ?_
              refine H.kb 12 (fun b => b) (b := (ok)) (d := false) (by (first | assumption | omega | exact weight4 | exact (brk_of.1 (by assumption)).2)) (by kernel_rfl) ?_
              refine H.ke 2 (fun b => b) (st) (1) (by (first | assumption | omega | exact weight4 | exact (brk_of.1 (by assumption)).2)) (by kernel_rfl) ?_
              refine H.ke 63 (fun b => (b == true)) (st) (st) (by (first | assumption | omega | exact weight4 | exact (brk_of.1 (by assumption)).2)) (by kernel_rfl) ?_
              refine H.ke 8 (fun b => (b == true)) (if 1048576 < wr IntKind.i64 (q + 1) then 1048576 else wr IntKind.i64 (q + 1)) (if 1048576 < wr IntKind.i64 (q + 1) then 1048576 else wr IntKind.i64 (q + 1)) (by (first | assumption | omega | exact weight4 | exact (brk_of.1 (by assumption)).2)) (by kernel_rfl) ?_
              refine H.ke 8 (fun b => (b == true)) (u) (u) (by (first | assumption | omega | exact weight4 | exact (brk_of.1 (by assumption)).2)) (by kernel_rfl) ?_
              refine H.ke 12 (fun b => (b == true)) (noteC c 0) (noteC c 0) (by (first | assumption | omega | exact weight4 | exact (brk_of.1 (by assumption)).2)) (by kernel_rfl) ?_
              refine H.kd 6 (fun b => b) (noteO s c 0 4598175219545276416 = noteO s c 0 4598175219545276416) (by (first | assumption | omega | exact weight4 | exact (brk_of.1 (by assumption)).2)) (by kernel_rfl) ?_
              refine H.lf (f := Prod.fst) 24 (AV.tup [AV.agg [AV.i IntKind.i64 st, AV.i IntKind.i64 (if 1048576 < wr IntKind.i64 (q + 1) then 1048576 else wr IntKind.i64 (q + 1)), AV.i IntKind.i64 u, AV.v (Value.float FloatKind.f64 (noteO s c 0 4598175219545276416)), AV.i IntKind.i64 (noteC c 0)], AV.b true]) (by kernel_rfl) ?_
              first | exact key _ _ _ _ _ rfl hs | exact key _ _ _ _ _ rfl (nl _ (by assumption) (by decide)) | exact key _ _ _ _ _ rfl (by decide) | exact key st q u s c (by rw [beq_self_eq_true]) hs
             ·
              refine H.kb 0 (fun b => (b == true)) (b := (ok)) (d := false) (by (first | assumption | omega | exact weight4 | exact (brk_of.1 (by assumption)).2)) (by kernel_rfl) ?_
              refine H.se 6 (fun b => (b == false)) (st) (2) (by kernel_rfl) (fun h13 => ?_) (fun h13 => ?_)
              ·
               refine H.kd 58 (fun b => b) (s < 18446744073709551616) (by (first | assumption | omega | exact weight4 | exact (brk_of.1 (by assumption)).2)) (by kernel_rfl) ?_
               refine H.kb 0 (fun b => ((!b) == false)) (b := (brkO st q u s c)) (d := true) (by (first | assumption | omega | exact weight4 | exact (brk_of.1 (by assumption)).2)) (by kernel_rfl) ?_
               refine H.kd 3 (fun b => (b == true)) (now ≥ 0) (by (first | assumption | omega | exact weight4 | exact (brk_of.1 (by assumption)).2)) (by kernel_rfl) ?_
               refine H.kd 6 (fun b => ((!b) == false)) (now ≤ 1099511627776) (by (first | assumption | omega | exact weight4 | exact (brk_of.1 (by assumption)).2)) (by kernel_rfl) ?_
               refine H.kd 5 (fun b => (b == true)) (fails ≥ 1) (by (first | assumption | omega | exact weight4 | exact (brk_of.1 (by assumption)).2)) (by kernel_rfl) ?_
               refine H.kd 6 (fun b => ((!b) == false)) (fails ≤ 1048576) (by (first | assumption | omega | exact weight4 | exact (brk_of.1 (by assumption)).2)) (by kernel_rfl) ?_
               refine H.kd 5 (fun b => (b == true)) (pause ≥ 0) (by (first | assumption | omega | exact weight4 | exact (brk_of.1 (by assumption)).2)) (by kernel_rfl) ?_
               refine H.kd 6 (fun b => (!b)) (pause ≤ 1099511627776) (by (first | assumption | omega | exact weight4 | exact (brk_of.1 (by assumption)).2)) (by kernel_rfl) ?_
               refine H.kb 4 (fun b => b) (b := (ok)) (d := false) (by (first | assumption | omega | exact weight4 | exact (brk_of.1 (by assumption)).2)) (by kernel_rfl) ?_
               refine H.kd 1 (fun b => b) (s < 18446744073709551616) (by (first | assumption | omega | exact weight4 | exact (brk_of.1 (by assumption)).2)) (by kernel_rfl) ?_
               refine H.kb 2 (fun b => b) (b := (healthO s c)) (d := true) (by (first | assumption | omega | exact weight4 | exact (brk_of.1 (by assumption)).2)) (by kernel_rfl) ?_
               refine H.kb 0 (fun b => b) (b := (weightO 4598175219545276416)) (d := true) (by (first | assumption | omega | exact weight4 | exact (brk_of.1 (by assumption)).2)) (by kernel_rfl) ?_
               refine H.kb 12 (fun b => b) (b := (ok)) (d := false) (by (first | assumption | omega | exact weight4 | exact (brk_of.1 (by assumption)).2)) (by kernel_rfl) ?_
               refine H.ne 2 (fun b => b) (st) (1) (by (first | assumption | omega | exact weight4 | exact (brk_of.1 (by assumption)).2)) (by kernel_rfl) ?_
               refine H.kb 0 (fun b => (b == true)) (b := (ok)) (d := false) (by (first | assumption | omega | exact weight4 | exact (brk_of.1 (by assumption)).2)) (by kernel_rfl) ?_
               refine H.ke 6 (fun b => b) (st) (2) (by (first | assumption | omega | exact weight4 | exact (brk_of.1 (by assumption)).2)) (by kernel_rfl) ?_
               refine H.ke 89 (fun b => (b == true)) (if 1048576 < wr IntKind.i64 (q + 1) then 1048576 else wr IntKind.i64 (q + 1)) (if 1048576 < wr IntKind.i64 (q + 1) then 1048576 else wr IntKind.i64 (q + 1)) (by (first | assumption | omega | exact weight4 | exact (brk_of.1 (by assumption)).2)) (by kernel_rfl) ?_
               refine H.ke 8 (fun b => (b == true)) (wr IntKind.i64 (now + pause)) (wr IntKind.i64 (now + pause)) (by (first | assumption | omega | exact weight4 | exact (brk_of.1 (by assumption)).2)) (by kernel_rfl) ?_
               refine H.ke 12 (fun b => (b == true)) (noteC c 0) (noteC c 0) (by (first | assumption | omega | exact weight4 | exact (brk_of.1 (by assumption)).2)) (by kernel_rfl) ?_
               refine H.kd 6 (fun b => b) (noteO s c 0 4598175219545276416 = noteO s c 0 4598175219545276416) (by (first | assumption | omega | exact weight4 | exact (brk_of.1 (by assumption)).2)) (by kernel_rfl) ?_
               refine H.lf (f := Prod.fst) 24 (AV.tup [AV.agg [AV.i IntKind.i64 1, AV.i IntKind.i64 (if 1048576 < wr IntKind.i64 (q + 1) then 1048576 else wr IntKind.i64 (q + 1)), AV.i IntKind.i64 (wr IntKind.i64 (now + pause)), AV.v (Value.float FloatKind.f64 (noteO s c 0 4598175219545276416)), AV.i IntKind.i64 (noteC c 0)], AV.b true]) (by kernel_rfl) ?_
               first | exact key _ _ _ _ _ rfl hs | exact key _ _ _ _ _ rfl (nl _ (by assumption) (by decide)) | exact key _ _ _ _ _ rfl (by decide) | exact key st q u s c (by rw [beq_self_eq_true]) hs
              ·
               refine H.sd 8 (fun b => (b == false)) ((if 1048576 < wr IntKind.i64 (q + 1) then 1048576 else wr IntKind.i64 (q + 1)) ≥ fails) (by kernel_rfl) (fun h14 => ?_) (fun h14 => ?_)
               ·
                refine H.kd 52 (fun b => b) (s < 18446744073709551616) (by (first | assumption | omega | exact weight4 | exact (brk_of.1 (by assumption)).2)) (by kernel_rfl) ?_
                refine H.kb 0 (fun b => ((!b) == false)) (b := (brkO st q u s c)) (d := true) (by (first | assumption | omega | exact weight4 | exact (brk_of.1 (by assumption)).2)) (by kernel_rfl) ?_
                refine H.kd 3 (fun b => (b == true)) (now ≥ 0) (by (first | assumption | omega | exact weight4 | exact (brk_of.1 (by assumption)).2)) (by kernel_rfl) ?_
                refine H.kd 6 (fun b => ((!b) == false)) (now ≤ 1099511627776) (by (first | assumption | omega | exact weight4 | exact (brk_of.1 (by assumption)).2)) (by kernel_rfl) ?_
                refine H.kd 5 (fun b => (b == true)) (fails ≥ 1) (by (first | assumption | omega | exact weight4 | exact (brk_of.1 (by assumption)).2)) (by kernel_rfl) ?_
                refine H.kd 6 (fun b => ((!b) == false)) (fails ≤ 1048576) (by (first | assumption | omega | exact weight4 | exact (brk_of.1 (by assumption)).2)) (by kernel_rfl) ?_
                refine H.kd 5 (fun b => (b == true)) (pause ≥ 0) (by (first | assumption | omega | exact weight4 | exact (brk_of.1 (by assumption)).2)) (by kernel_rfl) ?_
                refine H.kd 6 (fun b => (!b)) (pause ≤ 1099511627776) (by (first | assumption | omega | exact weight4 | exact (brk_of.1 (by assumption)).2)) (by kernel_rfl) ?_
                refine H.kb 4 (fun b => b) (b := (ok)) (d := false) (by (first | assumption | omega | exact weight4 | exact (brk_of.1 (by assumption)).2)) (by kernel_rfl) ?_
                refine H.kd 1 (fun b => b) (s < 18446744073709551616) (by (first | assumption | omega | exact weight4 | exact (brk_of.1 (by assumption)).2)) (by kernel_rfl) ?_
                refine H.kb 2 (fun b => b) (b := (healthO s c)) (d := true) (by (first | assumption | omega | exact weight4 | exact (brk_of.1 (by assumption)).2)) (by kernel_rfl) ?_
                refine H.kb 0 (fun b => b) (b := (weightO 4598175219545276416)) (d := true) (by (first | assumption | omega | exact weight4 | exact (brk_of.1 (by assumption)).2)) (by kernel_rfl) ?_
                refine H.kb 12 (fun b => b) (b := (ok)) (d := false) (by (first | assumption | omega | exact weight4 | exact (brk_of.1 (by assumption)).2)) (by kernel_rfl) ?_
                refine H.ne 2 (fun b => b) (st) (1) (by (first | assumption | omega | exact weight4 | exact (brk_of.1 (by assumption)).2)) (by kernel_rfl) ?_
                refine H.kb 0 (fun b => (b == true)) (b := (ok)) (d := false) (by (first | assumption | omega | exact weight4 | exact (brk_of.1 (by assumption)).2)) (by kernel_rfl) ?_
                refine H.ne 6 (fun b => b) (st) (2) (by (first | assumption | omega | exact weight4 | exact (brk_of.1 (by assumption)).2)) (by kernel_rfl) ?_
                refine H.kd 3 (fun b => b) ((if 1048576 < wr IntKind.i64 (q + 1) then 1048576 else wr IntKind.i64 (q + 1)) ≥ fails) (by (first | assumption | omega | exact weight4 | exact (brk_of.1 (by assumption)).2)) (by kernel_rfl) ?_
                refine H.ke 89 (fun b => (b == true)) (if 1048576 < wr IntKind.i64 (q + 1) then 1048576 else wr IntKind.i64 (q + 1)) (if 1048576 < wr IntKind.i64 (q + 1) then 1048576 else wr IntKind.i64 (q + 1)) (by (first | assumption | omega | exact weight4 | exact (brk_of.1 (by assumption)).2)) (by kernel_rfl) ?_
                refine H.ke 8 (fun b => (b == true)) (wr IntKind.i64 (now + pause)) (wr IntKind.i64 (now + pause)) (by (first | assumption | omega | exact weight4 | exact (brk_of.1 (by assumption)).2)) (by kernel_rfl) ?_
                refine H.ke 12 (fun b => (b == true)) (noteC c 0) (noteC c 0) (by (first | assumption | omega | exact weight4 | exact (brk_of.1 (by assumption)).2)) (by kernel_rfl) ?_
                refine H.kd 6 (fun b => b) (noteO s c 0 4598175219545276416 = noteO s c 0 4598175219545276416) (by (first | assumption | omega | exact weight4 | exact (brk_of.1 (by assumption)).2)) (by kernel_rfl) ?_
                refine H.lf (f := Prod.fst) 24 (AV.tup [AV.agg [AV.i IntKind.i64 1, AV.i IntKind.i64 (if 1048576 < wr IntKind.i64 (q + 1) then 1048576 else wr IntKind.i64 (q + 1)), AV.i IntKind.i64 (wr IntKind.i64 (now + pause)), AV.v (Value.float FloatKind.f64 (noteO s c 0 4598175219545276416)), AV.i IntKind.i64 (noteC c 0)], AV.b true]) (by kernel_rfl) ?_
                first | exact key _ _ _ _ _ rfl hs | exact key _ _ _ _ _ rfl (nl _ (by assumption) (by decide)) | exact key _ _ _ _ _ rfl (by decide) | exact key st q u s c (by rw [beq_self_eq_true]) hs
               ·
                refine H.sb 8 (fun b => (!b)) (goodO (noteO s c 0 4598175219545276416) (noteC c 0) (Int.toNat fl)) (by kernel_rfl) (fun h15 => ?_) (fun h15 => ?_)
                ·
                 refine H.kd 29 (fun b => b) (s < 18446744073709551616) (by (first | assumption | omega | exact weight4 | exact (brk_of.1 (by assumption)).2)) (by kernel_rfl) ?_
                 refine H.kb 0 (fun b => ((!b) == false)) (b := (brkO st q u s c)) (d := true) (by (first | assumption | omega | exact weight4 | exact (brk_of.1 (by assumption)).2)) (by kernel_rfl) ?_
                 refine H.kd 3 (fun b => (b == true)) (now ≥ 0) (by (first | assumption | omega | exact weight4 | exact (brk_of.1 (by assumption)).2)) (by kernel_rfl) ?_
                 refine H.kd 6 (fun b => ((!b) == false)) (now ≤ 1099511627776) (by (first | assumption | omega | exact weight4 | exact (brk_of.1 (by assumption)).2)) (by kernel_rfl) ?_
                 refine H.kd 5 (fun b => (b == true)) (fails ≥ 1) (by (first | assumption | omega | exact weight4 | exact (brk_of.1 (by assumption)).2)) (by kernel_rfl) ?_
                 refine H.kd 6 (fun b => ((!b) == false)) (fails ≤ 1048576) (by (first | assumption | omega | exact weight4 | exact (brk_of.1 (by assumption)).2)) (by kernel_rfl) ?_
                 refine H.kd 5 (fun b => (b == true)) (pause ≥ 0) (by (first | assumption | omega | exact weight4 | exact (brk_of.1 (by assumption)).2)) (by kernel_rfl) ?_
                 refine H.kd 6 (fun b => (!b)) (pause ≤ 1099511627776) (by (first | assumption | omega | exact weight4 | exact (brk_of.1 (by assumption)).2)) (by kernel_rfl) ?_
                 refine H.kb 4 (fun b => b) (b := (ok)) (d := false) (by (first | assumption | omega | exact weight4 | exact (brk_of.1 (by assumption)).2)) (by kernel_rfl) ?_
                 refine H.kd 1 (fun b => b) (s < 18446744073709551616) (by (first | assumption | omega | exact weight4 | exact (brk_of.1 (by assumption)).2)) (by kernel_rfl) ?_
                 refine H.kb 2 (fun b => b) (b := (healthO s c)) (d := true) (by (first | assumption | omega | exact weight4 | exact (brk_of.1 (by assumption)).2)) (by kernel_rfl) ?_
                 refine H.kb 0 (fun b => b) (b := (weightO 4598175219545276416)) (d := true) (by (first | assumption | omega | exact weight4 | exact (brk_of.1 (by assumption)).2)) (by kernel_rfl) ?_
                 refine H.kb 12 (fun b => b) (b := (ok)) (d := false) (by (first | assumption | omega | exact weight4 | exact (brk_of.1 (by assumption)).2)) (by kernel_rfl) ?_
                 refine H.ne 2 (fun b => b) (st) (1) (by (first | assumption | omega | exact weight4 | exact (brk_of.1 (by assumption)).2)) (by kernel_rfl) ?_
                 refine H.kb 0 (fun b => (b == true)) (b := (ok)) (d := false) (by (first | assumption | omega | exact weight4 | exact (brk_of.1 (by assumption)).2)) (by kernel_rfl) ?_
                 refine H.ne 6 (fun b => b) (st) (2) (by (first | assumption | omega | exact weight4 | exact (brk_of.1 (by assumption)).2)) (by kernel_rfl) ?_
                 refine H.nd 3 (fun b => b) ((if 1048576 < wr IntKind.i64 (q + 1) then 1048576 else wr IntKind.i64 (q + 1)) ≥ fails) (by (first | assumption | omega | exact weight4 | exact (brk_of.1 (by assumption)).2)) (by kernel_rfl) ?_
                 refine H.kb 2 (fun b => (!b)) (b := (goodO (noteO s c 0 4598175219545276416) (noteC c 0) (Int.toNat fl))) (d := true) (by (first | assumption | omega | exact weight4 | exact (brk_of.1 (by assumption)).2)) (by kernel_rfl) ?_
                 refine H.ke 63 (fun b => (b == true)) (st) (st) (by (first | assumption | omega | exact weight4 | exact (brk_of.1 (by assumption)).2)) (by kernel_rfl) ?_
                 refine H.ke 8 (fun b => (b == true)) (if 1048576 < wr IntKind.i64 (q + 1) then 1048576 else wr IntKind.i64 (q + 1)) (if 1048576 < wr IntKind.i64 (q + 1) then 1048576 else wr IntKind.i64 (q + 1)) (by (first | assumption | omega | exact weight4 | exact (brk_of.1 (by assumption)).2)) (by kernel_rfl) ?_
                 refine H.ke 8 (fun b => (b == true)) (u) (u) (by (first | assumption | omega | exact weight4 | exact (brk_of.1 (by assumption)).2)) (by kernel_rfl) ?_
                 refine H.ke 12 (fun b => (b == true)) (noteC c 0) (noteC c 0) (by (first | assumption | omega | exact weight4 | exact (brk_of.1 (by assumption)).2)) (by kernel_rfl) ?_
                 refine H.kd 6 (fun b => b) (noteO s c 0 4598175219545276416 = noteO s c 0 4598175219545276416) (by (first | assumption | omega | exact weight4 | exact (brk_of.1 (by assumption)).2)) (by kernel_rfl) ?_
                 refine H.lf (f := Prod.fst) 24 (AV.tup [AV.agg [AV.i IntKind.i64 st, AV.i IntKind.i64 (if 1048576 < wr IntKind.i64 (q + 1) then 1048576 else wr IntKind.i64 (q + 1)), AV.i IntKind.i64 u, AV.v (Value.float FloatKind.f64 (noteO s c 0 4598175219545276416)), AV.i IntKind.i64 (noteC c 0)], AV.b true]) (by kernel_rfl) ?_
                 first | exact key _ _ _ _ _ rfl hs | exact key _ _ _ _ _ rfl (nl _ (by assumption) (by decide)) | exact key _ _ _ _ _ rfl (by decide) | exact key st q u s c (by rw [beq_self_eq_true]) hs
                ·
                 refine H.kd 45 (fun b => b) (s < 18446744073709551616) (by (first | assumption | omega | exact weight4 | exact (brk_of.1 (by assumption)).2)) (by kernel_rfl) ?_
                 refine H.kb 0 (fun b => ((!b) == false)) (b := (brkO st q u s c)) (d := true) (by (first | assumption | omega | exact weight4 | exact (brk_of.1 (by assumption)).2)) (by kernel_rfl) ?_
                 refine H.kd 3 (fun b => (b == true)) (now ≥ 0) (by (first | assumption | omega | exact weight4 | exact (brk_of.1 (by assumption)).2)) (by kernel_rfl) ?_
                 refine H.kd 6 (fun b => ((!b) == false)) (now ≤ 1099511627776) (by (first | assumption | omega | exact weight4 | exact (brk_of.1 (by assumption)).2)) (by kernel_rfl) ?_
                 refine H.kd 5 (fun b => (b == true)) (fails ≥ 1) (by (first | assumption | omega | exact weight4 | exact (brk_of.1 (by assumption)).2)) (by kernel_rfl) ?_
                 refine H.kd 6 (fun b => ((!b) == false)) (fails ≤ 1048576) (by (first | assumption | omega | exact weight4 | exact (brk_of.1 (by assumption)).2)) (by kernel_rfl) ?_
                 refine H.kd 5 (fun b => (b == true)) (pause ≥ 0) (by (first | assumption | omega | exact weight4 | exact (brk_of.1 (by assumption)).2)) (by kernel_rfl) ?_
                 refine H.kd 6 (fun b => (!b)) (pause ≤ 1099511627776) (by (first | assumption | omega | exact weight4 | exact (brk_of.1 (by assumption)).2)) (by kernel_rfl) ?_
                 refine H.kb 4 (fun b => b) (b := (ok)) (d := false) (by (first | assumption | omega | exact weight4 | exact (brk_of.1 (by assumption)).2)) (by kernel_rfl) ?_
                 refine H.kd 1 (fun b => b) (s < 18446744073709551616) (by (first | assumption | omega | exact weight4 | exact (brk_of.1 (by assumption)).2)) (by kernel_rfl) ?_
                 refine H.kb 2 (fun b => b) (b := (healthO s c)) (d := true) (by (first | assumption | omega | exact weight4 | exact (brk_of.1 (by assumption)).2)) (by kernel_rfl) ?_
                 refine H.kb 0 (fun b => b) (b := (weightO 4598175219545276416)) (d := true) (by (first | assumption | omega | exact weight4 | exact (brk_of.1 (by assumption)).2)) (by kernel_rfl) ?_
                 refine H.kb 12 (fun b => b) (b := (ok)) (d := false) (by (first | assumption | omega | exact weight4 | exact (brk_of.1 (by assumption)).2)) (by kernel_rfl) ?_
                 refine H.ne 2 (fun b => b) (st) (1) (by (first | assumption | omega | exact weight4 | exact (brk_of.1 (by assumption)).2)) (by kernel_rfl) ?_
                 refine H.kb 0 (fun b => (b == true)) (b := (ok)) (d := false) (by (first | assumption | omega | exact weight4 | exact (brk_of.1 (by assumption)).2)) (by kernel_rfl) ?_
                 refine H.ne 6 (fun b => b) (st) (2) (by (first | assumption | omega | exact weight4 | exact (brk_of.1 (by assumption)).2)) (by kernel_rfl) ?_
                 refine H.nd 3 (fun b => b) ((if 1048576 < wr IntKind.i64 (q + 1) then 1048576 else wr IntKind.i64 (q + 1)) ≥ fails) (by (first | assumption | omega | exact weight4 | exact (brk_of.1 (by assumption)).2)) (by kernel_rfl) ?_
                 refine H.kb 2 (fun b => (!b)) (b := (goodO (noteO s c 0 4598175219545276416) (noteC c 0) (Int.toNat fl))) (d := false) (by (first | assumption | omega | exact weight4 | exact (brk_of.1 (by assumption)).2)) (by kernel_rfl) ?_
                 refine H.ke 88 (fun b => (b == true)) (if 1048576 < wr IntKind.i64 (q + 1) then 1048576 else wr IntKind.i64 (q + 1)) (if 1048576 < wr IntKind.i64 (q + 1) then 1048576 else wr IntKind.i64 (q + 1)) (by (first | assumption | omega | exact weight4 | exact (brk_of.1 (by assumption)).2)) (by kernel_rfl) ?_
                 refine H.ke 8 (fun b => (b == true)) (wr IntKind.i64 (now + pause)) (wr IntKind.i64 (now + pause)) (by (first | assumption | omega | exact weight4 | exact (brk_of.1 (by assumption)).2)) (by kernel_rfl) ?_
                 refine H.ke 12 (fun b => (b == true)) (noteC c 0) (noteC c 0) (by (first | assumption | omega | exact weight4 | exact (brk_of.1 (by assumption)).2)) (by kernel_rfl) ?_
                 refine H.kd 6 (fun b => b) (noteO s c 0 4598175219545276416 = noteO s c 0 4598175219545276416) (by (first | assumption | omega | exact weight4 | exact (brk_of.1 (by assumption)).2)) (by kernel_rfl) ?_
                 refine H.lf (f := Prod.fst) 24 (AV.tup [AV.agg [AV.i IntKind.i64 1, AV.i IntKind.i64 (if 1048576 < wr IntKind.i64 (q + 1) then 1048576 else wr IntKind.i64 (q + 1)), AV.i IntKind.i64 (wr IntKind.i64 (now + pause)), AV.v (Value.float FloatKind.f64 (noteO s c 0 4598175219545276416)), AV.i IntKind.i64 (noteC c 0)], AV.b true]) (by kernel_rfl) ?_
                 first | exact key _ _ _ _ _ rfl hs | exact key _ _ _ _ _ rfl (nl _ (by assumption) (by decide)) | exact key _ _ _ _ _ rfl (by decide) | exact key st q u s c (by rw [beq_self_eq_true]) hs
           ·
            refine H.kd 6 (fun b => b) (s < 18446744073709551616) (by (first | assumption | omega | exact weight4 | exact (brk_of.1 (by assumption)).2)) (by kernel_rfl) ?_
            refine H.kb 0 (fun b => ((!b) == false)) (b := (brkO st q u s c)) (d := true) (by (first | assumption | omega | exact weight4 | exact (brk_of.1 (by assumption)).2)) (by kernel_rfl) ?_
            refine H.kd 3 (fun b => (b == true)) (now ≥ 0) (by (first | assumption | omega | exact weight4 | exact (brk_of.1 (by assumption)).2)) (by kernel_rfl) ?_
            refine H.kd 6 (fun b => ((!b) == false)) (now ≤ 1099511627776) (by (first | assumption | omega | exact weight4 | exact (brk_of.1 (by assumption)).2)) (by kernel_rfl) ?_
            refine H.kd 5 (fun b => (b == true)) (fails ≥ 1) (by (first | assumption | omega | exact weight4 | exact (brk_of.1 (by assumption)).2)) (by kernel_rfl) ?_
            refine H.kd 6 (fun b => ((!b) == false)) (fails ≤ 1048576) (by (first | assumption | omega | exact weight4 | exact (brk_of.1 (by assumption)).2)) (by kernel_rfl) ?_
            refine H.kd 5 (fun b => (b == true)) (pause ≥ 0) (by (first | assumption | omega | exact weight4 | exact (brk_of.1 (by assumption)).2)) (by kernel_rfl) ?_
            refine H.nd 6 (fun b => (!b)) (pause ≤ 1099511627776) (by (first | assumption | omega | exact weight4 | exact (brk_of.1 (by assumption)).2)) (by kernel_rfl) ?_
            refine H.lf (f := Prod.fst) 65 (AV.tup [AV.agg [AV.i IntKind.i64 st, AV.i IntKind.i64 q, AV.i IntKind.i64 u, AV.v (Value.float FloatKind.f64 s), AV.i IntKind.i64 c], AV.b true]) (by kernel_rfl) ?_
            first | exact key _ _ _ _ _ rfl hs | exact key _ _ _ _ _ rfl (nl _ (by assumption) (by decide)) | exact key _ _ _ _ _ rfl (by decide) | exact key st q u s c (by rw [beq_self_eq_true]) hs
          ·
           refine H.kd 12 (fun b => b) (s < 18446744073709551616) (by (first | assumption | omega | exact weight4 | exact (brk_of.1 (by assumption)).2)) (by kernel_rfl) ?_
           refine H.kb 0 (fun b => ((!b) == false)) (b := (brkO st q u s c)) (d := true) (by (first | assumption | omega | exact weight4 | exact (brk_of.1 (by assumption)).2)) (by kernel_rfl) ?_
           refine H.kd 3 (fun b => (b == true)) (now ≥ 0) (by (first | assumption | omega | exact weight4 | exact (brk_of.1 (by assumption)).2)) (by kernel_rfl) ?_
           refine H.kd 6 (fun b => ((!b) == false)) (now ≤ 1099511627776) (by (first | assumption | omega | exact weight4 | exact (brk_of.1 (by assumption)).2)) (by kernel_rfl) ?_
           refine H.kd 5 (fun b => (b == true)) (fails ≥ 1) (by (first | assumption | omega | exact weight4 | exact (brk_of.1 (by assumption)).2)) (by kernel_rfl) ?_
           refine H.kd 6 (fun b => ((!b) == false)) (fails ≤ 1048576) (by (first | assumption | omega | exact weight4 | exact (brk_of.1 (by assumption)).2)) (by kernel_rfl) ?_
           refine H.nd 5 (fun b => (b == true)) (pause ≥ 0) (by (first | assumption | omega | exact weight4 | exact (brk_of.1 (by assumption)).2)) (by kernel_rfl) ?_
           refine H.lf (f := Prod.fst) 71 (AV.tup [AV.agg [AV.i IntKind.i64 st, AV.i IntKind.i64 q, AV.i IntKind.i64 u, AV.v (Value.float FloatKind.f64 s), AV.i IntKind.i64 c], AV.b true]) (by kernel_rfl) ?_
           first | exact key _ _ _ _ _ rfl hs | exact key _ _ _ _ _ rfl (nl _ (by assumption) (by decide)) | exact key _ _ _ _ _ rfl (by decide) | exact key st q u s c (by rw [beq_self_eq_true]) hs
         ·
          refine H.kd 11 (fun b => b) (s < 18446744073709551616) (by (first | assumption | omega | exact weight4 | exact (brk_of.1 (by assumption)).2)) (by kernel_rfl) ?_
          refine H.kb 0 (fun b => ((!b) == false)) (b := (brkO st q u s c)) (d := true) (by (first | assumption | omega | exact weight4 | exact (brk_of.1 (by assumption)).2)) (by kernel_rfl) ?_
          refine H.kd 3 (fun b => (b == true)) (now ≥ 0) (by (first | assumption | omega | exact weight4 | exact (brk_of.1 (by assumption)).2)) (by kernel_rfl) ?_
          refine H.kd 6 (fun b => ((!b) == false)) (now ≤ 1099511627776) (by (first | assumption | omega | exact weight4 | exact (brk_of.1 (by assumption)).2)) (by kernel_rfl) ?_
          refine H.kd 5 (fun b => (b == true)) (fails ≥ 1) (by (first | assumption | omega | exact weight4 | exact (brk_of.1 (by assumption)).2)) (by kernel_rfl) ?_
          refine H.nd 6 (fun b => ((!b) == false)) (fails ≤ 1048576) (by (first | assumption | omega | exact weight4 | exact (brk_of.1 (by assumption)).2)) (by kernel_rfl) ?_
          refine H.lf (f := Prod.fst) 70 (AV.tup [AV.agg [AV.i IntKind.i64 st, AV.i IntKind.i64 q, AV.i IntKind.i64 u, AV.v (Value.float FloatKind.f64 s), AV.i IntKind.i64 c], AV.b true]) (by kernel_rfl) ?_
          first | exact key _ _ _ _ _ rfl hs | exact key _ _ _ _ _ rfl (nl _ (by assumption) (by decide)) | exact key _ _ _ _ _ rfl (by decide) | exact key st q u s c (by rw [beq_self_eq_true]) hs
        ·
         refine H.kd 15 (fun b => b) (s < 18446744073709551616) (by (first | assumption | omega | exact weight4 | exact (brk_of.1 (by assumption)).2)) (by kernel_rfl) ?_
         refine H.kb 0 (fun b => ((!b) == false)) (b := (brkO st q u s c)) (d := true) (by (first | assumption | omega | exact weight4 | exact (brk_of.1 (by assumption)).2)) (by kernel_rfl) ?_
         refine H.kd 3 (fun b => (b == true)) (now ≥ 0) (by (first | assumption | omega | exact weight4 | exact (brk_of.1 (by assumption)).2)) (by kernel_rfl) ?_
         refine H.kd 6 (fun b => ((!b) == false)) (now ≤ 1099511627776) (by (first | assumption | omega | exact weight4 | exact (brk_of.1 (by assumption)).2)) (by kernel_rfl) ?_
         refine H.nd 5 (fun b => (b == true)) (fails ≥ 1) (by (first | assumption | omega | exact weight4 | exact (brk_of.1 (by assumption)).2)) (by kernel_rfl) ?_
         refine H.lf (f := Prod.fst) 76 (AV.tup [AV.agg [AV.i IntKind.i64 st, AV.i IntKind.i64 q, AV.i IntKind.i64 u, AV.v (Value.float FloatKind.f64 s), AV.i IntKind.i64 c], AV.b true]) (by kernel_rfl) ?_
         first | exact key _ _ _ _ _ rfl hs | exact key _ _ _ _ _ rfl (nl _ (by assumption) (by decide)) | exact key _ _ _ _ _ rfl (by decide) | exact key st q u s c (by rw [beq_self_eq_true]) hs
       ·
        refine H.kd 19 (fun b => b) (s < 18446744073709551616) (by (first | assumption | omega | exact weight4 | exact (brk_of.1 (by assumption)).2)) (by kernel_rfl) ?_
        refine H.kb 0 (fun b => ((!b) == false)) (b := (brkO st q u s c)) (d := true) (by (first | assumption | omega | exact weight4 | exact (brk_of.1 (by assumption)).2)) (by kernel_rfl) ?_
        refine H.kd 3 (fun b => (b == true)) (now ≥ 0) (by (first | assumption | omega | exact weight4 | exact (brk_of.1 (by assumption)).2)) (by kernel_rfl) ?_
        refine H.nd 6 (fun b => ((!b) == false)) (now ≤ 1099511627776) (by (first | assumption | omega | exact weight4 | exact (brk_of.1 (by assumption)).2)) (by kernel_rfl) ?_
        refine H.lf (f := Prod.fst) 75 (AV.tup [AV.agg [AV.i IntKind.i64 st, AV.i IntKind.i64 q, AV.i IntKind.i64 u, AV.v (Value.float FloatKind.f64 s), AV.i IntKind.i64 c], AV.b true]) (by kernel_rfl) ?_
        first | exact key _ _ _ _ _ rfl hs | exact key _ _ _ _ _ rfl (nl _ (by assumption) (by decide)) | exact key _ _ _ _ _ rfl (by decide) | exact key st q u s c (by rw [beq_self_eq_true]) hs
   ·
    refine H.se 43 (fun b => b) (wi d 6) (0) (by kernel_rfl) (fun h3 => ?_) (fun h3 => ?_)
    ·
     refine H.kd 4 (fun b => b) (s < 18446744073709551616) (by (first | assumption | omega | exact weight4 | exact (brk_of.1 (by assumption)).2)) (by kernel_rfl) ?_
     refine H.kb 0 (fun b => ((!b) == false)) (b := (brkO st q u s c)) (d := true) (by (first | assumption | omega | exact weight4 | exact (brk_of.1 (by assumption)).2)) (by kernel_rfl) ?_
     refine H.nd 3 (fun b => (b == true)) (now ≥ 0) (by (first | assumption | omega | exact weight4 | exact (brk_of.1 (by assumption)).2)) (by kernel_rfl) ?_
     refine H.lf (f := Prod.fst) 38 (AV.tup [AV.agg [AV.i IntKind.i64 st, AV.i IntKind.i64 q, AV.i IntKind.i64 u, AV.v (Value.float FloatKind.f64 s), AV.i IntKind.i64 c], AV.b true]) (by kernel_rfl) ?_
     first | exact key _ _ _ _ _ rfl hs | exact key _ _ _ _ _ rfl (nl _ (by assumption) (by decide)) | exact key _ _ _ _ _ rfl (by decide) | exact key st q u s c (by rw [beq_self_eq_true]) hs
    ·
     refine H.se 1 (fun b => b) (wi d 6) (1) (by kernel_rfl) (fun h4 => ?_) (fun h4 => ?_)
     ·
      refine H.kd 26 (fun b => b) (s < 18446744073709551616) (by (first | assumption | omega | exact weight4 | exact (brk_of.1 (by assumption)).2)) (by kernel_rfl) ?_
      refine H.kb 0 (fun b => ((!b) == false)) (b := (brkO st q u s c)) (d := true) (by (first | assumption | omega | exact weight4 | exact (brk_of.1 (by assumption)).2)) (by kernel_rfl) ?_
      refine H.nd 3 (fun b => (b == true)) (now ≥ 0) (by (first | assumption | omega | exact weight4 | exact (brk_of.1 (by assumption)).2)) (by kernel_rfl) ?_
      refine H.lf (f := Prod.fst) 74 (AV.tup [AV.agg [AV.i IntKind.i64 st, AV.i IntKind.i64 q, AV.i IntKind.i64 u, AV.v (Value.float FloatKind.f64 s), AV.i IntKind.i64 c], AV.b true]) (by kernel_rfl) ?_
      first | exact key _ _ _ _ _ rfl hs | exact key _ _ _ _ _ rfl (nl _ (by assumption) (by decide)) | exact key _ _ _ _ _ rfl (by decide) | exact key st q u s c (by rw [beq_self_eq_true]) hs
     ·
      refine H.se 1 (fun b => b) (wi d 6) (2) (by kernel_rfl) (fun h5 => ?_) (fun h5 => ?_)
      ·
       refine H.kd 25 (fun b => b) (s < 18446744073709551616) (by (first | assumption | omega | exact weight4 | exact (brk_of.1 (by assumption)).2)) (by kernel_rfl) ?_
       refine H.kb 0 (fun b => ((!b) == false)) (b := (brkO st q u s c)) (d := true) (by (first | assumption | omega | exact weight4 | exact (brk_of.1 (by assumption)).2)) (by kernel_rfl) ?_
       refine H.nd 3 (fun b => (b == true)) (now ≥ 0) (by (first | assumption | omega | exact weight4 | exact (brk_of.1 (by assumption)).2)) (by kernel_rfl) ?_
       refine H.lf (f := Prod.fst) 74 (AV.tup [AV.agg [AV.i IntKind.i64 st, AV.i IntKind.i64 q, AV.i IntKind.i64 u, AV.v (Value.float FloatKind.f64 s), AV.i IntKind.i64 c], AV.b true]) (by kernel_rfl) ?_
       first | exact key _ _ _ _ _ rfl hs | exact key _ _ _ _ _ rfl (nl _ (by assumption) (by decide)) | exact key _ _ _ _ _ rfl (by decide) | exact key st q u s c (by rw [beq_self_eq_true]) hs
      ·
       refine H.kd 22 (fun b => b) (s < 18446744073709551616) (by (first | assumption | omega | exact weight4 | exact (brk_of.1 (by assumption)).2)) (by kernel_rfl) ?_
       refine H.kb 0 (fun b => (b == true)) (b := (brkO st q u s c)) (d := true) (by (first | assumption | omega | exact weight4 | exact (brk_of.1 (by assumption)).2)) (by kernel_rfl) ?_
       refine H.nd 3 (fun b => (b == true)) (now ≥ 0) (by (first | assumption | omega | exact weight4 | exact (brk_of.1 (by assumption)).2)) (by kernel_rfl) ?_
       refine H.kd 24 (fun b => b) (s < 18446744073709551616) (by (first | assumption | omega | exact weight4 | exact (brk_of.1 (by assumption)).2)) (by kernel_rfl) ?_
       refine H.kb 0 (fun b => ((!b) == false)) (b := (brkO st q u s c)) (d := true) (by (first | assumption | omega | exact weight4 | exact (brk_of.1 (by assumption)).2)) (by kernel_rfl) ?_
       refine H.nd 3 (fun b => (b == true)) (now ≥ 0) (by (first | assumption | omega | exact weight4 | exact (brk_of.1 (by assumption)).2)) (by kernel_rfl) ?_
       refine H.lf (f := Prod.fst) 81 (AV.tup [AV.agg [AV.i IntKind.i64 st, AV.i IntKind.i64 q, AV.i IntKind.i64 u, AV.v (Value.float FloatKind.f64 s), AV.i IntKind.i64 c], AV.b true]) (by kernel_rfl) ?_
       first | exact key _ _ _ _ _ rfl hs | exact key _ _ _ _ _ rfl (nl _ (by assumption) (by decide)) | exact key _ _ _ _ _ rfl (by decide) | exact key st q u s c (by rw [beq_self_eq_true]) hs
  ·
   refine H.se 42 (fun b => b) (wi d 6) (0) (by kernel_rfl) (fun h2 => ?_) (fun h2 => ?_)
   ·
    refine H.kd 4 (fun b => b) (s < 18446744073709551616) (by (first | assumption | omega | exact weight4 | exact (brk_of.1 (by assumption)).2)) (by kernel_rfl) ?_
    refine H.kb 0 (fun b => ((!b) == false)) (b := (brkO st q u s c)) (d := false) (by (first | assumption | omega | exact weight4 | exact (brk_of.1 (by assumption)).2)) (by kernel_rfl) ?_
    refine H.lf (f := Prod.fst) 36 (AV.tup [AV.agg [AV.i IntKind.i64 st, AV.i IntKind.i64 q, AV.i IntKind.i64 u, AV.v (Value.float FloatKind.f64 s), AV.i IntKind.i64 c], AV.b true]) (by kernel_rfl) ?_
    first | exact key _ _ _ _ _ rfl hs | exact key _ _ _ _ _ rfl (nl _ (by assumption) (by decide)) | exact key _ _ _ _ _ rfl (by decide) | exact key st q u s c (by rw [beq_self_eq_true]) hs
   ·
    refine H.se 1 (fun b => b) (wi d 6) (1) (by kernel_rfl) (fun h3 => ?_) (fun h3 => ?_)
    ·
     refine H.kd 26 (fun b => b) (s < 18446744073709551616) (by (first | assumption | omega | exact weight4 | exact (brk_of.1 (by assumption)).2)) (by kernel_rfl) ?_
     refine H.kb 0 (fun b => ((!b) == false)) (b := (brkO st q u s c)) (d := false) (by (first | assumption | omega | exact weight4 | exact (brk_of.1 (by assumption)).2)) (by kernel_rfl) ?_
     refine H.lf (f := Prod.fst) 72 (AV.tup [AV.agg [AV.i IntKind.i64 st, AV.i IntKind.i64 q, AV.i IntKind.i64 u, AV.v (Value.float FloatKind.f64 s), AV.i IntKind.i64 c], AV.b true]) (by kernel_rfl) ?_
     first | exact key _ _ _ _ _ rfl hs | exact key _ _ _ _ _ rfl (nl _ (by assumption) (by decide)) | exact key _ _ _ _ _ rfl (by decide) | exact key st q u s c (by rw [beq_self_eq_true]) hs
    ·
     refine H.se 1 (fun b => b) (wi d 6) (2) (by kernel_rfl) (fun h4 => ?_) (fun h4 => ?_)
     ·
      refine H.kd 25 (fun b => b) (s < 18446744073709551616) (by (first | assumption | omega | exact weight4 | exact (brk_of.1 (by assumption)).2)) (by kernel_rfl) ?_
      refine H.kb 0 (fun b => ((!b) == false)) (b := (brkO st q u s c)) (d := false) (by (first | assumption | omega | exact weight4 | exact (brk_of.1 (by assumption)).2)) (by kernel_rfl) ?_
      refine H.lf (f := Prod.fst) 72 (AV.tup [AV.agg [AV.i IntKind.i64 st, AV.i IntKind.i64 q, AV.i IntKind.i64 u, AV.v (Value.float FloatKind.f64 s), AV.i IntKind.i64 c], AV.b true]) (by kernel_rfl) ?_
      first | exact key _ _ _ _ _ rfl hs | exact key _ _ _ _ _ rfl (nl _ (by assumption) (by decide)) | exact key _ _ _ _ _ rfl (by decide) | exact key st q u s c (by rw [beq_self_eq_true]) hs
     ·
      refine H.kd 22 (fun b => b) (s < 18446744073709551616) (by (first | assumption | omega | exact weight4 | exact (brk_of.1 (by assumption)).2)) (by kernel_rfl) ?_
      refine H.kb 0 (fun b => (b == true)) (b := (brkO st q u s c)) (d := false) (by (first | assumption | omega | exact weight4 | exact (brk_of.1 (by assumption)).2)) (by kernel_rfl) ?_
      refine H.kd 22 (fun b => b) (s < 18446744073709551616) (by (first | assumption | omega | exact weight4 | exact (brk_of.1 (by assumption)).2)) (by kernel_rfl) ?_
      refine H.kb 0 (fun b => ((!b) == false)) (b := (brkO st q u s c)) (d := false) (by (first | assumption | omega | exact weight4 | exact (brk_of.1 (by assumption)).2)) (by kernel_rfl) ?_
      refine H.lf (f := Prod.fst) 79 (AV.tup [AV.agg [AV.i IntKind.i64 st, AV.i IntKind.i64 q, AV.i IntKind.i64 u, AV.v (Value.float FloatKind.f64 s), AV.i IntKind.i64 c], AV.b true]) (by kernel_rfl) ?_
      first | exact key _ _ _ _ _ rfl hs | exact key _ _ _ _ _ rfl (nl _ (by assumption) (by decide)) | exact key _ _ _ _ _ rfl (by decide) | exact key st q u s c (by rw [beq_self_eq_true]) hs
noncomputable def r43 (st q u : Int) (s : Nat) (c : Int) (d now fails pause : Int) (ok : Bool) (fl : Int) : BR :=
  opq (if h : s < 18446744073709551616 then Classical.choose (step43 st q u s c d now fails pause ok fl h) else (0, 0, 0, 0, 0))
theorem r43_lt {st q u : Int} {s : Nat} {c : Int} {d now fails pause : Int} {ok : Bool} {fl : Int} (h : s < 18446744073709551616) : (r43 st q u s c d now fails pause ok fl).2.2.2.1 < 18446744073709551616 := by
  unfold r43; rw [opq_eq, dif_pos h]; exact (Classical.choose_spec (step43 st q u s c d now fails pause ok fl h)).1
theorem r43_H {st q u : Int} {s : Nat} {c : Int} {d now fails pause : Int} {ok : Bool} {fl : Int} (h : s < 18446744073709551616) : H (ev S9 5 43 [.agg [iv st, iv q, iv u, fv s, iv c], .agg [iv d, iv now, iv fails, iv pause, .b ok, .i .u64 fl]] mem0) (fun y => y.1 = .tup [agB (r43 st q u s c d now fails pause ok fl), .b true]) (fun _ _ => False) := by
  unfold r43; rw [opq_eq, dif_pos h]; exact (Classical.choose_spec (step43 st q u s c d now fails pause ok fl h)).2
noncomputable def g43 : List AV → T AV
  | [.agg [.i .i64 st, .i .i64 q, .i .i64 u, .v (.float .f64 s), .i .i64 c], .agg [.i .i64 d, .i .i64 now, .i .i64 fails, .i .i64 pause, .b ok, .i .u64 fl]] => .br (decide (s < 18446744073709551616)) (.ret (.tup [agB (r43 st q u s c d now fails pause ok fl), .b true])) .fail
  | _ => .fail
theorem c43 : Ctr S9 43 g43 := by
  intro args Q h
  unfold g43 at h
  split at h
  · obtain ⟨hs, h⟩ := br_ok h
    have hs := of_decide_eq_true hs
    refine ⟨rfl, (r43_H hs).mono fun y hy => ?_⟩
    have hy : y.1 = _ := hy
    show plainA y.1 = true ∧ Q y.1
    rw [hy]; exact ⟨rfl, h⟩
  · exact h.elim
noncomputable def S10 : Sp := fun n => bif2 (Nat.beq n 43) (some (treeS g43)) (S9 n)
theorem s10 (N : Nat) : SOk Try.prog N S10 := sctr (s9 N) (s9 N) c43
end Go.Proofs.TabH
