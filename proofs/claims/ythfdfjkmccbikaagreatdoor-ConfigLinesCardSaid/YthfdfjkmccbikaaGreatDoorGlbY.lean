/- What stays of the library's tables, and how many digits a number has at the numbers that occur; each names its conditions. -/
import Derived.Test.YthfdfjkmccbikaaGreatDoorRows
import Derived.WalkKit
import Derived.Lib.LaidTab
import Derived.Lib.LaidU8
import Derived.Test.YthfdfjkmccbikaaGreatDoorDomZL
set_option linter.all false
set_option linter.deprecated false
set_option maxRecDepth 1000000
set_option maxHeartbeats 4000000
namespace Go.Proofs.TabZ
open Go Go.Eng Go.RowKit
/-- The powers of ten that the library keeps. -/
def tabP : List Int := [1, 10, 100, 1000, 10000, 100000, 1000000, 10000000, 100000000, 1000000000, 10000000000, 100000000000, 1000000000000, 10000000000000, 100000000000000, 1000000000000000, 10000000000000000, 100000000000000000, 1000000000000000000, 10000000000000000000]
/-- The cells that stay: a table, and what two error variables hold. -/
def glY (s r : Value) (b off : Nat) : Option Value :=
  if b = 2 then (tabP[off]?).map (Value.int .u64) else if b = 4 then (if off = 0 then some s else none) else if b = 5 then (if off = 0 then some r else none) else none
abbrev nY (s r : Value) (k : Nat) : NB := ⟨k, glY s r⟩
theorem cell_lt {w : World} {a : Addr} {v : Value} (h : w.cell? a = some v) : a.block < w.heap.size := by
  rcases Nat.lt_or_ge a.block w.heap.size with h1 | h1
  · exact h1
  · unfold World.cell? at h
    rw [Array.getElem?_eq_none h1] at h
    simp at h
attribute [local go_sem] Oper.semAt_some
/-- How many digits a number has. -/
theorem nd_calls {x p r l : Int} {t : Nat} {b : Bool} {d : Int} (h1 : run9 103 [.i .u64 x] (iv l)) (h2 : run9 102 [iv l] (iv t)) (h3 : run9 104 [.b b] (iv d)) (ht : t < 20) (hb : decide (x ≥ p) = b) (hr : IntKind.i64.wrap ((t : Int) + d) = r) (w : World) (hcell : w.cell? ⟨2, t, none⟩ = some (.int .u64 p)) :
    Calls Tryz.prog 84 #[.int .u64 x] w fun e w' => e = .returned (.int .i64 r) ∧ Below w.heap.size w w' := by
  have c1 : ∀ W, Calls Tryz.prog 103 #[.int .u64 x] W fun e W' => e = .returned (.int .i64 l) ∧ Below W.heap.size W W' := toC h1 rfl (fun φ => .cons (.i _ _) .nil) (vi _)
  have c2 : ∀ W, Calls Tryz.prog 102 #[.int .i64 l] W fun e W' => e = .returned (.int .i64 t) ∧ Below W.heap.size W W' := toC h2 rfl (fun φ => .cons (.i _ _) .nil) (vi _)
  have c3 : ∀ W, Calls Tryz.prog 104 #[.bool b] W fun e W' => e = .returned (.int .i64 d) ∧ Below W.heap.size W W' := toC h3 rfl (fun φ => .cons (.b _) .nil) (vi _)
  have hl2 : 2 < w.heap.size := cell_lt hcell
  refine (callsIn_wide (n := 6)).1 ?_
  refine callsIn_of_wp Tryz.func84 rfl trivial ?_ rfl
  simp only [Tryz.ntmps84, List.size_toArray, List.length_cons, List.length_nil, Nat.reduceAdd, Nat.reduceSub, Array.replicate_succ, Array.replicate_zero, List.push_toArray, List.append_toArray, List.nil_append, List.cons_append]
  gi_wp2
  refine ⟨trivial, ?_⟩
  refine CallsIn.mono (callsIn_wide.2 (c1 w)) ?_
  rintro e w1 ⟨rfl, hb1⟩
  gi_wp2
  refine ⟨trivial, ?_⟩
  refine CallsIn.mono (callsIn_wide.2 (c2 w1)) ?_
  rintro e w2 ⟨rfl, hb2⟩
  have hB : Below w.heap.size w w2 := hb1.trans (hb2.mono hb1.size)
  have hc2 : w2.cell? ⟨2, t, none⟩ = some (.int .u64 p) := (hB.cell hl2).trans hcell
  have ht1 : ¬ ((t : Int) < 0) := by omega
  have ht2 : (t : Int) < 20 := by omega
  gi_wp2
  refine ⟨trivial, ?_⟩
  refine CallsIn.mono (callsIn_wide.2 (c3 w2)) ?_
  rintro e w3 ⟨rfl, hb3⟩
  gi_wp2
  go_ret
  exact ⟨by rw [← hr]; rfl, hB.trans (hb3.mono hB.size)⟩
noncomputable def g84 : List AV → T AV
  | [.i .u64 x] => .br (x == 100) (.ret (iv 3)) (.br (x == 2000) (.ret (iv 4)) (.br (x == 1048576) (.ret (iv 7)) .fail))
  | _ => .fail
/-- A function that lays new blocks alone, and reads what stays. -/
theorem sOk_belowG {P : Program} {N : NB} {R : Nat → Option (List AV → Mem → T (AV × Mem))} (hR : SOk P N R) {n : Nat} {fn : Func} {c : Code} (hf : P.funcs[n]? = some fn) (hb : fn.body = some c) (hname : (fn.name == "runtime.NumGoroutine") = false) {g : List AV → T AV}
    (h : ∀ args Q, (g args).holds Q (fun _ _ => False) → ∀ φ zs, AVsRel φ args zs → ∀ w, Glob N w → Calls P n zs.toArray w fun e w' => (∃ v x, e = .returned v ∧ Q x ∧ ∀ φ, AVRel φ x v) ∧ Below w.heap.size w w') :
    SOk P N (fun f => bif2 (Nat.beq f n) (some (treeS g)) (R f)) := by
  intro f s hs args M Q Qp hq
  simp only [bif2_eq] at hs
  split at hs
  · rename_i hfn
    obtain rfl : f = n := Nat.eq_of_beq_eq_true hfn
    cases hs
    have hq' : (g args).holds (fun v => Q (v, M)) (fun _ _ => False) := by
      unfold treeS at hq
      rw [T.holds_bind] at hq
      exact T.nopan_ok hq
    refine .inl ⟨⟨fn, c, hf, hb, hname⟩, fun φ w zs hr hz => (h args _ hq' φ zs hz w hr.glob).mono ?_⟩
    rintro e w' ⟨⟨v, x, rfl, h2, h3⟩, hB⟩
    refine .inl ⟨v, rfl, φ, x, M, h2, h3 φ, hr.same hB.block hB.size, ⟨.refl _, fun _ _ => rfl, Nat.le_refl _, rfl, hB.os, hB.tape, hB.output, hB.size, fun b hb _ => hB.block b hb, fun id p h h' _ => ⟨id, p, h, h', rfl, fun h => h⟩⟩⟩
  · exact hR f s hs args M Q Qp hq
theorem s84 {s r : Value} {k : Nat} {R : Sp} (hR : SOk Tryz.prog (nY s r k) R) : SOk Tryz.prog (nY s r k) (fun f => bif2 (Nat.beq f 84) (some (treeS g84)) (R f)) := by
  refine sOk_belowG hR Tryz.func84 rfl (by kernel_rfl) ?_
  intro args Q h φ zs hz w hg
  unfold g84 at h
  split at h
  · rename_i x
    cases hz with
    | cons h1 h2 =>
      cases h2
      cases h1
      have g2 : w.cell? ⟨2, 2, none⟩ = some (.int .u64 100) := (hg 2 2 _ rfl).2
      have g3 : w.cell? ⟨2, 3, none⟩ = some (.int .u64 1000) := (hg 2 3 _ rfl).2
      have g6 : w.cell? ⟨2, 6, none⟩ = some (.int .u64 1000000) := (hg 2 6 _ rfl).2
      obtain ⟨a, b⟩ := h
      cases e : (x == 100) with
      | true =>
        obtain rfl : x = 100 := eq_of_beq e
        exact (nd_calls (l := 7) (d := 1) (b := true) (r := 3) (rn (by kernel_rfl)) (rn (by kernel_rfl)) (rn (by kernel_rfl)) (by decide) (by decide) (by decide) w g2).mono fun e w' ⟨he, hB⟩ => ⟨⟨_, _, he, a rfl, fun _ => .i _ _⟩, hB⟩
      | false =>
        obtain ⟨a, b⟩ := b e
        cases e : (x == 2000) with
        | true =>
          obtain rfl : x = 2000 := eq_of_beq e
          exact (nd_calls (l := 11) (d := 1) (b := true) (r := 4) (rn (by kernel_rfl)) (rn (by kernel_rfl)) (rn (by kernel_rfl)) (by decide) (by decide) (by decide) w g3).mono fun e w' ⟨he, hB⟩ => ⟨⟨_, _, he, a rfl, fun _ => .i _ _⟩, hB⟩
        | false =>
          obtain ⟨a, b⟩ := b e
          cases e : (x == 1048576) with
          | true =>
            obtain rfl : x = 1048576 := eq_of_beq e
            exact (nd_calls (l := 21) (d := 1) (b := true) (r := 7) (rn (by kernel_rfl)) (rn (by kernel_rfl)) (rn (by kernel_rfl)) (by decide) (by decide) (by decide) w g6).mono fun e w' ⟨he, hB⟩ => ⟨⟨_, _, he, a rfl, fun _ => .i _ _⟩, hB⟩
          | false => exact (b e).elim
  · exact h.elim
end Go.Proofs.TabZ
