/- What stays of the library's tables, and how many digits a number has at the numbers that occur; each names its conditions. -/
import Derived.Test.YtnaipikembnamaaDoorRows
import Derived.WalkKit
import Derived.Lib.LaidTab
import Derived.Lib.LaidU8
import Derived.WalkSpells
import Derived.WalkLawsBesides
import Derived.Laws.Bits64b
import Derived.Lib.TrailingZeros
import Derived.Test.YtnaipikembnamaaDoorDomE
set_option linter.all false
set_option linter.deprecated false
set_option maxRecDepth 1000000
set_option maxHeartbeats 4000000
namespace Go.Proofs.TabE
open Go Go.Eng Go.RowKit
/-- The powers of ten that the library keeps. -/
def tabP : List Int := [1, 10, 100, 1000, 10000, 100000, 1000000, 10000000, 100000000, 1000000000, 10000000000, 100000000000, 1000000000000, 10000000000000, 100000000000000, 1000000000000000, 10000000000000000, 100000000000000000, 1000000000000000000, 10000000000000000000]
def tab64 : List Int := Lib.deBruijn64tab.map Int.ofNat
/-- The cells that stay: two tables, and what two error variables hold. -/
def glE (s r : Value) (b off : Nat) : Option Value :=
  if b = 1 then (tab64[off]?).map (Value.int .u8) else if b = 2 then (tabP[off]?).map (Value.int .u64) else if b = 4 then (if off = 0 then some s else none) else if b = 5 then (if off = 0 then some r else none) else none
abbrev nE (s r : Value) (k : Nat) : NB := ⟨k, glE s r⟩
theorem cell_lt {w : World} {a : Addr} {v : Value} (h : w.cell? a = some v) : a.block < w.heap.size := by
  rcases Nat.lt_or_ge a.block w.heap.size with h1 | h1
  · exact h1
  · unfold World.cell? at h
    rw [Array.getElem?_eq_none h1] at h
    simp at h
attribute [local go_sem] Oper.semAt_some
/-- How many digits a number has. -/
theorem nd_calls {x p r l : Int} {t : Nat} {b : Bool} {d : Int} (h1 : run9 46 [.i .u64 x] (iv l)) (h2 : run9 45 [iv l] (iv t)) (h3 : run9 47 [.b b] (iv d)) (ht : t < 20) (hb : decide (x ≥ p) = b) (hr : IntKind.i64.wrap ((t : Int) + d) = r) (w : World) (hcell : w.cell? ⟨2, t, none⟩ = some (.int .u64 p)) :
    Calls Tryd.prog 34 #[.int .u64 x] w fun e w' => e = .returned (.int .i64 r) ∧ Below w.heap.size w w' := by
  have c1 : ∀ W, Calls Tryd.prog 46 #[.int .u64 x] W fun e W' => e = .returned (.int .i64 l) ∧ Below W.heap.size W W' := toC h1 rfl (fun φ => .cons (.i _ _) .nil) (vi _)
  have c2 : ∀ W, Calls Tryd.prog 45 #[.int .i64 l] W fun e W' => e = .returned (.int .i64 t) ∧ Below W.heap.size W W' := toC h2 rfl (fun φ => .cons (.i _ _) .nil) (vi _)
  have c3 : ∀ W, Calls Tryd.prog 47 #[.bool b] W fun e W' => e = .returned (.int .i64 d) ∧ Below W.heap.size W W' := toC h3 rfl (fun φ => .cons (.b _) .nil) (vi _)
  have hl2 : 2 < w.heap.size := cell_lt hcell
  refine (callsIn_wide (n := 6)).1 ?_
  refine callsIn_of_wp Tryd.func34 rfl trivial ?_ rfl
  simp only [Tryd.ntmps34, List.size_toArray, List.length_cons, List.length_nil, Nat.reduceAdd, Nat.reduceSub, Array.replicate_succ, Array.replicate_zero, List.push_toArray, List.append_toArray, List.nil_append, List.cons_append]
  gi_wp2
  refine ⟨trivial, ?_⟩
  refine CallsIn.mono (callsIn_wide.2 (c1 w)) ?_
  rintro e w1 ⟨rfl, hb1⟩
  gi_wp2
  refine ⟨trivial, ?_⟩
  refine CallsIn.mono (callsIn_wide.2 (c2 w1)) ?_
  rintro e w2 ⟨rfl, hb2⟩
  have hB : Below w.heap.size w w2 := hb1.trans (hb2.mono hb1.size)
  have hc2 : w2.cell? ⟨2, t, none⟩ = some (.int .u64 p) := (hB.cell hl2).trans hcell
  have ht1 : ¬ ((t : Int) < 0) := by omega
  have ht2 : (t : Int) < 20 := by omega
  gi_wp2
  refine ⟨trivial, ?_⟩
  refine CallsIn.mono (callsIn_wide.2 (c3 w2)) ?_
  rintro e w3 ⟨rfl, hb3⟩
  gi_wp2
  go_ret
  exact ⟨by rw [← hr]; rfl, hB.trans (hb3.mono hB.size)⟩
/-- A function that lays new blocks alone, and reads what stays. -/
theorem sOk_belowG {P : Program} {N : NB} {R : Nat → Option (List AV → Mem → T (AV × Mem))} (hR : SOk P N R) {n : Nat} {fn : Func} {c : Code} (hf : P.funcs[n]? = some fn) (hb : fn.body = some c) (hname : (fn.name == "runtime.NumGoroutine") = false) {g : List AV → T AV}
    (h : ∀ args Q, (g args).holds Q (fun _ _ => False) → ∀ φ zs, AVsRel φ args zs → ∀ w, Glob N w → Calls P n zs.toArray w fun e w' => (∃ v x, e = .returned v ∧ Q x ∧ ∀ φ, AVRel φ x v) ∧ Below w.heap.size w w') :
    SOk P N (fun f => bif2 (Nat.beq f n) (some (treeS g)) (R f)) := by
  intro f s hs args M Q Qp hq
  simp only [bif2_eq] at hs
  split at hs
  · rename_i hfn
    obtain rfl : f = n := Nat.eq_of_beq_eq_true hfn
    cases hs
    have hq' : (g args).holds (fun v => Q (v, M)) (fun _ _ => False) := by
      unfold treeS at hq
      rw [T.holds_bind] at hq
      exact T.nopan_ok hq
    refine .inl ⟨⟨fn, c, hf, hb, hname⟩, fun φ w zs hr hz => (h args _ hq' φ zs hz w hr.glob).mono ?_⟩
    rintro e w' ⟨⟨v, x, rfl, h2, h3⟩, hB⟩
    refine .inl ⟨v, rfl, φ, x, M, h2, h3 φ, hr.same hB.block hB.size, ⟨.refl _, fun _ _ => rfl, Nat.le_refl _, rfl, hB.os, hB.tape, hB.output, hB.size, fun b hb _ => hB.block b hb, fun id p h h' _ => ⟨id, p, h, h', rfl, fun h => h⟩⟩⟩
  · exact hR f s hs args M Q Qp hq
noncomputable def g34 : List AV → T AV
  | [.i .u64 x] => .br (x == 971) (.ret (iv 3)) (.br (x == 1022) (.ret (iv 4)) (.br (x == 1074) (.ret (iv 4)) (.br (x == 4503599627370495) (.ret (iv 16)) (.br (x == 9007199254740991) (.ret (iv 16)) (.fail)))))
  | _ => .fail
theorem s34 {s r : Value} {k : Nat} {R : Sp} (hR : SOk Tryd.prog (nE s r k) R) : SOk Tryd.prog (nE s r k) (fun f => bif2 (Nat.beq f 34) (some (treeS g34)) (R f)) := by
  refine sOk_belowG hR Tryd.func34 rfl (by kernel_rfl) ?_
  intro args Q h φ zs hz w hg
  unfold g34 at h
  split at h
  · rename_i x
    cases hz with
    | cons h1 h2 =>
      cases h2
      cases h1
      obtain ⟨a, b⟩ := h
      cases e : (x == 971) with
      | true =>
        obtain rfl : x = 971 := eq_of_beq e
        exact (nd_calls (l := 10) (t := 3) (p := 1000) (d := 0) (b := false) (r := 3) (rn (by kernel_rfl)) (rn (by kernel_rfl)) (rn (by kernel_rfl)) (by decide) (by decide) (by decide) w (hg 2 3 _ rfl).2).mono fun e W ⟨he, hB⟩ => ⟨⟨_, _, he, a rfl, fun _ => .i _ _⟩, hB⟩
      | false =>
        obtain ⟨a, b⟩ := b e
        cases e : (x == 1022) with
        | true =>
          obtain rfl : x = 1022 := eq_of_beq e
          exact (nd_calls (l := 10) (t := 3) (p := 1000) (d := 1) (b := true) (r := 4) (rn (by kernel_rfl)) (rn (by kernel_rfl)) (rn (by kernel_rfl)) (by decide) (by decide) (by decide) w (hg 2 3 _ rfl).2).mono fun e W ⟨he, hB⟩ => ⟨⟨_, _, he, a rfl, fun _ => .i _ _⟩, hB⟩
        | false =>
          obtain ⟨a, b⟩ := b e
          cases e : (x == 1074) with
          | true =>
            obtain rfl : x = 1074 := eq_of_beq e
            exact (nd_calls (l := 11) (t := 3) (p := 1000) (d := 1) (b := true) (r := 4) (rn (by kernel_rfl)) (rn (by kernel_rfl)) (rn (by kernel_rfl)) (by decide) (by decide) (by decide) w (hg 2 3 _ rfl).2).mono fun e W ⟨he, hB⟩ => ⟨⟨_, _, he, a rfl, fun _ => .i _ _⟩, hB⟩
          | false =>
            obtain ⟨a, b⟩ := b e
            cases e : (x == 4503599627370495) with
            | true =>
              obtain rfl : x = 4503599627370495 := eq_of_beq e
              exact (nd_calls (l := 52) (t := 15) (p := 1000000000000000) (d := 1) (b := true) (r := 16) (rn (by kernel_rfl)) (rn (by kernel_rfl)) (rn (by kernel_rfl)) (by decide) (by decide) (by decide) w (hg 2 15 _ rfl).2).mono fun e W ⟨he, hB⟩ => ⟨⟨_, _, he, a rfl, fun _ => .i _ _⟩, hB⟩
            | false =>
              obtain ⟨a, b⟩ := b e
              cases e : (x == 9007199254740991) with
              | true =>
                obtain rfl : x = 9007199254740991 := eq_of_beq e
                exact (nd_calls (l := 53) (t := 15) (p := 1000000000000000) (d := 1) (b := true) (r := 16) (rn (by kernel_rfl)) (rn (by kernel_rfl)) (rn (by kernel_rfl)) (by decide) (by decide) (by decide) w (hg 2 15 _ rfl).2).mono fun e W ⟨he, hB⟩ => ⟨⟨_, _, he, a rfl, fun _ => .i _ _⟩, hB⟩
              | false =>
                exact (b e).elim
  · exact h.elim
theorem tzKey1 : IntKind.u64.wrap (bits BinOp.and IntKind.u64 ((1 : Int)) (IntKind.u64.wrap (-(1 : Int))) * 285870213051353865) / 288230376151711744 = (0 : Int) := by decide +kernel
set_option maxHeartbeats 1000000 in
theorem tz1 (w : World) (hcell : w.cell? ⟨1, 0, none⟩ = some (.int .u8 0)) :
    Calls Tryd.prog 24 #[.int .u64 1] w fun e w' => e = .returned (.int .i64 0) ∧ w' = w := by
  go_enter Tryd.func24, Tryd.ntmps24
  go_wp2_with (simp only [tzKey1])
  go_ret
  exact ⟨rfl, rfl⟩
theorem tzKey4503599627370495 : IntKind.u64.wrap (bits BinOp.and IntKind.u64 ((4503599627370495 : Int)) (IntKind.u64.wrap (-(4503599627370495 : Int))) * 285870213051353865) / 288230376151711744 = (0 : Int) := by decide +kernel
set_option maxHeartbeats 1000000 in
theorem tz4503599627370495 (w : World) (hcell : w.cell? ⟨1, 0, none⟩ = some (.int .u8 0)) :
    Calls Tryd.prog 24 #[.int .u64 4503599627370495] w fun e w' => e = .returned (.int .i64 0) ∧ w' = w := by
  go_enter Tryd.func24, Tryd.ntmps24
  go_wp2_with (simp only [tzKey4503599627370495])
  go_ret
  exact ⟨rfl, rfl⟩
theorem tzKey9007199254740991 : IntKind.u64.wrap (bits BinOp.and IntKind.u64 ((9007199254740991 : Int)) (IntKind.u64.wrap (-(9007199254740991 : Int))) * 285870213051353865) / 288230376151711744 = (0 : Int) := by decide +kernel
set_option maxHeartbeats 1000000 in
theorem tz9007199254740991 (w : World) (hcell : w.cell? ⟨1, 0, none⟩ = some (.int .u8 0)) :
    Calls Tryd.prog 24 #[.int .u64 9007199254740991] w fun e w' => e = .returned (.int .i64 0) ∧ w' = w := by
  go_enter Tryd.func24, Tryd.ntmps24
  go_wp2_with (simp only [tzKey9007199254740991])
  go_ret
  exact ⟨rfl, rfl⟩
theorem tzKey4503599627370496 : IntKind.u64.wrap (bits BinOp.and IntKind.u64 ((4503599627370496 : Int)) (IntKind.u64.wrap (-(4503599627370496 : Int))) * 285870213051353865) / 288230376151711744 = (44 : Int) := by decide +kernel
set_option maxHeartbeats 1000000 in
theorem tz4503599627370496 (w : World) (hcell : w.cell? ⟨1, 44, none⟩ = some (.int .u8 52)) :
    Calls Tryd.prog 24 #[.int .u64 4503599627370496] w fun e w' => e = .returned (.int .i64 52) ∧ w' = w := by
  go_enter Tryd.func24, Tryd.ntmps24
  go_wp2_with (simp only [tzKey4503599627370496])
  go_ret
  exact ⟨rfl, rfl⟩
theorem tzKey6755399441055744 : IntKind.u64.wrap (bits BinOp.and IntKind.u64 ((6755399441055744 : Int)) (IntKind.u64.wrap (-(6755399441055744 : Int))) * 285870213051353865) / 288230376151711744 = (22 : Int) := by decide +kernel
set_option maxHeartbeats 1000000 in
theorem tz6755399441055744 (w : World) (hcell : w.cell? ⟨1, 22, none⟩ = some (.int .u8 51)) :
    Calls Tryd.prog 24 #[.int .u64 6755399441055744] w fun e w' => e = .returned (.int .i64 51) ∧ w' = w := by
  go_enter Tryd.func24, Tryd.ntmps24
  go_wp2_with (simp only [tzKey6755399441055744])
  go_ret
  exact ⟨rfl, rfl⟩
noncomputable def g24 : List AV → T AV
  | [.i .u64 x] => .br (x == 1) (.ret (iv 0)) (.br (x == 4503599627370495) (.ret (iv 0)) (.br (x == 9007199254740991) (.ret (iv 0)) (.br (x == 4503599627370496) (.ret (iv 52)) (.br (x == 6755399441055744) (.ret (iv 51)) (.fail)))))
  | _ => .fail
theorem s24 {s r : Value} {k : Nat} {R : Sp} (hR : SOk Tryd.prog (nE s r k) R) : SOk Tryd.prog (nE s r k) (fun f => bif2 (Nat.beq f 24) (some (treeS g24)) (R f)) := by
  refine sOk_belowG hR Tryd.func24 rfl (by kernel_rfl) ?_
  intro args Q h φ zs hz w hg
  unfold g24 at h
  split at h
  · rename_i x
    cases hz with
    | cons h1 h2 =>
      cases h2
      cases h1
      obtain ⟨a, b⟩ := h
      cases e : (x == 1) with
      | true =>
        obtain rfl : x = 1 := eq_of_beq e
        exact (tz1 w (hg 1 0 _ rfl).2).mono fun e W ⟨he, hB⟩ => ⟨⟨_, _, he, a rfl, fun _ => .i _ _⟩, hB ▸ Below.refl _ _⟩
      | false =>
        obtain ⟨a, b⟩ := b e
        cases e : (x == 4503599627370495) with
        | true =>
          obtain rfl : x = 4503599627370495 := eq_of_beq e
          exact (tz4503599627370495 w (hg 1 0 _ rfl).2).mono fun e W ⟨he, hB⟩ => ⟨⟨_, _, he, a rfl, fun _ => .i _ _⟩, hB ▸ Below.refl _ _⟩
        | false =>
          obtain ⟨a, b⟩ := b e
          cases e : (x == 9007199254740991) with
          | true =>
            obtain rfl : x = 9007199254740991 := eq_of_beq e
            exact (tz9007199254740991 w (hg 1 0 _ rfl).2).mono fun e W ⟨he, hB⟩ => ⟨⟨_, _, he, a rfl, fun _ => .i _ _⟩, hB ▸ Below.refl _ _⟩
          | false =>
            obtain ⟨a, b⟩ := b e
            cases e : (x == 4503599627370496) with
            | true =>
              obtain rfl : x = 4503599627370496 := eq_of_beq e
              exact (tz4503599627370496 w (hg 1 44 _ rfl).2).mono fun e W ⟨he, hB⟩ => ⟨⟨_, _, he, a rfl, fun _ => .i _ _⟩, hB ▸ Below.refl _ _⟩
            | false =>
              obtain ⟨a, b⟩ := b e
              cases e : (x == 6755399441055744) with
              | true =>
                obtain rfl : x = 6755399441055744 := eq_of_beq e
                exact (tz6755399441055744 w (hg 1 22 _ rfl).2).mono fun e W ⟨he, hB⟩ => ⟨⟨_, _, he, a rfl, fun _ => .i _ _⟩, hB ▸ Below.refl _ _⟩
              | false =>
                exact (b e).elim
  · exact h.elim
end Go.Proofs.TabE
