/- Whether a domain may be, at the domains that occur, proved by the evaluator and the kit's walk; each names its conditions. -/
import Derived.Test.YthfdfjkmccbikaaGreatDoorDomZJ
import Derived.Test.YthfdfjkmccbikaaGreatDoorEngMd
set_option linter.all false
set_option linter.deprecated false
set_option maxRecDepth 1000000
set_option maxHeartbeats 4000000
namespace Go.Eng
open Go Go.RowKit
/-- A function that lays new blocks alone. -/
theorem sOk_below {P : Program} {N : NB} {R : Nat → Option (List AV → Mem → T (AV × Mem))} (hR : SOk P N R) {n : Nat} {fn : Func} {c : Code} (hf : P.funcs[n]? = some fn) (hb : fn.body = some c) (hname : (fn.name == "runtime.NumGoroutine") = false) {g : List AV → T AV}
    (h : ∀ args Q, (g args).holds Q (fun _ _ => False) → ∀ φ zs, AVsRel φ args zs → ∀ w, Calls P n zs.toArray w fun e w' => (∃ v x, e = .returned v ∧ Q x ∧ ∀ φ, AVRel φ x v) ∧ Below w.heap.size w w') :
    SOk P N (fun f => bif2 (Nat.beq f n) (some (treeS g)) (R f)) := by
  intro f s hs args M Q Qp hq
  simp only [bif2_eq] at hs
  split at hs
  · rename_i hfn
    obtain rfl : f = n := Nat.eq_of_beq_eq_true hfn
    cases hs
    have hq' : (g args).holds (fun v => Q (v, M)) (fun _ _ => False) := by
      unfold treeS at hq
      rw [T.holds_bind] at hq
      exact T.nopan_ok hq
    refine .inl ⟨⟨fn, c, hf, hb, hname⟩, fun φ w zs hr hz => (h args _ hq' φ zs hz w).mono ?_⟩
    rintro e w' ⟨⟨v, x, rfl, h2, h3⟩, hB⟩
    refine .inl ⟨v, rfl, φ, x, M, h2, h3 φ, hr.same hB.block hB.size, ⟨.refl _, fun _ _ => rfl, Nat.le_refl _, rfl, hB.os, hB.tape, hB.output, hB.size, fun b hb _ => hB.block b hb, fun id p h h' _ => ⟨id, p, h, h', rfl, fun h => h⟩⟩⟩
  · exact hR f s hs args M Q Qp hq
end Go.Eng
namespace Go.Proofs.TabZ
open Go Go.Eng Go.RowKit
/-- The domains that occur. -/
def one1 (n : UInt8) : ByteArray := ⟨#[n]⟩
def hx : ByteArray := ⟨#[104, 46, 120]⟩
abbrev run9 (f : Nat) (args : List AV) (v : AV) : Prop := H (ev Sx 9 f args mem0) (fun x => x.1 = v) (fun _ _ => False)
theorem rn {f : Nat} {args : List AV} {v : AV} (h : T.leafE Prod.fst (T.skip 20000 (ev Sx 9 f args mem0)) = some v) : run9 f args v := H.lf (Q := fun x : AV => x = v) (f := Prod.fst) 20000 v h rfl
theorem toC {f : Nat} {args : List AV} {zs : List Value} {v : AV} {y : Value} (h : run9 f args v) (hS : Sx f = none) (hz : ∀ φ, AVsRel φ args zs) (hv : ∀ φ z, AVRel φ v z → z = y) (W : World) : Calls Tryz.prog f zs.toArray W fun e W' => e = .returned y ∧ Below W.heap.size W W' := calls_of_run sx hS hz hv h W
theorem vb (b : Bool) : ∀ (φ : Phi) (z : Value), AVRel φ (.b b) z → z = .bool b := fun φ z h => by cases h; rfl
theorem vi (n : Int) : ∀ (φ : Phi) (z : Value), AVRel φ (iv n) z → z = .int .i64 n := fun φ z h => by cases h; rfl
theorem z1 (s : ByteArray) : ∀ φ, AVsRel φ [.s s] [.string s] := fun φ => .cons (.s _) .nil
theorem z2 (s t : ByteArray) : ∀ φ, AVsRel φ [.s s, .s t] [.string s, .string t] := fun φ => .cons (.s _) (.cons (.s _) .nil)
theorem boxed_cells (s : ByteArray) (w : World) : (boxed s w).cell? ⟨w.heap.size, 0, none⟩ = some (.string s) ∧ (boxed s w).cell? ⟨w.heap.size + 1, 0, none⟩ = some (.string dotS) ∧ (boxed s w).cell? ⟨w.heap.size + 2, 0, none⟩ = some (.int .i64 0) ∧ (boxed s w).frozen? ⟨w.heap.size, 0, none⟩ = false ∧ (boxed s w).heap.size = w.heap.size + 3 := by
  have hs1 : (w.alloc (.cells #[.string s] 9)).heap.size = w.heap.size + 1 := World.size_alloc ..
  have hs2 : ((w.alloc (.cells #[.string s] 9)).alloc (.cells #[.string dotS] 9)).heap.size = w.heap.size + 2 := by rw [World.size_alloc, hs1]
  have h0 : (boxed s w).heap[w.heap.size]? = some (.cells #[.string s] 9 (0, 0)) := ((Below.heap_alloc _ _ _ (by omega)).trans (Below.heap_alloc _ _ _ (by omega))).trans (World.alloc_heap_new w _)
  have h1 : (boxed s w).heap[w.heap.size + 1]? = some (.cells #[.string dotS] 9 (0, 0)) := by
    refine (Below.heap_alloc _ _ _ (by omega)).trans ?_
    have := World.alloc_heap_new (w.alloc (.cells #[.string s] 9)) (.cells #[.string dotS] 9); rwa [hs1] at this
  have h2 : (boxed s w).heap[w.heap.size + 2]? = some (.cells #[.int .i64 0] 3 (0, 0)) := by
    have := World.alloc_heap_new ((w.alloc (.cells #[.string s] 9)).alloc (.cells #[.string dotS] 9)) (.cells #[.int .i64 0] 3); rwa [hs2] at this
  refine ⟨by simp [World.cell?, h0], by simp [World.cell?, h1], by simp [World.cell?, h2], by simp [World.frozen?, h0], ?_⟩
  unfold boxed; rw [World.size_alloc, hs2]

theorem dom_two {s : ByteArray} (i : Nat) (hsz : s.size ≤ 255) (hi : i + 1 ≤ s.size) (h0 : run9 45 [.s s] (.b false)) (h1 : run9 61 [.s (s.extract 0 i)] (.b true)) (h2 : run9 61 [.s (s.extract (i + 1) s.size)] (.b true)) (h3 : run9 71 [.s s, .s dotS] (iv i)) (h4 : run9 71 [.s (s.extract (i + 1) s.size), .s dotS] (iv (-1))) (w : World) :
    Calls Tryz.prog 44 #[.string s] w fun e w' => e = .returned (.bool true) ∧ Below w.heap.size w w' := by
  refine dom_calls (xs := [s.extract 0 i, s.extract (i + 1) s.size]) hsz (toC h0 rfl (z1 s) (vb _)) (fun x hx' => ?_) (fun n w hn => ?_) w
  · simp only [List.mem_cons, List.not_mem_nil, or_false] at hx'
    rcases hx' with rfl | rfl
    · exact toC h1 rfl (z1 _) (vb _)
    · exact toC h2 rfl (z1 _) (vb _)
  · obtain ⟨c0, c1, c2, c3, c4⟩ := boxed_cells s w
    exact iter_two hn (i := i) (toC h3 rfl (z2 s dotS) (vi _)) hi (by omega) (toC h4 rfl (z2 _ dotS) (vi _)) c1 c0 c2 (by omega) (by omega) (by omega) c3 (by omega)
def abc : ByteArray := ⟨#[97, 45, 98, 46, 99]⟩
def brk : ByteArray := ⟨#[91, 49, 46, 50, 46, 51, 46, 52, 93]⟩
def inn : ByteArray := ⟨#[49, 46, 50, 46, 51, 46, 52]⟩
theorem dom_hx (w : World) : Calls Tryz.prog 44 #[.string hx] w fun e w' => e = .returned (.bool true) ∧ Below w.heap.size w w' :=
  dom_two 1 (by decide +kernel) (by decide +kernel) (rn (by kernel_rfl)) (rn (by kernel_rfl)) (rn (by kernel_rfl)) (rn (by kernel_rfl)) (rn (by kernel_rfl)) w
theorem dom_abc (w : World) : Calls Tryz.prog 44 #[.string abc] w fun e w' => e = .returned (.bool true) ∧ Below w.heap.size w w' :=
  dom_two 3 (by decide +kernel) (by decide +kernel) (rn (by kernel_rfl)) (rn (by kernel_rfl)) (rn (by kernel_rfl)) (rn (by kernel_rfl)) (rn (by kernel_rfl)) w
end Go.Proofs.TabZ
