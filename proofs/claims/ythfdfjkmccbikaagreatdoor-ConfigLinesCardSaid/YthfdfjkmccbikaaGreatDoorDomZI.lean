/- Whether a domain may be, at the domains that occur, proved by the evaluator and the kit's walk; each names its conditions. -/
import Derived.Test.YthfdfjkmccbikaaGreatDoorDomZ
set_option linter.all false
set_option linter.deprecated false
set_option maxRecDepth 1000000
set_option maxHeartbeats 4000000
namespace Go.Proofs.TabZ
open Go Go.Eng Go.RowKit Go.Shelf
attribute [local go_sem] Oper.semAt_some
abbrev pv (b : Nat) : Value := .pointer (some ⟨b, 0, none⟩)
/-- An iterator's contract, at a loop's beginning. -/
def Iter (n : Nat) (lb : Array Value) (b2 : Nat) (ys : List ByteArray) (w : World) : Prop :=
  ∀ (l : Nat) (J : List ByteArray → World → Prop) (W : World), Below w.heap.size w W →
      (∀ s W W', J s W → Below W.heap.size W W' → J s W') → (∀ s W v, J s W → J s (W.setCell ⟨b2, 0, none⟩ v)) →
      (∀ pre x W1, x ∈ ys → J pre W1 → pre.length < ys.length → YieldAt Fence.wide (n - 1 - 1) Tryz.prog l #[Value.string x] W1 fun e W' => e = .returned (.bool true) ∧ J (pre ++ [x]) W' ∧ Below w.heap.size W1 W') →
      J [] W → CallsIn Fence.wide (n - 1) Tryz.prog 101 (#[.func (.yield l) #[] #[]] ++ lb) W fun e W' => (∃ v, e = .returned v) ∧ ∃ xs, xs = ys ∧ J xs W'
theorem iter_one {n : Nat} (hn : 4 ≤ n) {s : ByteArray} (hi : ∀ W, Calls Tryz.prog 71 #[.string s, .string dotS] W fun e W' => e = .returned (.int .i64 (-1)) ∧ Below W.heap.size W W')
    {bp bs bv : Nat} {w : World} (hcp : w.cell? ⟨bp, 0, none⟩ = some (.string dotS)) (hcs : w.cell? ⟨bs, 0, none⟩ = some (.string s)) (hlp : bp < w.heap.size) (hls : bs < w.heap.size) :
    Iter n #[pv bp, pv bs, pv bv] bs [s] w := by
  intro l J W hW hJ1 hJ2 hY h0
  refine callsIn_of_wp Tryz.func101 rfl trivial ?_ rfl
  simp only [Tryz.ntmps101, List.size_toArray, List.length_cons, List.length_nil, Nat.reduceAdd, Nat.reduceSub, Array.replicate_succ, Array.replicate_zero, List.push_toArray, List.append_toArray, List.nil_append, List.cons_append]
  have hp1 : W.cell? ⟨bp, 0, none⟩ = some (.string dotS) := (hW.cell hlp).trans hcp
  have hs1 : W.cell? ⟨bs, 0, none⟩ = some (.string s) := (hW.cell hls).trans hcs
  have hn1 : 1 ≤ n - 1 := by omega
  have hn2 : 1 ≤ n - 1 - 1 := by omega
  have hlW : bs < W.heap.size := Nat.lt_of_lt_of_le hls hW.size
  gi_wp2
  refine wpIn_loop_rounds 1 ?_
  rw [roundsIn_succ]
  gi_wp2
  refine ⟨trivial, ?_⟩
  refine CallsIn.mono (callsIn_wide.2 (hi W)) ?_
  rintro e w' ⟨rfl, hb⟩
  have hs2 : w'.cell? ⟨bs, 0, none⟩ = some (.string s) := (hb.cell hlW).trans hs1
  obtain ⟨fn, tmps, assign, body, hy, hR⟩ := hY [] s w' (by simp) (hJ1 _ _ _ h0 hb) (by simp)
  gi_wp2
  refine hR.mono ?_
  rintro e W2 ⟨rfl, hJ, _⟩
  gi_wp2
  go_end0
  exact ⟨⟨_, rfl⟩, [s], rfl, hJ⟩
theorem iter_two {n : Nat} (hn : 4 ≤ n) {s : ByteArray} {i : Nat} (hi : ∀ W, Calls Tryz.prog 71 #[.string s, .string dotS] W fun e W' => e = .returned (.int .i64 i) ∧ Below W.heap.size W W')
    (hlen : i + 1 ≤ s.size) (hsz : s.size ≤ 1000) (hi2 : ∀ W, Calls Tryz.prog 71 #[.string (s.extract (i + 1) s.size), .string dotS] W fun e W' => e = .returned (.int .i64 (-1)) ∧ Below W.heap.size W W')
    {bp bs bv : Nat} {w : World} (hcp : w.cell? ⟨bp, 0, none⟩ = some (.string dotS)) (hcs : w.cell? ⟨bs, 0, none⟩ = some (.string s)) (hcv : w.cell? ⟨bv, 0, none⟩ = some (.int .i64 0)) (hlp : bp < w.heap.size) (hls : bs < w.heap.size) (hlv : bv < w.heap.size)
    (hfs : w.frozen? ⟨bs, 0, none⟩ = false) (hps : bp ≠ bs) :
    Iter n #[pv bp, pv bs, pv bv] bs [s.extract 0 i, s.extract (i + 1) s.size] w := by
  intro l J W hW hJ1 hJ2 hY h0
  refine callsIn_of_wp Tryz.func101 rfl trivial ?_ rfl
  simp only [Tryz.ntmps101, List.size_toArray, List.length_cons, List.length_nil, Nat.reduceAdd, Nat.reduceSub, Array.replicate_succ, Array.replicate_zero, List.push_toArray, List.append_toArray, List.nil_append, List.cons_append]
  have hp1 : W.cell? ⟨bp, 0, none⟩ = some (.string dotS) := (hW.cell hlp).trans hcp
  have hs1 : W.cell? ⟨bs, 0, none⟩ = some (.string s) := (hW.cell hls).trans hcs
  have hv1 : W.cell? ⟨bv, 0, none⟩ = some (.int .i64 0) := (hW.cell hlv).trans hcv
  have hf1 : W.frozen? ⟨bs, 0, none⟩ = false := (hW.frozen hls).trans hfs
  have hn1 : 1 ≤ n - 1 := by omega
  have hn2 : 1 ≤ n - 1 - 1 := by omega
  have hlW : bs < W.heap.size := Nat.lt_of_lt_of_le hls hW.size
  have hpW : bp < W.heap.size := Nat.lt_of_lt_of_le hlp hW.size
  have hvW : bv < W.heap.size := Nat.lt_of_lt_of_le hlv hW.size
  gi_wp2
  refine wpIn_loop_rounds 2 ?_
  rw [roundsIn_succ]
  gi_wp2
  refine ⟨trivial, ?_⟩
  refine CallsIn.mono (callsIn_wide.2 (hi W)) ?_
  rintro e w' ⟨rfl, hb⟩
  have hs2 : w'.cell? ⟨bs, 0, none⟩ = some (.string s) := (hb.cell hlW).trans hs1
  have hp2 : w'.cell? ⟨bp, 0, none⟩ = some (.string dotS) := (hb.cell hpW).trans hp1
  have hv2 : w'.cell? ⟨bv, 0, none⟩ = some (.int .i64 0) := (hb.cell hvW).trans hv1
  have hf2 : w'.frozen? ⟨bs, 0, none⟩ = false := (hb.frozen hlW).trans hf1
  obtain ⟨fn, tmps, assign, body, hy, hR⟩ := hY [] (s.extract 0 i) w' (by simp) (hJ1 _ _ _ h0 hb) (by simp)
  gi_wp2
  refine hR.mono ?_
  rintro e W2 ⟨rfl, hJ, hk⟩
  have hs3 : W2.cell? ⟨bs, 0, none⟩ = some (.string s) := (hk.cell hls).trans hs2
  have hp3 : W2.cell? ⟨bp, 0, none⟩ = some (.string dotS) := (hk.cell hlp).trans hp2
  have hv3 : W2.cell? ⟨bv, 0, none⟩ = some (.int .i64 0) := (hk.cell hlv).trans hv2
  have hf3 : W2.frozen? ⟨bs, 0, none⟩ = false := (hk.frozen hls).trans hf2
  gi_wp2
  have hJ3 : J [s.extract 0 i] (W2.setCell ⟨bs, 0, none⟩ (.string (s.extract (i + 1) s.size))) := hJ2 _ _ _ hJ
  have hb3 : Below bs W2 (W2.setCell ⟨bs, 0, none⟩ (.string (s.extract (i + 1) s.size))) := (Below.refl _ _).setCell (p := ⟨bs, 0, none⟩) (Nat.le_refl _) _
  have hs4 : (W2.setCell ⟨bs, 0, none⟩ (.string (s.extract (i + 1) s.size))).cell? ⟨bs, 0, none⟩ = some (.string (s.extract (i + 1) s.size)) := World.cell?_setCell_same' _ _ _ (by rw [hs3]; rfl)
  have hp4 : (W2.setCell ⟨bs, 0, none⟩ (.string (s.extract (i + 1) s.size))).cell? ⟨bp, 0, none⟩ = some (.string dotS) := (World.cell?_of_block (Below.heap_setCell _ _ _ _ hps)).trans hp3
  have hz4 : (W2.setCell ⟨bs, 0, none⟩ (.string (s.extract (i + 1) s.size))).heap.size = W2.heap.size := by simp [World.setCell]
  have hl4 : bs < (W2.setCell ⟨bs, 0, none⟩ (.string (s.extract (i + 1) s.size))).heap.size := by rw [hz4]; exact Nat.lt_of_lt_of_le hlW (Nat.le_trans hb.size hk.size)
  generalize W2.setCell ⟨bs, 0, none⟩ (.string (s.extract (i + 1) s.size)) = W3 at hJ3 hb3 hs4 hp4 hz4 hl4 ⊢
  rw [roundsIn_succ]
  gi_wp2
  refine ⟨trivial, ?_⟩
  refine CallsIn.mono (callsIn_wide.2 (hi2 W3)) ?_
  rintro e w4 ⟨rfl, hb4⟩
  have hs5 : w4.cell? ⟨bs, 0, none⟩ = some (.string (s.extract (i + 1) s.size)) := (hb4.cell hl4).trans hs4
  obtain ⟨fn2, tmps2, assign2, body2, hy2, hR2⟩ := hY [s.extract 0 i] (s.extract (i + 1) s.size) w4 (by simp) (hJ1 _ _ _ hJ3 hb4) (by simp)
  gi_wp2
  refine hR2.mono ?_
  rintro e W5 ⟨rfl, hJ5, _⟩
  gi_wp2
  go_end0
  exact ⟨⟨_, rfl⟩, _, rfl, hJ5⟩
end Go.Proofs.TabZ
