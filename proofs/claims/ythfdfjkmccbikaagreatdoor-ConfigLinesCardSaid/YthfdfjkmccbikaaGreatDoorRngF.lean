/- A range over an iterator that writes its own variable: a law about one call; it names its conditions. -/
import Derived.RangeFuncNested
import Derived.RangeFuncBound
import Derived.RangeFuncCalls
import Derived.RangeFuncLeaves
import Derived.Shelf.Abstract
import Derived.Shelf.RegionOpen
import Derived.WalkKit
import Derived.OwnWalkIn
import Derived.TacticsInMore
import Derived.LoopNIn
import Derived.LoopIn
set_option linter.all false
set_option linter.deprecated false
set_option autoImplicit false
namespace Go.Eng
open Go Go.RowKit Go.Shelf
/-! ## A range over an iterator that writes a variable of its own; the body never leaves -/
variable {F : Fence} {n : Nat} {P : Program}
/-- What the loop lies on while no round is under way. -/
def AtRest {α : Type} (I : List α → World → Prop) (d : Nat) (r : Loop) (pre : List α) (W : World) : Prop :=
  I pre W ∧ W.heap[d + 1]? = some (.loop r) ∧ W.heap[d]? = some (.deferred (some []))
theorem range_law {α : Type} {g : Operand} {ps : Array Tmp} {assign body : Code} {Q : Exit → Act → World → Prop} {a : Act} {w : World}
    (hro : F.round = none) (h1 : 1 ≤ n) {gf : Nat} {lb : Array Value} (hg : a.eval g = .func (.func gf) #[] lb) (hFg : F.fn gf) (eg : ∀ args w, (callFunc gf args).run P w = .ok (.enter gf args) w)
    {enc : α → Value} {Ok : α → Prop} {S : List α → Prop} {N b2 : Nat} (hb2 : b2 < w.heap.size) (hps : ps.size = 1)
    (hseq : ∀ (l : Nat) (J : List α → World → Prop) (W : World), Below w.heap.size w W →
      (∀ s W W', J s W → Below W.heap.size W W' → J s W') → (∀ s W v, J s W → J s (W.setCell ⟨b2, 0, none⟩ v)) →
      (∀ pre x W1, Ok x → J pre W1 → pre.length < N → YieldAt F (n - 1 - 1) P l #[enc x] W1 fun e W' => e = .returned (.bool true) ∧ J (pre ++ [x]) W' ∧ Below w.heap.size W1 W') →
      J [] W → CallsIn F (n - 1) P gf (#[.func (.yield l) #[] #[]] ++ lb) W fun e W' => (∃ v, e = .returned v) ∧ ∃ xs, S xs ∧ J xs W')
    (I : List α → World → Prop) (hI1 : ∀ s W W', I s W → w.heap.size ≤ W.heap.size → Below W.heap.size W W' → I s W') (hI2 : ∀ s W l o, I s W → w.heap.size ≤ l → I s (W.putObj l o))
    (hI3 : ∀ s W v, I s W → I s (W.setCell ⟨b2, 0, none⟩ v)) (h0 : I [] w) (a₁ : α → Act)
    (hassign : ∀ (l : Nat) (x : α) (W : World) (K : Act → World → Prop), K (a₁ x) W →
      assign.wpIn (F.inRound l) (n - 1 - 1) P (Exit.then K (fun _ _ _ => False)) { tmps := (ps.zip #[enc x]).foldl (fun t (p, v) => t.setIfInBounds p v) a.tmps, defers := [] } W)
    (hbody : ∀ (l : Nat) (pre : List α) (x : α) (W : World), Ok x → I pre W → w.heap.size ≤ W.heap.size → pre.length < N → body.wpIn (F.inRound l) (n - 1 - 1) P (fun e _ W' => e = .normal ∧ I (pre ++ [x]) W' ∧ Below W.heap.size W W') (a₁ x) W)
    (hdone : ∀ (xs : List α) (W : World), S xs → I xs W → W.heap[w.heap.size]? = some (.deferred (some [])) → Q .normal { a with defers := { target := .collected w.heap.size, args := #[] } :: a.defers } W) :
    (Code.rangeFunc g ps assign body).wpIn F n P Q a w := by
  refine wpIn_rangeFunc fun fn hfn => ?_
  rw [hro]
  let rec0 : LoopState → Option Code → Loop := fun st pe => { state := st, pending := pe, fn, tmps := a.tmps, params := ps, assign, body, defers := w.heap.size }
  let wd : World := w.alloc (.deferred (some []))
  let W1 : World := wd.alloc (.loop (rec0 .ready none))
  have hwd : wd.heap.size = w.heap.size + 1 := World.size_alloc ..
  have hL1 : W1.heap[w.heap.size + 1]? = some (.loop (rec0 .ready none)) := by
    have := World.alloc_heap_new wd (.loop (rec0 .ready none)); rwa [hwd] at this
  have hK1 : W1.heap[w.heap.size]? = some (.deferred (some [])) := (Below.heap_alloc _ _ _ (by omega)).trans (World.alloc_heap_new w _)
  have hBd : Below w.heap.size w wd := (Below.refl _ w).alloc (Nat.le_refl _) _
  have hB1 : Below w.heap.size w W1 := hBd.alloc (by omega) _
  have hI1' : I [] W1 := hI1 _ wd W1 (hI1 _ w wd h0 (Nat.le_refl _) hBd) (by omega) ((Below.refl _ wd).alloc (Nat.le_refl _) _)
  have rest : AtRest I w.heap.size (rec0 .ready none) [] W1 := ⟨hI1', hL1, hK1⟩
  have lt : ∀ {pre : List α} {r : Loop} {W : World}, AtRest I w.heap.size r pre W → w.heap.size + 1 < W.heap.size := fun h => (Array.getElem?_eq_some_iff.1 h.2.1).1
  refine ⟨w.heap.size + 1, [{ target := .collected w.heap.size, args := #[] }], W1, { target := .fn (.func gf) lb, args := #[.func (.yield (w.heap.size + 1)) #[] #[]] }, W1, gf,
    #[.func (.yield (w.heap.size + 1)) #[] #[]] ++ lb, W1, run_enterLoop_outer _ _ _ _ _, ?_, ?_, ?_, fun _ => h1, ?_⟩
  · simp only [resolve, hg]
    simp [go_sem]
  · intro f' hf'; simp [Target.leads] at hf'; subst hf'; exact hFg
  · simp [invoke, go_sem, eg]
  refine (hseq (w.heap.size + 1) (AtRest I w.heap.size (rec0 .ready none)) W1 hB1 ?_ ?_ ?_ rest).mono ?_
  · intro s W W' hs hb
    have hlt := lt hs
    exact ⟨hI1 _ _ _ hs.1 (by omega) hb, (hb.block _ hlt).trans hs.2.1, (hb.block _ (by omega)).trans hs.2.2⟩
  · intro s W v hs
    exact ⟨hI3 _ _ _ hs.1, (Below.heap_setCell _ _ _ _ (by simp only; omega)).trans hs.2.1, (Below.heap_setCell _ _ _ _ (by simp only; omega)).trans hs.2.2⟩
  · -- one round
    intro pre x W hx hs hlen
    obtain ⟨hi, hl, hk⟩ := hs
    have hlt := (Array.getElem?_eq_some_iff.1 hl).1
    have hy := run_yield (P := P) (args := #[enc x]) hl (by simp [rec0, hps])
    have hbusy : (Instr.beginRound (w.heap.size + 1)).run P W = .ok () (W.putObj (w.heap.size + 1) (.loop { rec0 .ready none with state := .busy })) := run_beginRound hl rfl
    refine ⟨fn, _, assign, body, hy, roundIn_of_wpIn hfn (hassign _ x W _ ⟨_, hbusy, ?_⟩)⟩
    have hsz : (W.putObj (w.heap.size + 1) (.loop { rec0 .ready none with state := .busy })).heap.size = W.heap.size := by simp [World.putObj]
    have hl2 : (W.putObj (w.heap.size + 1) (.loop { rec0 .ready none with state := .busy })).heap[w.heap.size + 1]? = some (.loop { rec0 .ready none with state := .busy }) := World.putObj_heap_same hlt
    have hk2 : (W.putObj (w.heap.size + 1) (.loop { rec0 .ready none with state := .busy })).heap[w.heap.size]? = some (.deferred (some [])) := (World.putObj_heap_other (by omega)).trans hk
    have hold : ∀ (V : World) (o : Obj), Below w.heap.size V (V.putObj (w.heap.size + 1) o) := fun V o => ⟨rfl, rfl, rfl, by simp [World.putObj], fun k hk => World.putObj_heap_other (by omega)⟩
    refine wpIn_mono (hbody _ pre x _ hx (hI2 _ _ _ _ hi (by omega)) (by rw [hsz]; omega) hlen) ?_
    rintro e a3 W3 ⟨rfl, hi3, hb3⟩
    rw [hsz] at hb3
    have hl3 := (hb3.block _ hlt).trans hl2
    have hk3 := (hb3.block w.heap.size (by omega)).trans hk2
    have hlt3 := (Array.getElem?_eq_some_iff.1 hl3).1
    exact ⟨_, _, run_endRound none hl3, rfl, ⟨hI2 _ _ _ _ hi3 (by omega), World.putObj_heap_same hlt3, (World.putObj_heap_other (by omega)).trans hk3⟩,
      ((hold W _).trans (hb3.mono (by omega))).trans (hold W3 _)⟩
  · rintro e W2 ⟨⟨v, rfl⟩, xs, hS, hi, hl, hk⟩
    exact ⟨none, _, run_endLoop hl (by simp [rec0]), hdone xs _ hS (hI2 _ _ _ _ hi (by omega)) ((World.putObj_heap_other (by omega)).trans hk)⟩
end Go.Eng
