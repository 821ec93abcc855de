/- Lemmas about the evaluator of the code. -/
import Derived.Test.YtiokhipgpfeoeaaEngZ
set_option linter.all false
set_option linter.deprecated false
set_option autoImplicit false
namespace Go.Eng
open Go Go.RowKit
/-- What a run comes to, picked. -/
theorem H.pick {α β ρ : Type} {x : T α} {f : α → β} {B : ρ → β} {P : ρ → Prop} (h : H x (fun y => ∃ r, f y = B r ∧ P r) (fun _ _ => False)) : ∃ r, P r ∧ H x (fun y => f y = B r) (fun _ _ => False) := by
  obtain ⟨a, ⟨r, e, hp⟩, hl⟩ := T.leaf h.out
  refine ⟨r, hp, ⟨T.holds_mono hl (fun y hy => ?_) fun _ _ h => h⟩⟩
  show f y = B r
  rw [show y = a from hy]; exact e
end Go.Eng
