/- What stays of the library's tables, and how many digits a number has at the numbers that occur; each names its conditions. -/
import Derived.Test.YtcmnaaopgffjdaaDoorItoK
import Derived.Test.YtcmnaaopgffjdaaDoorBaseX
import Derived.Test.YtcmnaaopgffjdaaDoorEngMd
import Derived.Lib.LaidTab
import Derived.Lib.LaidU8
import Derived.WalkKit
set_option linter.all false
set_option linter.deprecated false
set_option maxRecDepth 1000000
set_option maxHeartbeats 4000000
namespace Go.Proofs.TabX
open Go Go.Eng Go.RowKit Go.Sort
noncomputable abbrev evz (S : Sp) (d : Nat) := evFun Tryd.prog (ttOf tts) S (fns true).get 1048576 d
/-- The cells of the table of powers of ten. -/
def glK (b off : Nat) : Option Value := if b = 0 ∧ off < 20 then some (.int .u64 ((10 ^ off : Nat) : Int)) else none
abbrev nK (k : Nat) : NB := ⟨k, glK⟩
theorem tabC_of {k : Nat} {w : World} (h : Glob (nK k) w) : TabC Tryd.prog w := by
  intro g hg i hi
  have : g = 0 := by
    have e : Tryd.prog.globalNamed "internal/strconv.uint64pow10" = some 0 := by kernel_rfl
    rw [e] at hg; exact (Option.some.inj hg).symm
  subst this
  exact (h 0 i _ (show glK 0 i = _ by unfold glK; rw [if_pos ⟨rfl, hi⟩])).2
/-- A number's decimal numeral. -/
noncomputable def itO (n : Int) : ByteArray := opq ⟨(Lib.itoa n).toArray⟩
theorem itO_eq (n : Int) : itO n = ⟨(Lib.itoa n).toArray⟩ := opq_eq _
/-- A function that lays new blocks alone, and reads what stays. -/
theorem sOk_belowG {P : Program} {N : NB} {R : Nat → Option (List AV → Mem → T (AV × Mem))} (hR : SOk P N R) {n : Nat} {fn : Func} {c : Code} (hf : P.funcs[n]? = some fn) (hb : fn.body = some c) (hname : (fn.name == "runtime.NumGoroutine") = false) {g : List AV → T AV}
    (h : ∀ args Q, (g args).holds Q (fun _ _ => False) → ∀ φ zs, AVsRel φ args zs → ∀ w, Glob N w → Calls P n zs.toArray w fun e w' => (∃ v x, e = .returned v ∧ Q x ∧ ∀ φ, AVRel φ x v) ∧ Below w.heap.size w w') :
    SOk P N (fun f => bif2 (Nat.beq f n) (some (treeS g)) (R f)) := by
  intro f s hs args M Q Qp hq
  simp only [bif2_eq] at hs
  split at hs
  · rename_i hfn
    obtain rfl : f = n := Nat.eq_of_beq_eq_true hfn
    cases hs
    have hq' : (g args).holds (fun v => Q (v, M)) (fun _ _ => False) := by
      unfold treeS at hq
      rw [T.holds_bind] at hq
      exact T.nopan_ok hq
    refine .inl ⟨⟨fn, c, hf, hb, hname⟩, fun φ w zs hr hz => (h args _ hq' φ zs hz w hr.glob).mono ?_⟩
    rintro e w' ⟨⟨v, x, rfl, h2, h3⟩, hB⟩
    refine .inl ⟨v, rfl, φ, x, M, h2, h3 φ, hr.same hB.block hB.size, ⟨.refl _, fun _ _ => rfl, Nat.le_refl _, rfl, hB.os, hB.tape, hB.output, hB.size, fun b hb _ => hB.block b hb, fun id p h h' _ => ⟨id, p, h, h', rfl, fun h => h⟩⟩⟩
  · exact hR f s hs args M Q Qp hq
noncomputable def g20 : List AV → T AV
  | [.i .i64 n] => .br (decide (-9223372036854775808 ≤ n ∧ n ≤ 9223372036854775807)) (.ret (.s (itO n))) .fail
  | _ => .fail
theorem grow_below (w : World) (k : Nat) (os : Array Obj) : Below w.heap.size w (grow (w.drewN k) os) := by
  exact ⟨rfl, rfl, rfl, by simp [grow, World.drewN], fun i hi => by simp [grow, World.drewN, Array.getElem?_append, hi]⟩
theorem s20 {k : Nat} {R : Sp} (hR : SOk Tryd.prog (nK k) R) : SOk Tryd.prog (nK k) (fun f => bif2 (Nat.beq f 20) (some (treeS g20)) (R f)) := by
  refine sOk_belowG hR Tryd.func20 rfl (by kernel_rfl) ?_
  intro args Q h φ zs hz w hg
  unfold g20 at h
  split at h
  · rename_i n
    obtain ⟨hb, hq⟩ := br_ok h
    have hb := of_decide_eq_true hb
    cases hz with
    | cons h1 h2 =>
      cases h2
      cases h1
      refine (Tryd.strconv_Itoa n hb.1 hb.2 w (tabC_of hg)).mono ?_
      rintro e w' ⟨rfl, j, os, rfl⟩
      exact ⟨⟨_, _, rfl, hq, fun _ => by rw [← itO_eq]; exact .s _⟩, grow_below _ _ _⟩
  · exact h.elim
end Go.Proofs.TabX
