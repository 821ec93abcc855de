/- How a law of loops is proved out of its rounds; without conditions. -/
import Derived.Test.YthnabafmjhackaaDoorArgCR
set_option linter.all false
set_option linter.deprecated false
set_option maxRecDepth 1000000
set_option maxHeartbeats 4000000
namespace Go.Proofs.TabR
open Go Go.Eng
/-- A law of two loops, one behind the other; the second one's objects may be numbered from two places. -/
theorem lawSeqB {S : Sp} {f : Nat} {fi : FI} {args : List AV} {M : Mem} (hS : S f = none) (hF : (fns false).get f = some fi) (hn : Nat.ble args.length fi.n = true) (hz : fi.keep.z = false) (rpA : List Nat) (baseA : Nat) (rpB : List Nat) (baseB : Bool → Nat) (n0 : Nat) (hn0 : M.next = n0)
    (hcA : (loopAt fi.code rpA.reverse).isSome = true) (hcB : (loopAt fi.code rpB.reverse).isSome = true) (InvA : Nat → St3 → Prop) (InvB : Bool → Nat → St3 → Prop)
    (h0 : H (lawE S fi args M) (OkT (fun t => (t.1 = rpA ∧ t.2.1 = baseA ∧ ∃ m, m < 1048576 ∧ InvA m t.2.2) ∨ (t.1 = rpB ∧ ∃ c, t.2.1 = baseB c ∧ ∃ m, m < 1048576 ∧ InvB c m t.2.2))) F0)
    (stepA : ∀ m s, InvA m s → H (lawL S fi n0 rpA.reverse baseA args s) (OkS (fun s' => ∃ m', m' < m ∧ InvA m' s') (OkT (fun t => t.1 = rpB ∧ ∃ c, t.2.1 = baseB c ∧ ∃ m, m < 1048576 ∧ InvB c m t.2.2))) F0)
    (stepB : ∀ c m s, InvB c m s → H (lawL S fi n0 rpB.reverse (baseB c) args s) (OkS (fun s' => ∃ m', m' < m ∧ InvB c m' s') (OkT (fun _ => False))) F0) :
    H (ev S 5 f args M) (fun x => x.1 = .b true) F0 := by
  refine evFun_open hS hF hn ?_
  have goB : ∀ p b s, (p = rpB ∧ ∃ c, b = baseB c ∧ ∃ m, m < 1048576 ∧ InvB c m s) → ∃ l, loopAt fi.code p.reverse = some l ∧
      LoopGo Tryd.prog (ttOf tts) (ev S 4) args fi.keep 1048576 big4 l b s (contK Tryd.prog (ttOf tts) (ev S 4) args fi.keep 1048576 big4 fi.code p.reverse (evEnd M.next args (ttOf tts) fi)) (fun y : AV × Mem => y.1 = .b true) F0 := by
    intro p b s hg
    obtain ⟨h1, cc, h2, m, hm, hi⟩ := hg
    subst h1 h2
    obtain ⟨c, hc'⟩ := Option.isSome_iff_exists.1 hcB
    refine ⟨c, hc', ?_⟩
    have hcAt : cAt fi.code p.reverse = c := by unfold cAt; rw [hc']; rfl
    refine loop_run hz (InvB cc) (KR := contR Tryd.prog (ttOf tts) (ev S 4) args fi.keep 1048576 big4 fi.code p.reverse [] (endR (evEnd M.next args (ttOf tts) fi))) (G := fun _ => False) ?_ ?_ m s hm hi
    · exact fun r h => contR_ok fi.code (pre := []) (G := fun _ => False) (fun r h => endR_ok r h) (fun p b s hg => hg.elim) r h
    · intro m s hi
      have := stepB cc m s hi
      rw [hn0]
      unfold lawL at this
      rw [hcAt] at this
      exact this
  refine evS_ok fi.code (pre := []) (fun r h => endR_ok r h) ?_ h0
  intro p b s hg
  rw [List.append_nil] at hg
  rcases hg with ⟨h1, h2, m, hm, hi⟩ | hg
  · dsimp only at h1 h2 hi
    subst h1 h2
    obtain ⟨c, hc'⟩ := Option.isSome_iff_exists.1 hcA
    refine ⟨c, hc', ?_⟩
    have hcAt : cAt fi.code p.reverse = c := by unfold cAt; rw [hc']; rfl
    refine loop_run hz InvA (KR := contR Tryd.prog (ttOf tts) (ev S 4) args fi.keep 1048576 big4 fi.code p.reverse [] (endR (evEnd M.next args (ttOf tts) fi))) (G := fun t => t.1 = rpB ∧ ∃ c, t.2.1 = baseB c ∧ ∃ m, m < 1048576 ∧ InvB c m t.2.2) ?_ ?_ m s hm hi
    · refine fun r h => contR_ok fi.code (pre := []) (fun r h => endR_ok r h) (fun p b s hg => ?_) r h
      rw [List.append_nil] at hg
      exact goB p b s hg
    · intro m s hi
      have := stepA m s hi
      rw [hn0]
      unfold lawL at this
      rw [hcAt] at this
      exact this
  · exact goB p b s hg
end Go.Proofs.TabR
