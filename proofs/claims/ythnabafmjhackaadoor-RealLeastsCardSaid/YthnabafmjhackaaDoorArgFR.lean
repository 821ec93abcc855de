/- How a law of loops is proved out of its rounds; without conditions. -/
import Derived.Test.YthnabafmjhackaaDoorArgCR
set_option linter.all false
set_option linter.deprecated false
set_option maxRecDepth 1000000
set_option maxHeartbeats 4000000
namespace Go.Proofs.TabR
open Go Go.Eng
/-- A law of a loop, and behind it a loop within a loop. -/
theorem lawSeqN {S : Sp} {f : Nat} {fi : FI} {args : List AV} {M : Mem} (hS : S f = none) (hF : (fns false).get f = some fi) (hn : Nat.ble args.length fi.n = true) (hz : fi.keep.z = false) (rpA : List Nat) (baseA : Nat) (rpB : List Nat) (baseB : Nat) (rpC : List Nat) (baseC : Nat) (n0 : Nat) (hn0 : M.next = n0)
    (hcA : (loopAt fi.code rpA.reverse).isSome = true) (hcB : (loopAt fi.code rpB.reverse).isSome = true) (hcC : (loopAt (cAt fi.code rpB.reverse) rpC.reverse).isSome = true) (InvA InvB : Nat → St3 → Prop) (InvC : Nat → Nat → St3 → Prop)
    (h0 : H (lawE S fi args M) (OkT (fun t => (t.1 = rpA ∧ t.2.1 = baseA ∧ ∃ m, m < 1048576 ∧ InvA m t.2.2) ∨ (t.1 = rpB ∧ t.2.1 = baseB ∧ ∃ m, m < 1048576 ∧ InvB m t.2.2))) F0)
    (stepA : ∀ m s, InvA m s → H (lawL S fi n0 rpA.reverse baseA args s) (OkS (fun s' => ∃ m', m' < m ∧ InvA m' s') (OkT (fun t => t.1 = rpB ∧ t.2.1 = baseB ∧ ∃ m, m < 1048576 ∧ InvB m t.2.2))) F0)
    (stepB : ∀ m s, InvB m s → H (lawO S fi n0 rpB.reverse baseB args s) (OkY (OkS (fun s' => ∃ m', m' < m ∧ InvB m' s') (OkT (fun _ => False))) (fun t => t.1 = rpC ∧ t.2.1 = baseC ∧ ∃ m2, m2 < 1048576 ∧ InvC m m2 t.2.2)) F0)
    (stepC : ∀ m m2 s, InvC m m2 s → H (lawI S fi n0 rpB.reverse baseB rpC.reverse baseC args s) (OkS (fun s' => ∃ m', m' < m2 ∧ InvC m m' s') (OkY (OkS (fun s' => ∃ m', m' < m ∧ InvB m' s') (OkT (fun _ => False))) (fun _ => False))) F0) :
    H (ev S 5 f args M) (fun x => x.1 = .b true) F0 := by
  refine evFun_open hS hF hn ?_
  have goB : ∀ p b s, (p = rpB ∧ b = baseB ∧ ∃ m, m < 1048576 ∧ InvB m s) → ∃ l, loopAt fi.code p.reverse = some l ∧
      LoopGo Tryd.prog (ttOf tts) (ev S 4) args fi.keep 1048576 big4 l b s (contK Tryd.prog (ttOf tts) (ev S 4) args fi.keep 1048576 big4 fi.code p.reverse (evEnd M.next args (ttOf tts) fi)) (fun y : AV × Mem => y.1 = .b true) F0 := by
    intro p b s hg
    obtain ⟨h1, h2, m, hm, hi⟩ := hg
    subst h1 h2
    obtain ⟨c, hc'⟩ := Option.isSome_iff_exists.1 hcB
    refine ⟨c, hc', ?_⟩
    have hcAt : cAt fi.code p.reverse = c := by unfold cAt; rw [hc']; rfl
    rw [hn0]
    have hK : ∀ r, H (contR Tryd.prog (ttOf tts) (ev S 4) args fi.keep 1048576 big4 fi.code p.reverse [] (endE fi n0 args) r) (OkT (fun _ => False)) F0 →
        H (contK Tryd.prog (ttOf tts) (ev S 4) args fi.keep 1048576 big4 fi.code p.reverse (evEnd n0 args (ttOf tts) fi) r) (fun y : AV × Mem => y.1 = .b true) F0 :=
      fun r h => contR_ok fi.code (pre := []) (G := fun _ => False) (fun r h => endR_ok r h) (fun p b s hg => hg.elim) r h
    refine loop_run hz InvB (G := fun _ => False) hK ?_ m s hm hi
    intro m s hi
    have hst := stepB m s hi
    unfold lawO at hst
    rw [hcAt] at hst
    refine evS_ok c (pre := []) (fun r h => endR_ok r h) ?_ hst
    intro p2 b2 s2 hg
    obtain ⟨k1, k2, m2, hm2, hi2⟩ := hg
    rw [List.append_nil] at k1
    dsimp only at k1 k2 hi2
    subst k1 k2
    obtain ⟨c2, hc2'⟩ := Option.isSome_iff_exists.1 hcC
    rw [hcAt] at hc2'
    refine ⟨c2, hc2', ?_⟩
    refine loop_run hz (InvC m) (G := fun _ => False) (KR := contR Tryd.prog (ttOf tts) (ev S 4) args fi.keep 1048576 big4 c p2.reverse [] (endR (outR S fi n0 p.reverse b args))) ?_ ?_ m2 s2 hm2 hi2
    · exact fun r h => contR_ok c (pre := []) (G := fun _ => False) (fun r h => endR_ok r h) (fun p b s hg => hg.elim) r h
    · intro m2 s2 hi2
      have := stepC m m2 s2 hi2
      unfold lawI at this
      have e2 : cAt (cAt fi.code p.reverse) p2.reverse = c2 := by rw [hcAt]; unfold cAt; rw [hc2']; rfl
      rw [e2, hcAt] at this
      exact this
  refine evS_ok fi.code (pre := []) (fun r h => endR_ok r h) ?_ h0
  intro p b s hg
  rw [List.append_nil] at hg
  rcases hg with ⟨h1, h2, m, hm, hi⟩ | hg
  · dsimp only at h1 h2 hi
    subst h1 h2
    obtain ⟨c, hc'⟩ := Option.isSome_iff_exists.1 hcA
    refine ⟨c, hc', ?_⟩
    have hcAt : cAt fi.code p.reverse = c := by unfold cAt; rw [hc']; rfl
    refine loop_run hz InvA (KR := contR Tryd.prog (ttOf tts) (ev S 4) args fi.keep 1048576 big4 fi.code p.reverse [] (endR (evEnd M.next args (ttOf tts) fi))) (G := fun t => t.1 = rpB ∧ t.2.1 = baseB ∧ ∃ m, m < 1048576 ∧ InvB m t.2.2) ?_ ?_ m s hm hi
    · refine fun r h => contR_ok fi.code (pre := []) (fun r h => endR_ok r h) (fun p b s hg => ?_) r h
      rw [List.append_nil] at hg
      exact goB p b s hg
    · intro m s hi
      have := stepA m s hi
      rw [hn0]
      unfold lawL at this
      rw [hcAt] at this
      exact this
  · exact goB p b s hg
end Go.Proofs.TabR
