/- How a law of loops is proved out of its rounds; without conditions. -/
import Derived.Test.YtcmnaaopgffjdaaArgCU
import Derived.Test.YtcmnaaopgffjdaaEngMd
set_option linter.all false
set_option linter.deprecated false
set_option maxRecDepth 1000000
set_option maxHeartbeats 4000000
namespace Go.Proofs.TabU
open Go Go.Eng
section
variable {S : Sp} {f : Nat} {fi : FI} {args : List AV} {M : Mem} {Qa : AV × Mem → Prop} {Qp : AV → Mem → Prop}
/-- A function of no loop that is told by its ways. -/
theorem fn0P (hS : S f = none) (hF : (fns false).get f = some fi) (hn : Nat.ble args.length fi.n = true) (n0 : Nat) (hn0 : M.next = n0) (h : H (lawE S fi args M) (OkY Qa (fun _ => False))  Qp) : H (ev S 5 f args M) Qa  Qp := by
  refine evFun_open hS hF hn ?_
  exact evS_ok fi.code (pre := []) (G := fun _ => False) (fun r h => endR_ok r h) (fun p b s hg => hg.elim) h
/-- Of one loop. -/
theorem fn1P (hS : S f = none) (hF : (fns false).get f = some fi) (hn : Nat.ble args.length fi.n = true) (hz : fi.keep.z = false) (rp : List Nat) (base : Nat) (n0 : Nat) (hn0 : M.next = n0)
    (hc : (loopAt fi.code rp.reverse).isSome = true) (Inv : Nat → St3 → Prop)
    (h0 : H (lawE S fi args M) (OkY Qa (fun t => t.1 = rp ∧ t.2.1 = base ∧ ∃ m, m < 1048576 ∧ Inv m t.2.2))  Qp)
    (step : ∀ m s, Inv m s → H (lawL S fi n0 rp.reverse base args s) (OkS (fun s' => ∃ m', m' < m ∧ Inv m' s') (OkY Qa (fun _ => False)))  Qp) :
    H (ev S 5 f args M) Qa  Qp := by
  refine evFun_open hS hF hn ?_
  refine evS_ok fi.code (pre := []) (G := fun t => t.1 = rp ∧ t.2.1 = base ∧ ∃ m, m < 1048576 ∧ Inv m t.2.2) (fun r h => endR_ok r h) ?_ h0
  intro p b s hg
  obtain ⟨h1, h2, m, hm, hi⟩ := hg
  rw [List.append_nil] at h1
  dsimp only at h1 h2 hi
  subst h1 h2
  obtain ⟨c, hc'⟩ := Option.isSome_iff_exists.1 hc
  refine ⟨c, hc', ?_⟩
  have hcAt : cAt fi.code p.reverse = c := by unfold cAt; rw [hc']; rfl
  refine loop_run hz Inv (KR := contR Try.prog (ttOf tts) (ev S 4) args fi.keep 1048576 big4 fi.code p.reverse [] (endR (evEnd M.next args (ttOf tts) fi))) (G := fun _ => False) ?_ ?_ m s hm hi
  · exact fun r h => contR_ok fi.code (pre := []) (G := fun _ => False) (fun r h => endR_ok r h) (fun p b s hg => hg.elim) r h
  · intro m s hi
    have := step m s hi
    rw [hn0]
    unfold lawL at this
    rw [hcAt] at this
    exact this
end
section
variable {S : Sp} {f : Nat} {fi : FI} {args : List AV} {M : Mem} {Qa : AV × Mem → Prop}
/-- Of two loops, one behind the other, within a loop. -/
theorem fn2S (hS : S f = none) (hF : (fns false).get f = some fi) (hn : Nat.ble args.length fi.n = true) (hz : fi.keep.z = false) (rp : List Nat) (base : Nat) (rp2 : List Nat) (base2 : Nat) (rp3 : List Nat) (base3 : Nat) (n0 : Nat) (hn0 : M.next = n0)
    (hc : (loopAt fi.code rp.reverse).isSome = true) (hc2 : (loopAt (cAt fi.code rp.reverse) rp2.reverse).isSome = true) (hc3 : (loopAt (cAt fi.code rp.reverse) rp3.reverse).isSome = true) (Inv : Nat → St3 → Prop) (Inv2 Inv3 : Nat → Nat → St3 → Prop)
    (h0 : H (lawE S fi args M) (OkY Qa (fun t => t.1 = rp ∧ t.2.1 = base ∧ ∃ m, m < 1048576 ∧ Inv m t.2.2)) F0)
    (step : ∀ m s, Inv m s → H (lawO S fi n0 rp.reverse base args s) (OkY (OkS (fun s' => ∃ m', m' < m ∧ Inv m' s') (OkY Qa (fun _ => False))) (fun t => t.1 = rp2 ∧ t.2.1 = base2 ∧ ∃ m2, m2 < 1048576 ∧ Inv2 m m2 t.2.2)) F0)
    (step2 : ∀ m m2 s, Inv2 m m2 s → H (lawI S fi n0 rp.reverse base rp2.reverse base2 args s) (OkS (fun s' => ∃ m', m' < m2 ∧ Inv2 m m' s') (OkY (OkS (fun s' => ∃ m', m' < m ∧ Inv m' s') (OkY Qa (fun _ => False))) (fun t => t.1 = rp3 ∧ t.2.1 = base3 ∧ ∃ m3, m3 < 1048576 ∧ Inv3 m m3 t.2.2))) F0)
    (step3 : ∀ m m2 s, Inv3 m m2 s → H (lawI S fi n0 rp.reverse base rp3.reverse base3 args s) (OkS (fun s' => ∃ m', m' < m2 ∧ Inv3 m m' s') (OkY (OkS (fun s' => ∃ m', m' < m ∧ Inv m' s') (OkY Qa (fun _ => False))) (fun _ => False))) F0) :
    H (ev S 5 f args M) Qa F0 := by
  refine evFun_open hS hF hn ?_
  refine evS_ok fi.code (pre := []) (G := fun t => t.1 = rp ∧ t.2.1 = base ∧ ∃ m, m < 1048576 ∧ Inv m t.2.2) (fun r h => endR_ok r h) ?_ h0
  intro p b s hg
  obtain ⟨h1, h2, m, hm, hi⟩ := hg
  rw [List.append_nil] at h1
  dsimp only at h1 h2 hi
  subst h1 h2
  obtain ⟨c, hc'⟩ := Option.isSome_iff_exists.1 hc
  refine ⟨c, hc', ?_⟩
  have hcAt : cAt fi.code p.reverse = c := by unfold cAt; rw [hc']; rfl
  rw [hn0]
  have hK : ∀ r, H (contR Try.prog (ttOf tts) (ev S 4) args fi.keep 1048576 big4 fi.code p.reverse [] (endE fi n0 args) r) (OkY Qa (fun _ => False)) F0 →
      H (contK Try.prog (ttOf tts) (ev S 4) args fi.keep 1048576 big4 fi.code p.reverse (evEnd n0 args (ttOf tts) fi) r) Qa F0 :=
    fun r h => contR_ok fi.code (pre := []) (G := fun _ => False) (fun r h => endR_ok r h) (fun p b s hg => hg.elim) r h
  refine loop_run hz Inv (G := fun _ => False) hK ?_ m s hm hi
  intro m s hi
  have hst := step m s hi
  unfold lawO at hst
  rw [hcAt] at hst
  refine evS_ok c (pre := []) (fun r h => endR_ok r h) ?_ hst
  intro p2 b2 s2 hg
  obtain ⟨k1, k2, m2, hm2, hi2⟩ := hg
  rw [List.append_nil] at k1
  dsimp only at k1 k2 hi2
  subst k1 k2
  obtain ⟨c2, hc2'⟩ := Option.isSome_iff_exists.1 hc2
  rw [hcAt] at hc2'
  refine ⟨c2, hc2', ?_⟩
  have third : ∀ p3 b3 s3, (fun t : Stop => t.1 = rp3 ∧ t.2.1 = base3 ∧ ∃ m3, m3 < 1048576 ∧ Inv3 m m3 t.2.2) (p3 ++ [], b3, s3) → ∃ l, loopAt c p3.reverse = some l ∧
      LoopGo Try.prog (ttOf tts) (ev S 4) args fi.keep 1048576 big4 l b3 s3 (contK Try.prog (ttOf tts) (ev S 4) args fi.keep 1048576 big4 c p3.reverse (stepR args fi.keep b (contR Try.prog (ttOf tts) (ev S 4) args fi.keep 1048576 big4 fi.code p.reverse [] (endR (evEnd n0 args (ttOf tts) fi))))) (OkS (fun s' => ∃ m', m' < m ∧ Inv m' s') (OkY Qa (fun _ => False))) F0 := by
    intro p3 b3 s3 hg
    obtain ⟨k1, k2, m3, hm3, hi3⟩ := hg
    rw [List.append_nil] at k1
    dsimp only at k1 k2 hi3
    subst k1 k2
    obtain ⟨c3, hc3'⟩ := Option.isSome_iff_exists.1 hc3
    rw [hcAt] at hc3'
    refine ⟨c3, hc3', ?_⟩
    refine loop_run hz (Inv3 m) (G := fun _ => False) (KR := contR Try.prog (ttOf tts) (ev S 4) args fi.keep 1048576 big4 c p3.reverse [] (endR (outR S fi n0 p.reverse b args))) ?_ ?_ m3 s3 hm3 hi3
    · exact fun r h => contR_ok c (pre := []) (G := fun _ => False) (fun r h => endR_ok r h) (fun p b s hg => hg.elim) r h
    · intro m3 s3 hi3
      have := step3 m m3 s3 hi3
      unfold lawI at this
      have e3 : cAt (cAt fi.code p.reverse) p3.reverse = c3 := by rw [hcAt]; unfold cAt; rw [hc3']; rfl
      rw [e3, hcAt] at this
      exact this
  refine loop_run hz (Inv2 m) (G := fun t => t.1 = rp3 ∧ t.2.1 = base3 ∧ ∃ m3, m3 < 1048576 ∧ Inv3 m m3 t.2.2) (KR := contR Try.prog (ttOf tts) (ev S 4) args fi.keep 1048576 big4 c p2.reverse [] (endR (outR S fi n0 p.reverse b args))) ?_ ?_ m2 s2 hm2 hi2
  · exact fun r h => contR_ok c (pre := []) (fun r h => endR_ok r h) third r h
  · intro m2 s2 hi2
    have := step2 m m2 s2 hi2
    unfold lawI at this
    have e2 : cAt (cAt fi.code p.reverse) p2.reverse = c2 := by rw [hcAt]; unfold cAt; rw [hc2']; rfl
    rw [e2, hcAt] at this
    exact this
end
theorem pE_P {k : Nat} {x : T ((AV × Mem) ⊕ Stop)} {Q : An → Prop} {G : Stop → Prop} {Qp : AV → Mem → Prop} (h : H x (fun y => KE Q G (pE k y)) Qp) : H x (OkY (fun y => Q (resV k y)) G) Qp := h.mono fun y h => by cases y <;> exact h
theorem pL_P {k : Nat} {x : T (St3 ⊕ ((AV × Mem) ⊕ Stop))} {I : St3 → Prop} {Q : An → Prop} {G : Stop → Prop} {Qp : AV → Mem → Prop} (h : H x (fun y => KL I Q G (pL k y)) Qp) : H x (OkS I (OkY (fun y => Q (resV k y)) G)) Qp := h.mono fun y h => by
  cases y with
  | inl s => exact h
  | inr y => cases y <;> exact h
end Go.Proofs.TabU
