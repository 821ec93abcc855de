/- How a law of loops is proved out of its rounds; without conditions. -/
import Derived.Test.YtcmnaaopgffjdaaArgAU
set_option linter.all false
set_option linter.deprecated false
set_option maxRecDepth 1000000
set_option maxHeartbeats 4000000
namespace Go.Proofs.TabU
open Go Go.Eng
/-- What follows the law's code; a round of the outer loop. -/
noncomputable abbrev endE (fi : FI) (n0 : Nat) (args : List AV) : Res → T ((AV × Mem) ⊕ Stop) := endR (evEnd n0 args (ttOf tts) fi)
noncomputable abbrev outR (S : Sp) (fi : FI) (n0 : Nat) (p : List Nat) (base : Nat) (args : List AV) : Res → T (St3 ⊕ ((AV × Mem) ⊕ Stop)) :=
  stepR args fi.keep base (contR Try.prog (ttOf tts) (ev S 4) args fi.keep 1048576 big4 fi.code p [] (endE fi n0 args))
/-- A round of a loop up to the inner loop's head; a round of the inner loop. -/
noncomputable abbrev lawO (S : Sp) (fi : FI) (n0 : Nat) (p : List Nat) (base : Nat) (args : List AV) (s : St3) : T ((St3 ⊕ ((AV × Mem) ⊕ Stop)) ⊕ Stop) :=
  evS Try.prog (ttOf tts) (ev S 4) args fi.keep 1048576 big4 [] (cAt fi.code p) (cst fi.keep.l s.1) (memL s.2.1 s.2.2) (endR (outR S fi n0 p base args))
noncomputable abbrev lawI (S : Sp) (fi : FI) (n0 : Nat) (p : List Nat) (base : Nat) (p2 : List Nat) (base2 : Nat) (args : List AV) (s : St3) : T (St3 ⊕ ((St3 ⊕ ((AV × Mem) ⊕ Stop)) ⊕ Stop)) :=
  (evCode Try.prog (ttOf tts) (ev S 4) args fi.keep 1048576 big4 (cAt (cAt fi.code p) p2) (cst fi.keep.l s.1) (memL s.2.1 s.2.2)).bind
    (stepR args fi.keep base2 (contR Try.prog (ttOf tts) (ev S 4) args fi.keep 1048576 big4 (cAt fi.code p) p2 [] (endR (outR S fi n0 p base args))))
noncomputable def ocO {α β γ : Type} (x : (γ ⊕ ((AV × α) ⊕ β)) ⊕ Stop) : (γ ⊕ (AV ⊕ β)) ⊕ Stop := @Sum.rec _ _ (fun _ => (γ ⊕ (AV ⊕ β)) ⊕ Stop) (fun y => .inl (oc2 y)) (fun y => .inr y) x
noncomputable def ocI {α β γ : Type} (x : St3 ⊕ ((γ ⊕ ((AV × α) ⊕ β)) ⊕ Stop)) : St3 ⊕ ((γ ⊕ (AV ⊕ β)) ⊕ Stop) := @Sum.rec _ _ (fun _ => St3 ⊕ ((γ ⊕ (AV ⊕ β)) ⊕ Stop)) (fun y => .inl y) (fun y => .inr (ocO y)) x
def OkO (I : St3 → Prop) (G : Stop → Prop) (G2 : Stop → Prop) : (St3 ⊕ (AV ⊕ Stop)) ⊕ Stop → Prop := fun y => match y with
  | .inl y => OkL I G y
  | .inr s => G2 s
def OkI (I2 : St3 → Prop) (I : St3 → Prop) (G : Stop → Prop) (G2 : Stop → Prop) : St3 ⊕ ((St3 ⊕ (AV ⊕ Stop)) ⊕ Stop) → Prop := fun y => match y with
  | .inl s => I2 s
  | .inr y => OkO I G G2 y
abbrev OkT (G : Stop → Prop) : (AV × Mem) ⊕ Stop → Prop := OkY (fun y : AV × Mem => y.1 = .b true) G
theorem lawO_Q {x : T ((St3 ⊕ ((AV × Mem) ⊕ Stop)) ⊕ Stop)} {I : St3 → Prop} {G G2 : Stop → Prop} (h : H x (fun y => OkO I G G2 (ocO y)) (fun _ _ => False)) : H x (OkY (OkS I (OkT G)) G2) (fun _ _ => False) := h.mono fun y h => by
  cases y with
  | inl y =>
    cases y with
    | inl s => exact h
    | inr y => cases y <;> exact h
  | inr s => exact h
theorem lawI_Q {x : T (St3 ⊕ ((St3 ⊕ ((AV × Mem) ⊕ Stop)) ⊕ Stop))} {I2 I : St3 → Prop} {G G2 : Stop → Prop} (h : H x (fun y => OkI I2 I G G2 (ocI y)) (fun _ _ => False)) : H x (OkS I2 (OkY (OkS I (OkT G)) G2)) (fun _ _ => False) := h.mono fun y h => by
  cases y with
  | inl s => exact h
  | inr y =>
    cases y with
    | inl y =>
      cases y with
      | inl s => exact h
      | inr y => cases y <;> exact h
    | inr s => exact h
/-- A law of a loop within a loop. -/
theorem law2 {S : Sp} {f : Nat} {fi : FI} {args : List AV} {M : Mem} (hS : S f = none) (hF : (fns false).get f = some fi) (hn : Nat.ble args.length fi.n = true) (hz : fi.keep.z = false) (rp : List Nat) (base : Nat) (rp2 : List Nat) (base2 : Nat) (n0 : Nat) (hn0 : M.next = n0)
    (hc : (loopAt fi.code rp.reverse).isSome = true) (hc2 : (loopAt (cAt fi.code rp.reverse) rp2.reverse).isSome = true) (Inv : Nat → St3 → Prop) (Inv2 : Nat → Nat → St3 → Prop)
    (h0 : H (lawE S fi args M) (OkT (fun t => t.1 = rp ∧ t.2.1 = base ∧ ∃ m, m < 1048576 ∧ Inv m t.2.2)) (fun _ _ => False))
    (step : ∀ m s, Inv m s → H (lawO S fi n0 rp.reverse base args s) (OkY (OkS (fun s' => ∃ m', m' < m ∧ Inv m' s') (OkT (fun _ => False))) (fun t => t.1 = rp2 ∧ t.2.1 = base2 ∧ ∃ m2, m2 < 1048576 ∧ Inv2 m m2 t.2.2)) (fun _ _ => False))
    (step2 : ∀ m m2 s, Inv2 m m2 s → H (lawI S fi n0 rp.reverse base rp2.reverse base2 args s) (OkS (fun s' => ∃ m', m' < m2 ∧ Inv2 m m' s') (OkY (OkS (fun s' => ∃ m', m' < m ∧ Inv m' s') (OkT (fun _ => False))) (fun _ => False))) (fun _ _ => False)) :
    H (ev S 5 f args M) (fun x => x.1 = .b true) (fun _ _ => False) := by
  refine evFun_open hS hF hn ?_
  refine evS_ok fi.code (pre := []) (G := fun t => t.1 = rp ∧ t.2.1 = base ∧ ∃ m, m < 1048576 ∧ Inv m t.2.2) (fun r h => endR_ok r h) ?_ h0
  intro p b s hg
  obtain ⟨h1, h2, m, hm, hi⟩ := hg
  rw [List.append_nil] at h1
  dsimp only at h1 h2 hi
  subst h1 h2
  obtain ⟨c, hc'⟩ := Option.isSome_iff_exists.1 hc
  refine ⟨c, hc', ?_⟩
  have hcAt : cAt fi.code p.reverse = c := by unfold cAt; rw [hc']; rfl
  rw [hn0]
  have hK : ∀ r, H (contR Try.prog (ttOf tts) (ev S 4) args fi.keep 1048576 big4 fi.code p.reverse [] (endE fi n0 args) r) (OkT (fun _ => False)) (fun _ _ => False) →
      H (contK Try.prog (ttOf tts) (ev S 4) args fi.keep 1048576 big4 fi.code p.reverse (evEnd n0 args (ttOf tts) fi) r) (fun y : AV × Mem => y.1 = .b true) (fun _ _ => False) :=
    fun r h => contR_ok fi.code (pre := []) (G := fun _ => False) (fun r h => endR_ok r h) (fun p b s hg => hg.elim) r h
  refine loop_run hz Inv (G := fun _ => False) hK ?_ m s hm hi
  intro m s hi
  have hst := step m s hi
  unfold lawO at hst
  rw [hcAt] at hst
  refine evS_ok c (pre := []) (fun r h => endR_ok r h) ?_ hst
  intro p2 b2 s2 hg
  obtain ⟨k1, k2, m2, hm2, hi2⟩ := hg
  rw [List.append_nil] at k1
  dsimp only at k1 k2 hi2
  subst k1 k2
  obtain ⟨c2, hc2'⟩ := Option.isSome_iff_exists.1 hc2
  rw [hcAt] at hc2'
  refine ⟨c2, hc2', ?_⟩
  refine loop_run hz (Inv2 m) (G := fun _ => False) (KR := contR Try.prog (ttOf tts) (ev S 4) args fi.keep 1048576 big4 c p2.reverse [] (endR (outR S fi n0 p.reverse b args))) ?_ ?_ m2 s2 hm2 hi2
  · exact fun r h => contR_ok c (pre := []) (G := fun _ => False) (fun r h => endR_ok r h) (fun p b s hg => hg.elim) r h
  · intro m2 s2 hi2
    have := step2 m m2 s2 hi2
    unfold lawI at this
    have e2 : cAt (cAt fi.code p.reverse) p2.reverse = c2 := by rw [hcAt]; unfold cAt; rw [hc2']; rfl
    rw [e2, hcAt] at this
    exact this
end Go.Proofs.TabU
