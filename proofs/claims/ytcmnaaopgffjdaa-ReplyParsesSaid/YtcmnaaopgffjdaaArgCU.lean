/- How a law of loops is proved out of its rounds; without conditions. -/
import Derived.Test.YtcmnaaopgffjdaaArgBU
import Derived.Test.YtcmnaaopgffjdaaEngMd
set_option linter.all false
set_option linter.deprecated false
set_option maxRecDepth 1000000
set_option maxHeartbeats 4000000
namespace Go.Proofs.TabU
open Go Go.Eng
abbrev F0 : AV → Mem → Prop := fun _ _ => False
section
variable {S : Sp} {f : Nat} {fi : FI} {args : List AV} {M : Mem} {Qa : AV × Mem → Prop}
/-- A function of no loop that is told by its ways. -/
theorem fn0 (hS : S f = none) (hF : (fns false).get f = some fi) (hn : Nat.ble args.length fi.n = true) (n0 : Nat) (hn0 : M.next = n0) (h : H (lawE S fi args M) (OkY Qa (fun _ => False)) F0) : H (ev S 5 f args M) Qa F0 := by
  refine evFun_open hS hF hn ?_
  exact evS_ok fi.code (pre := []) (G := fun _ => False) (fun r h => endR_ok r h) (fun p b s hg => hg.elim) h
/-- Of one loop. -/
theorem fn1 (hS : S f = none) (hF : (fns false).get f = some fi) (hn : Nat.ble args.length fi.n = true) (hz : fi.keep.z = false) (rp : List Nat) (base : Nat) (n0 : Nat) (hn0 : M.next = n0)
    (hc : (loopAt fi.code rp.reverse).isSome = true) (Inv : Nat → St3 → Prop)
    (h0 : H (lawE S fi args M) (OkY Qa (fun t => t.1 = rp ∧ t.2.1 = base ∧ ∃ m, m < 1048576 ∧ Inv m t.2.2)) F0)
    (step : ∀ m s, Inv m s → H (lawL S fi n0 rp.reverse base args s) (OkS (fun s' => ∃ m', m' < m ∧ Inv m' s') (OkY Qa (fun _ => False))) F0) :
    H (ev S 5 f args M) Qa F0 := by
  refine evFun_open hS hF hn ?_
  refine evS_ok fi.code (pre := []) (G := fun t => t.1 = rp ∧ t.2.1 = base ∧ ∃ m, m < 1048576 ∧ Inv m t.2.2) (fun r h => endR_ok r h) ?_ h0
  intro p b s hg
  obtain ⟨h1, h2, m, hm, hi⟩ := hg
  rw [List.append_nil] at h1
  dsimp only at h1 h2 hi
  subst h1 h2
  obtain ⟨c, hc'⟩ := Option.isSome_iff_exists.1 hc
  refine ⟨c, hc', ?_⟩
  have hcAt : cAt fi.code p.reverse = c := by unfold cAt; rw [hc']; rfl
  refine loop_run hz Inv (KR := contR Try.prog (ttOf tts) (ev S 4) args fi.keep 1048576 big4 fi.code p.reverse [] (endR (evEnd M.next args (ttOf tts) fi))) (G := fun _ => False) ?_ ?_ m s hm hi
  · exact fun r h => contR_ok fi.code (pre := []) (G := fun _ => False) (fun r h => endR_ok r h) (fun p b s hg => hg.elim) r h
  · intro m s hi
    have := step m s hi
    rw [hn0]
    unfold lawL at this
    rw [hcAt] at this
    exact this
/-- Of a loop within a loop. -/
theorem fn2 (hS : S f = none) (hF : (fns false).get f = some fi) (hn : Nat.ble args.length fi.n = true) (hz : fi.keep.z = false) (rp : List Nat) (base : Nat) (rp2 : List Nat) (base2 : Nat) (n0 : Nat) (hn0 : M.next = n0)
    (hc : (loopAt fi.code rp.reverse).isSome = true) (hc2 : (loopAt (cAt fi.code rp.reverse) rp2.reverse).isSome = true) (Inv : Nat → St3 → Prop) (Inv2 : Nat → Nat → St3 → Prop)
    (h0 : H (lawE S fi args M) (OkY Qa (fun t => t.1 = rp ∧ t.2.1 = base ∧ ∃ m, m < 1048576 ∧ Inv m t.2.2)) F0)
    (step : ∀ m s, Inv m s → H (lawO S fi n0 rp.reverse base args s) (OkY (OkS (fun s' => ∃ m', m' < m ∧ Inv m' s') (OkY Qa (fun _ => False))) (fun t => t.1 = rp2 ∧ t.2.1 = base2 ∧ ∃ m2, m2 < 1048576 ∧ Inv2 m m2 t.2.2)) F0)
    (step2 : ∀ m m2 s, Inv2 m m2 s → H (lawI S fi n0 rp.reverse base rp2.reverse base2 args s) (OkS (fun s' => ∃ m', m' < m2 ∧ Inv2 m m' s') (OkY (OkS (fun s' => ∃ m', m' < m ∧ Inv m' s') (OkY Qa (fun _ => False))) (fun _ => False))) F0) :
    H (ev S 5 f args M) Qa F0 := by
  refine evFun_open hS hF hn ?_
  refine evS_ok fi.code (pre := []) (G := fun t => t.1 = rp ∧ t.2.1 = base ∧ ∃ m, m < 1048576 ∧ Inv m t.2.2) (fun r h => endR_ok r h) ?_ h0
  intro p b s hg
  obtain ⟨h1, h2, m, hm, hi⟩ := hg
  rw [List.append_nil] at h1
  dsimp only at h1 h2 hi
  subst h1 h2
  obtain ⟨c, hc'⟩ := Option.isSome_iff_exists.1 hc
  refine ⟨c, hc', ?_⟩
  have hcAt : cAt fi.code p.reverse = c := by unfold cAt; rw [hc']; rfl
  rw [hn0]
  have hK : ∀ r, H (contR Try.prog (ttOf tts) (ev S 4) args fi.keep 1048576 big4 fi.code p.reverse [] (endE fi n0 args) r) (OkY Qa (fun _ => False)) F0 →
      H (contK Try.prog (ttOf tts) (ev S 4) args fi.keep 1048576 big4 fi.code p.reverse (evEnd n0 args (ttOf tts) fi) r) Qa F0 :=
    fun r h => contR_ok fi.code (pre := []) (G := fun _ => False) (fun r h => endR_ok r h) (fun p b s hg => hg.elim) r h
  refine loop_run hz Inv (G := fun _ => False) hK ?_ m s hm hi
  intro m s hi
  have hst := step m s hi
  unfold lawO at hst
  rw [hcAt] at hst
  refine evS_ok c (pre := []) (fun r h => endR_ok r h) ?_ hst
  intro p2 b2 s2 hg
  obtain ⟨k1, k2, m2, hm2, hi2⟩ := hg
  rw [List.append_nil] at k1
  dsimp only at k1 k2 hi2
  subst k1 k2
  obtain ⟨c2, hc2'⟩ := Option.isSome_iff_exists.1 hc2
  rw [hcAt] at hc2'
  refine ⟨c2, hc2', ?_⟩
  refine loop_run hz (Inv2 m) (G := fun _ => False) (KR := contR Try.prog (ttOf tts) (ev S 4) args fi.keep 1048576 big4 c p2.reverse [] (endR (outR S fi n0 p.reverse b args))) ?_ ?_ m2 s2 hm2 hi2
  · exact fun r h => contR_ok c (pre := []) (G := fun _ => False) (fun r h => endR_ok r h) (fun p b s hg => hg.elim) r h
  · intro m2 s2 hi2
    have := step2 m m2 s2 hi2
    unfold lawI at this
    have e2 : cAt (cAt fi.code p.reverse) p2.reverse = c2 := by rw [hcAt]; unfold cAt; rw [hc2']; rfl
    rw [e2, hcAt] at this
    exact this
end
/-- What a function answers: the value, and the objects that it lays behind its arguments' 'k'. -/
abbrev An := AV × List AObj
noncomputable def pE (k : Nat) (x : (AV × Mem) ⊕ Stop) : An ⊕ Stop := @Sum.rec _ _ (fun _ => An ⊕ Stop) (fun y => .inl (resV k y)) (fun y => .inr y) x
noncomputable def pL (k : Nat) (x : St3 ⊕ ((AV × Mem) ⊕ Stop)) : St3 ⊕ (An ⊕ Stop) := @Sum.rec _ _ (fun _ => St3 ⊕ (An ⊕ Stop)) (fun y => .inl y) (fun y => .inr (pE k y)) x
noncomputable def pO (k : Nat) (x : (St3 ⊕ ((AV × Mem) ⊕ Stop)) ⊕ Stop) : (St3 ⊕ (An ⊕ Stop)) ⊕ Stop := @Sum.rec _ _ (fun _ => (St3 ⊕ (An ⊕ Stop)) ⊕ Stop) (fun y => .inl (pL k y)) (fun y => .inr y) x
noncomputable def pI (k : Nat) (x : St3 ⊕ ((St3 ⊕ ((AV × Mem) ⊕ Stop)) ⊕ Stop)) : St3 ⊕ ((St3 ⊕ (An ⊕ Stop)) ⊕ Stop) := @Sum.rec _ _ (fun _ => St3 ⊕ ((St3 ⊕ (An ⊕ Stop)) ⊕ Stop)) (fun y => .inl y) (fun y => .inr (pO k y)) x
def KE (Q : An → Prop) (G : Stop → Prop) : An ⊕ Stop → Prop := fun y => match y with
  | .inl a => Q a
  | .inr s => G s
def KL (I : St3 → Prop) (Q : An → Prop) (G : Stop → Prop) : St3 ⊕ (An ⊕ Stop) → Prop := fun y => match y with
  | .inl s => I s
  | .inr y => KE Q G y
def KO (I : St3 → Prop) (Q : An → Prop) (G G2 : Stop → Prop) : (St3 ⊕ (An ⊕ Stop)) ⊕ Stop → Prop := fun y => match y with
  | .inl y => KL I Q G y
  | .inr s => G2 s
def KI (I2 I : St3 → Prop) (Q : An → Prop) (G G2 : Stop → Prop) : St3 ⊕ ((St3 ⊕ (An ⊕ Stop)) ⊕ Stop) → Prop := fun y => match y with
  | .inl s => I2 s
  | .inr y => KO I Q G G2 y
theorem pE_Q {k : Nat} {x : T ((AV × Mem) ⊕ Stop)} {Q : An → Prop} {G : Stop → Prop} (h : H x (fun y => KE Q G (pE k y)) F0) : H x (OkY (fun y => Q (resV k y)) G) F0 := h.mono fun y h => by cases y <;> exact h
theorem pL_Q {k : Nat} {x : T (St3 ⊕ ((AV × Mem) ⊕ Stop))} {I : St3 → Prop} {Q : An → Prop} {G : Stop → Prop} (h : H x (fun y => KL I Q G (pL k y)) F0) : H x (OkS I (OkY (fun y => Q (resV k y)) G)) F0 := h.mono fun y h => by
  cases y with
  | inl s => exact h
  | inr y => cases y <;> exact h
theorem pO_Q {k : Nat} {x : T ((St3 ⊕ ((AV × Mem) ⊕ Stop)) ⊕ Stop)} {I : St3 → Prop} {Q : An → Prop} {G G2 : Stop → Prop} (h : H x (fun y => KO I Q G G2 (pO k y)) F0) : H x (OkY (OkS I (OkY (fun y => Q (resV k y)) G)) G2) F0 := h.mono fun y h => by
  cases y with
  | inl y =>
    cases y with
    | inl s => exact h
    | inr y => cases y <;> exact h
  | inr s => exact h
theorem pI_Q {k : Nat} {x : T (St3 ⊕ ((St3 ⊕ ((AV × Mem) ⊕ Stop)) ⊕ Stop))} {I2 I : St3 → Prop} {Q : An → Prop} {G G2 : Stop → Prop} (h : H x (fun y => KI I2 I Q G G2 (pI k y)) F0) : H x (OkS I2 (OkY (OkS I (OkY (fun y => Q (resV k y)) G)) G2)) F0 := h.mono fun y h => by
  cases y with
  | inl s => exact h
  | inr y =>
    cases y with
    | inl y =>
      cases y with
      | inl s => exact h
      | inr y => cases y <;> exact h
    | inr s => exact h
end Go.Proofs.TabU
