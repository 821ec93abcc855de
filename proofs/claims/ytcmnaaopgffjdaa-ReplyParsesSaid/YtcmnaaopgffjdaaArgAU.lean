/- How a law of loops is proved out of its rounds; without conditions. -/
import Derived.Test.YtcmnaaopgffjdaaEngMd
import Derived.Test.YtcmnaaopgffjdaaBaseU
set_option linter.all false
set_option linter.deprecated false
set_option maxRecDepth 1000000
set_option maxHeartbeats 4000000
namespace Go.Proofs.TabU
open Go Go.Eng
noncomputable abbrev big4 : Nat := Nat.pow 2 (Nat.mul 32 4)
/-- A law's way to its first loop; a round of its loop at a path. -/
noncomputable abbrev lawE (S : Sp) (fi : FI) (args : List AV) (M : Mem) : T ((AV × Mem) ⊕ Stop) := evS Try.prog (ttOf tts) (ev S 4) args fi.keep 1048576 big4 [] fi.code (argTmps args 0) M (endR (evEnd M.next args (ttOf tts) fi))
noncomputable def cAt (c : Code) (p : List Nat) : Code := (loopAt c p).getD .skip
noncomputable abbrev lawL (S : Sp) (fi : FI) (n0 : Nat) (p : List Nat) (base : Nat) (args : List AV) (s : St3) : T (St3 ⊕ ((AV × Mem) ⊕ Stop)) :=
  (evCode Try.prog (ttOf tts) (ev S 4) args fi.keep 1048576 big4 (cAt fi.code p) (cst fi.keep.l s.1) (memL s.2.1 s.2.2)).bind (stepR args fi.keep base (contR Try.prog (ttOf tts) (ev S 4) args fi.keep 1048576 big4 fi.code p [] (endR (evEnd n0 args (ttOf tts) fi))))
noncomputable def oc {α β : Type} (x : (AV × α) ⊕ β) : AV ⊕ β := @Sum.rec _ _ (fun _ => AV ⊕ β) (fun y => .inl y.1) (fun y => .inr y) x
noncomputable def oc2 {α β γ : Type} (x : γ ⊕ ((AV × α) ⊕ β)) : γ ⊕ (AV ⊕ β) := @Sum.rec _ _ (fun _ => γ ⊕ (AV ⊕ β)) (fun y => .inl y) (fun y => .inr (oc y)) x
/-- What is asked of the answers. -/
def OkE (G : Stop → Prop) : AV ⊕ Stop → Prop := fun y => match y with
  | .inl a => a = .b true
  | .inr s => G s
def OkL (I : St3 → Prop) (G : Stop → Prop) : St3 ⊕ (AV ⊕ Stop) → Prop := fun y => match y with
  | .inl s => I s
  | .inr y => OkE G y
theorem lawE_H {x : T ((AV × Mem) ⊕ Stop)} {G : Stop → Prop} {v : Option (AV ⊕ Stop)} (h : x.runV oc = v) (hq : ∃ b, v = some b ∧ OkE G b) : H x (OkY (fun y : AV × Mem => y.1 = .b true) G) (fun _ _ => False) :=
  (H.run (f := oc) (Q := OkE G) h hq).mono fun y h => by cases y <;> exact h
theorem lawL_H {x : T (St3 ⊕ ((AV × Mem) ⊕ Stop))} {I : St3 → Prop} {G : Stop → Prop} {v : Option (St3 ⊕ (AV ⊕ Stop))} (h : x.runV oc2 = v) (hq : ∃ b, v = some b ∧ OkL I G b) : H x (OkS I (OkY (fun y : AV × Mem => y.1 = .b true) G)) (fun _ _ => False) :=
  (H.run (f := oc2) (Q := OkL I G) h hq).mono fun y h => by
    cases y with
    | inl s => exact h
    | inr y => cases y <;> exact h
theorem lawE_Q {x : T ((AV × Mem) ⊕ Stop)} {G : Stop → Prop} (h : H x (fun y => OkE G (oc y)) (fun _ _ => False)) : H x (OkY (fun y : AV × Mem => y.1 = .b true) G) (fun _ _ => False) := h.mono fun y h => by cases y <;> exact h
theorem lawL_Q {x : T (St3 ⊕ ((AV × Mem) ⊕ Stop))} {I : St3 → Prop} {G : Stop → Prop} (h : H x (fun y => OkL I G (oc2 y)) (fun _ _ => False)) : H x (OkS I (OkY (fun y : AV × Mem => y.1 = .b true) G)) (fun _ _ => False) := h.mono fun y h => by
  cases y with
  | inl s => exact h
  | inr y => cases y <;> exact h
/-- A law of one loop. -/
theorem law1 {S : Sp} {f : Nat} {fi : FI} {args : List AV} {M : Mem} (hS : S f = none) (hF : (fns false).get f = some fi) (hn : Nat.ble args.length fi.n = true) (hz : fi.keep.z = false) (rp : List Nat) (base : Nat) (n0 : Nat) (hn0 : M.next = n0)
    (hc : (loopAt fi.code rp.reverse).isSome = true) (Inv : Nat → St3 → Prop)
    (h0 : H (lawE S fi args M) (OkY (fun y : AV × Mem => y.1 = .b true) (fun t => t.1 = rp ∧ t.2.1 = base ∧ ∃ m, m < 1048576 ∧ Inv m t.2.2)) (fun _ _ => False))
    (step : ∀ m s, Inv m s → H (lawL S fi n0 rp.reverse base args s) (OkS (fun s' => ∃ m', m' < m ∧ Inv m' s') (OkY (fun y : AV × Mem => y.1 = .b true) (fun _ => False))) (fun _ _ => False)) :
    H (ev S 5 f args M) (fun x => x.1 = .b true) (fun _ _ => False) := by
  refine evFun_open hS hF hn ?_
  refine evS_ok fi.code (pre := []) (G := fun t => t.1 = rp ∧ t.2.1 = base ∧ ∃ m, m < 1048576 ∧ Inv m t.2.2) (fun r h => endR_ok r h) ?_ h0
  intro p b s hg
  obtain ⟨h1, h2, m, hm, hi⟩ := hg
  rw [List.append_nil] at h1
  dsimp only at h1 h2 hi
  subst h1 h2
  obtain ⟨c, hc'⟩ := Option.isSome_iff_exists.1 hc
  refine ⟨c, hc', ?_⟩
  have hcAt : cAt fi.code p.reverse = c := by unfold cAt; rw [hc']; rfl
  refine loop_run hz Inv (KR := contR Try.prog (ttOf tts) (ev S 4) args fi.keep 1048576 big4 fi.code p.reverse [] (endR (evEnd M.next args (ttOf tts) fi))) (G := fun _ => False) ?_ ?_ m s hm hi
  · exact fun r h => contR_ok fi.code (pre := []) (G := fun _ => False) (fun r h => endR_ok r h) (fun p b s hg => hg.elim) r h
  · intro m s hi
    have := step m s hi
    rw [hn0]
    unfold lawL at this
    rw [hcAt] at this
    exact this
end Go.Proofs.TabU
