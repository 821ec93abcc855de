/- Lemmas about the evaluator of the code. -/
import Derived.Test.YthnabafmjhackaaDoorClsR
set_option linter.all false
set_option linter.deprecated false
set_option maxRecDepth 1000000
set_option maxHeartbeats 4000000
namespace Go.Proofs.TabR
open Go Go.Eng
noncomputable def g22e : List AV → T AV
  | [.v (.float .f64 x), .v (.float .f64 y)] => .br (decide (x = y ∨ (nanW x = true ∧ nanW y = true))) (.ret (.b true)) .fail
  | _ => .fail
theorem c22e : Ctr Sx 22 g22e := by
  intro args Q h
  unfold g22e at h
  split at h
  · rename_i x y
    obtain ⟨e, h⟩ := br_ok h
    have e := of_decide_eq_true e
    have key : ∀ v : Bool, v = true → PQ Q (.b v) := fun v e => e ▸ ⟨rfl, h⟩
    refine ⟨rfl, ?_⟩
    refine H.sb 1 (fun b => ((!b) == false)) (Ieee.Format.order { exponentBits := 11, fractionBits := 52 } x x == some Ordering.eq) (by kernel_rfl) (fun h1 => ?_) (fun h1 => ?_)
    ·
     refine H.sb 3 (fun b => (!b)) (Ieee.Format.order { exponentBits := 11, fractionBits := 52 } y y == some Ordering.eq) (by kernel_rfl) (fun h2 => ?_) (fun h2 => ?_)
     ·
      refine H.lf (f := Prod.fst) 1 (AV.b (uI x == uI y)) (by kernel_rfl) ?_
      exact key _ (by rcases e with e | e; (subst e; exact eqf_same x); (rw [isnum_of h1] at e; exact absurd e.1 (by decide)))
     ·
      refine H.kb 0 (fun b => ((!b) == true)) (b := (Ieee.Format.order { exponentBits := 11, fractionBits := 52 } x x == some Ordering.eq)) (d := true) (by first | assumption) (by kernel_rfl) ?_
      refine H.lf (f := Prod.fst) 3 (AV.b false) (by kernel_rfl) ?_
      exfalso; rcases e with e | e; (subst e; rw [h1] at h2; cases h2); (rw [isnum_of h1] at e; exact absurd e.1 (by decide))
    ·
     refine H.kb 4 (fun b => ((!b) == true)) (b := (Ieee.Format.order { exponentBits := 11, fractionBits := 52 } x x == some Ordering.eq)) (d := false) (by first | assumption) (by kernel_rfl) ?_
     refine H.lf (f := Prod.fst) 3 (AV.b (Ieee.Format.order { exponentBits := 11, fractionBits := 52 } y y != some Ordering.eq)) (by kernel_rfl) ?_
     exact key _ (by rcases e with e | e; (subst e; exact eqf_nan h1); (exact eqf_nan (by rw [fo_self, e.2]; rfl)))
  · exact h.elim
theorem fo_eq0 {x y : Nat} (hx : nanW x = false) (hy : nanW y = false) : (fo x y == some .eq) = decide (svW x = svW y) := by
  rw [fo_sv hx hy]
  rcases Int.lt_trichotomy (svW x) (svW y) with h | h | h
  · rw [show compare (svW x) (svW y) = .lt from Int.compare_eq_lt.2 h]; symm; exact decide_eq_false (by omega)
  · rw [show compare (svW x) (svW y) = .eq from Int.compare_eq_eq.2 h]; symm; exact decide_eq_true (by omega)
  · rw [show compare (svW x) (svW y) = .gt from Int.compare_eq_gt.2 h]; symm; exact decide_eq_false (by omega)
def upP (x : Nat) : Prop := nanW x = false ∧ 0 < x % 9223372036854775808 ∧ x % 9223372036854775808 < 9218868437227405311
noncomputable instance (x : Nat) : Decidable (upP x) := Classical.propDecidable _
theorem Vr_pos {r : Nat} (h : 0 < r) : 0 < Vr r := by have := Vr_lt h; rw [Vr_zero] at this; exact this
theorem svMax : svW 9218868437227405311 = (Vr 9218868437227405311 : Int) := svp (by decide)
theorem svInf : svW 9218868437227405312 = (Vr 9218868437227405312 : Int) := svp (by decide)
theorem svMin : svW 18442240474082181119 = -(Vr 9218868437227405311 : Int) := svn (r := 9218868437227405311) (by decide)
theorem sv_cases (x : Nat) : (ngW x = false ∧ svW x = (Vr (x % 9223372036854775808) : Int)) ∨ (ngW x = true ∧ svW x = -(Vr (x % 9223372036854775808) : Int)) := by
  unfold svW
  cases ngW x
  · exact .inl ⟨rfl, rfl⟩
  · exact .inr ⟨rfl, rfl⟩
theorem up_of {x : Nat} (h1 : (fo x x == some .eq) = true) (h2 : (fo x 9218868437227405311 == some .lt) = true) (h3 : (fo x 18442240474082181119 == some .gt) = true) (h4 : (fo x 0 == some .eq) = false) : upP x := by
  have hn := isnum_of h1
  rw [(fo_is hn (by decide)).2.1, svMax] at h2
  rw [(fo_is hn (by decide)).1, svMin] at h3
  rw [fo_eq0 hn (by decide), sv0] at h4
  have h2 := of_decide_eq_true h2
  have h3 := of_decide_eq_true h3
  have h4 := of_decide_eq_false h4
  have hm := Vr_pos (by decide : 0 < 9218868437227405311)
  refine ⟨hn, ?_, ?_⟩
  · rcases Nat.eq_zero_or_pos (x % 9223372036854775808) with e | e
    · rcases sv_cases x with ⟨_, k⟩ | ⟨_, k⟩ <;> rw [e, Vr_zero] at k <;> exact absurd k (by omega)
    · exact e
  · refine Vr_lt_iff.1 ?_
    rcases sv_cases x with ⟨_, k⟩ | ⟨_, k⟩ <;> rw [k] at h2 h3 <;> omega
noncomputable def upO (x : Nat) : Nat := opq (if ngW x = true then x - 1 else x + 1)
theorem upO_eq (x : Nat) : upO x = if ngW x = true then x - 1 else x + 1 := opq_eq _
theorem ng_iff {x : Nat} (hx : x < 18446744073709551616) : ngW x = true ↔ 9223372036854775808 ≤ x := by unfold ngW; simp only [beq_iff_eq]; omega
theorem upO_lt {x : Nat} (hx : x < 18446744073709551616) (h : upP x) : upO x < 18446744073709551616 := by
  rw [upO_eq]; have := h.2.2; split <;> omega
theorem up_a {x : Nat} (h : upP x) (h2 : (fo x 9218868437227405312 == some .eq) = true) : False := by
  rw [fo_eq0 h.1 (by decide), svInf] at h2
  have h2 := of_decide_eq_true h2
  have hm := Vr_pos (by decide : 0 < 9218868437227405312)
  have h3 := Vr_lt (show x % 9223372036854775808 < 9218868437227405312 by have := h.2.2; omega)
  rcases sv_cases x with ⟨_, k⟩ | ⟨_, k⟩ <;> omega
theorem up_b {x : Nat} (h : upP x) (h2 : (fo x 0 == some .eq) = true) : False := by
  rw [fo_eq0 h.1 (by decide), sv0] at h2
  have h2 := of_decide_eq_true h2
  have hm := Vr_pos h.2.1
  rcases sv_cases x with ⟨_, k⟩ | ⟨_, k⟩ <;> omega
theorem up_inf {x : Nat} (h : upP x) : (fo 9218868437227405312 x == some .gt) = true := by
  rw [(fo_is (by decide) h.1).1, svInf]
  have h3 := Vr_lt (show x % 9223372036854775808 < 9218868437227405312 by have := h.2.2; omega)
  refine decide_eq_true ?_
  rcases sv_cases x with ⟨_, k⟩ | ⟨_, k⟩ <;> omega
theorem up_c {x : Nat} (hx : x < 18446744073709551616) (h : upP x) (h4 : ((fo 9218868437227405312 x == some .gt) == (fo x 0 == some .gt)) = true) : Int.toNat (wr .u64 (uI x + 1)) = upO x := by
  rw [up_inf h, E7 h.1] at h4
  have hg : ngW x = false := by cases hh : ngW x with
    | false => rfl
    | true => rw [hh] at h4; cases h4
  rw [upO_eq, hg, uI_eq, wru64]
  have := h.2.2
  have hn : ¬ 9223372036854775808 ≤ x := fun hc => by rw [(ng_iff hx).2 hc] at hg; cases hg
  show _ = x + 1
  omega
theorem up_d {x : Nat} (hx : x < 18446744073709551616) (h : upP x) (h4 : ((fo 9218868437227405312 x == some .gt) == (fo x 0 == some .gt)) = false) : Int.toNat (wr .u64 (uI x - 1)) = upO x := by
  rw [up_inf h, E7 h.1, decide_eq_true h.2.1] at h4
  have hg : ngW x = true := by cases hh : ngW x with
    | true => rfl
    | false => rw [hh] at h4; cases h4
  rw [upO_eq, hg, uI_eq, wru64]
  have hn := (ng_iff hx).1 hg
  show _ = x - 1
  omega
theorem up_bits {x : Nat} (hx : x < 18446744073709551616) (h : upP x) : bitsO (upO x) = wr .u64 (bitsO x + 1) := by
  have h1 := h.1; have h2 := h.2.1; have h3 := h.2.2
  rw [bitsO_eq, bitsO_eq, upO_eq, wru64]
  cases hg : ngW x with
  | true =>
    have hn := (ng_iff hx).1 hg
    rw [if_pos rfl, bits_hi h1 (by omega), bits_hi (x := x - 1) (nanF.2 (by omega)) (by omega)]
    omega
  | false =>
    have hn : ¬ 9223372036854775808 ≤ x := fun hc => by rw [(ng_iff hx).2 hc] at hg; cases hg
    rw [if_neg (by decide), bits_lo h1 (by omega), bits_lo (x := x + 1) (nanF.2 (by omega)) (by omega)]
    omega
noncomputable def g35 : List AV → T AV
  | [.v (.float .f64 x), .v (.float .f64 y)] => .br (decide (x < 18446744073709551616)) (.br (decide (upP x)) (.br (decide (y = 9218868437227405312)) (.ret (fv (upO x))) .fail) .fail) .fail
  | _ => .fail
theorem c35 : Ctr Sx 35 g35 := by
  intro args Q h
  unfold g35 at h
  split at h
  · rename_i x y
    obtain ⟨hx, h⟩ := br_ok h
    have hx := of_decide_eq_true hx
    obtain ⟨hu, h⟩ := br_ok h
    have hu := of_decide_eq_true hu
    obtain ⟨hy, h⟩ := br_ok h
    have hy := of_decide_eq_true hy
    have key : ∀ v : Nat, v = upO x → PQ Q (fv v) := fun v e => e ▸ ⟨rfl, h⟩
    clear h
    subst hy
    refine ⟨rfl, ?_⟩
    refine H.sb 2 (fun b => ((!b) == false)) (Ieee.Format.order { exponentBits := 11, fractionBits := 52 } x x == some Ordering.eq) (by kernel_rfl) (fun h1 => ?_) (fun h1 => ?_)
    ·
     refine H.sb 4 (fun b => b) (Ieee.Format.order { exponentBits := 11, fractionBits := 52 } x 9218868437227405312 == some Ordering.eq) (by kernel_rfl) (fun h2 => ?_) (fun h2 => ?_)
     ·
      refine H.lf (f := Prod.fst) 0 (AV.v (Value.float FloatKind.f64 x)) (by kernel_rfl) ?_
      exact (up_a hu h2).elim
     ·
      refine H.sb 0 (fun b => b) (Ieee.Format.order { exponentBits := 11, fractionBits := 52 } x 0 == some Ordering.eq) (by kernel_rfl) (fun h3 => ?_) (fun h3 => ?_)
      ·
       refine H.lf (f := Prod.fst) 4 (AV.v (Value.float FloatKind.f64 (Int.toNat (wr IntKind.u64 (↑(BitVec.toNat (BitVec.ofInt 64 (wr IntKind.u64 (↑(BitVec.toNat (BitVec.ofInt 64 (uI (Int.toNat 1)) &&& ~~~BitVec.ofInt 64 9223372036854775808)) : Int)) ||| BitVec.ofInt 64 (wr IntKind.u64 (↑(BitVec.toNat (BitVec.ofInt 64 (uI 9218868437227405312) &&& BitVec.ofInt 64 9223372036854775808)) : Int)))) : Int))))) (by kernel_rfl) ?_
       exact (up_b hu h3).elim
      ·
       refine H.sb 0 (fun b => b) ((Ieee.Format.order { exponentBits := 11, fractionBits := 52 } 9218868437227405312 x == some Ordering.gt) == (Ieee.Format.order { exponentBits := 11, fractionBits := 52 } x 0 == some Ordering.gt)) (by kernel_rfl) (fun h4 => ?_) (fun h4 => ?_)
       ·
        refine H.lf (f := Prod.fst) 1 (AV.v (Value.float FloatKind.f64 (Int.toNat (wr IntKind.u64 (uI x + 1))))) (by kernel_rfl) ?_
        exact key _ (up_c hx hu h4)
       ·
        refine H.lf (f := Prod.fst) 1 (AV.v (Value.float FloatKind.f64 (Int.toNat (wr IntKind.u64 (uI x - 1))))) (by kernel_rfl) ?_
        exact key _ (up_d hx hu h4)
    ·
     refine H.lf (f := Prod.fst) 4 (AV.v (Value.float FloatKind.f64 (Int.toNat 9221120237041090561))) (by kernel_rfl) ?_
     exact absurd (isnan_of h1) (by rw [hu.1]; decide)
  · exact h.elim
/-- A float and its number. -/
theorem of_bits {x : Nat} (hx : x < 18446744073709551616) : ofO (bitsO x) = x ∨ (nanW (ofO (bitsO x)) = true ∧ nanW x = true) := by
  rw [ofO_eq, bitsO_eq]
  cases hn : nanW x with
  | true => rw [bits_nan hn]; exact .inr ⟨by decide +kernel, rfl⟩
  | false =>
    have e : ofU (bitsV x) = x := by
      unfold ofU
      by_cases h : x < 9223372036854775808
      · rw [bits_lo hn h, if_neg (by omega)]; omega
      · rw [bits_hi hn h, if_pos (by omega)]; omega
    unfold ofV
    rw [e, hn]; exact .inl rfl
theorem cmpO_lt0 (x y : Nat) : cmpO x y < 0 ↔ bitsO x < bitsO y := by rw [cmpO_eq, bitsO_eq, bitsO_eq]; exact cmp_lt
theorem cmpO_gt0 (x y : Nat) : cmpO x y > 0 ↔ bitsO x > bitsO y := by rw [cmpO_eq, bitsO_eq, bitsO_eq]; exact cmp_gt
theorem cmpO_neg (x y : Nat) : cmpO x y = wr .i64 (0 - cmpO y x) := by
  rw [cmpO_eq, cmpO_eq]
  have k : cmpV x y = -cmpV y x := by
    unfold cmpV
    repeat' split
    all_goals omega
  rw [k]
  have r : -1 ≤ cmpV y x ∧ cmpV y x ≤ 1 := by unfold cmpV; repeat' split
                                              all_goals omega
  rw [wr64 (by omega) (by omega)]; omega
theorem bits_sv {x y : Nat} (hx : x < 18446744073709551616) (hy : y < 18446744073709551616) (nx : nanW x = false) (ny : nanW y = false) (h : svW x < svW y) : bitsV x < bitsV y := by
  rcases sv_cases x with ⟨a, k⟩ | ⟨a, k⟩ <;> rcases sv_cases y with ⟨b, k'⟩ | ⟨b, k'⟩
  · have := Vr_lt_iff.1 (show Vr (x % 9223372036854775808) < Vr (y % 9223372036854775808) by omega)
    have h1 : ¬ 9223372036854775808 ≤ x := fun hc => by rw [(ng_iff hx).2 hc] at a; cases a
    have h2 : ¬ 9223372036854775808 ≤ y := fun hc => by rw [(ng_iff hy).2 hc] at b; cases b
    rw [bits_lo nx (by omega), bits_lo ny (by omega)]; omega
  · exact absurd h (by omega)
  · have h2 : ¬ 9223372036854775808 ≤ y := fun hc => by rw [(ng_iff hy).2 hc] at b; cases b
    have h1 := (ng_iff hx).1 a
    rw [bits_hi nx (by omega), bits_lo ny (by omega)]; omega
  · have := Vr_lt_iff.1 (show Vr (y % 9223372036854775808) < Vr (x % 9223372036854775808) by omega)
    have h1 := (ng_iff hx).1 a
    have h2 := (ng_iff hy).1 b
    rw [bits_hi nx (by omega), bits_hi ny (by omega)]; omega
theorem fo_nanL {x y : Nat} (h : nanW x = true) : fo x y = none := by
  obtain ⟨t, e⟩ := read_nan h
  show Ieee.Datum.order _ _ = none
  rw [e]; rfl
theorem fo_nanR {x y : Nat} (h : nanW y = true) : fo x y = none := by
  obtain ⟨t, e⟩ := read_nan h
  show Ieee.Datum.order _ _ = none
  rw [e]
  rcases cases_w x with k | k | k
  · rw [read_num k]; rfl
  · rw [read_inf k]; rfl
  · obtain ⟨t, e⟩ := read_nan k; rw [e]; rfl
theorem nan_fo {x y : Nat} {o : Ordering} (h : (fo x y == some o) = true) : nanW x = false ∧ nanW y = false := by
  refine ⟨?_, ?_⟩
  · cases hn : nanW x with
    | false => rfl
    | true => rw [fo_nanL hn] at h; cases h
  · cases hn : nanW y with
    | false => rfl
    | true => rw [fo_nanR hn] at h; cases h
theorem lt_cmp {x y : Nat} (hx : x < 18446744073709551616) (hy : y < 18446744073709551616) (h : (fo x y == some .lt) = true) : cmpO x y < 0 := by
  have ⟨a, b⟩ := nan_fo h
  rw [(fo_is a b).2.1] at h
  rw [cmpO_eq]; exact cmp_lt.2 (bits_sv hx hy a b (of_decide_eq_true h))
theorem gt_cmp {x y : Nat} (hx : x < 18446744073709551616) (hy : y < 18446744073709551616) (h : (fo x y == some .gt) = true) : cmpO x y > 0 := by
  have ⟨a, b⟩ := nan_fo h
  rw [(fo_is a b).1] at h
  rw [cmpO_eq]; exact cmp_gt.2 (bits_sv hy hx b a (of_decide_eq_true h))
theorem cmpE1 (x y : Nat) : (decide (cmpO x y < 0) == decide (bitsO x < bitsO y)) = true := by rw [decide_eq_decide.2 (cmpO_lt0 x y)]; exact beq_self_eq_true _
theorem cmpE2 (x y : Nat) : (decide (cmpO x y > 0) == decide (bitsO x > bitsO y)) = true := by rw [decide_eq_decide.2 (cmpO_gt0 x y)]; exact beq_self_eq_true _
theorem lt_cmpN {x y : Nat} (h : (fo x y == some .lt) = true) (hx : x < 18446744073709551616) (hy : y < 18446744073709551616) : ¬ cmpO x y ≥ 0 := by have := lt_cmp hx hy h; omega
theorem gt_cmpN {x y : Nat} (h : (fo x y == some .gt) = true) (hx : x < 18446744073709551616) (hy : y < 18446744073709551616) : ¬ cmpO x y ≤ 0 := by have := gt_cmp hx hy h; omega
theorem up_bitsN {x : Nat} (hx : x < 18446744073709551616) (h1 : (fo x x == some .eq) = true) (h2 : (fo x 9218868437227405311 == some .lt) = true) (h3 : (fo x 18442240474082181119 == some .gt) = true) (h4 : (fo x 0 == some .eq) = false) : bitsO (upO x) = wr .u64 (bitsO x + 1) := up_bits hx (up_of h1 h2 h3 h4)
theorem upO_ltN {x : Nat} (hx : x < 18446744073709551616) (h1 : (fo x x == some .eq) = true) (h2 : (fo x 9218868437227405311 == some .lt) = true) (h3 : (fo x 18442240474082181119 == some .gt) = true) (h4 : (fo x 0 == some .eq) = false) : upO x < 18446744073709551616 := upO_lt hx (up_of h1 h2 h3 h4)
noncomputable def Se : Sp := fun n => bif2 (Nat.beq n 22) (some (treeS g22e)) (bif2 (Nat.beq n 35) (some (treeS g35)) (Sd n))
theorem se (k : Nat) : SOk Tryd.prog (nR k) Se := sctr (sx _) (sctr (sx _) (sd k) c35) c22e
end Go.Proofs.TabR
