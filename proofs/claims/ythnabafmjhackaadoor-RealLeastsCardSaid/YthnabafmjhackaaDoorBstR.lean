/- Lemmas about the evaluator of the code. -/
import Derived.Test.YthnabafmjhackaaDoorBstA
set_option linter.all false
set_option linter.deprecated false
set_option maxRecDepth 1000000
set_option maxHeartbeats 4000000
namespace Go.Proofs.TabR
open Go Go.Eng
theorem zero_add_toNat (i : Nat) : 0 + Int.toNat (i : Int) = i := by omega
theorem all_getD {w : List Nat} (h : ∀ x ∈ w, x < 18446744073709551616) (j : Nat) : w.getD j 0 < 18446744073709551616 := by
  by_cases hj : j < w.length
  · rw [List.getD_eq_getElem?_getD, List.getElem?_eq_getElem hj]; exact h _ (List.getElem_mem hj)
  · rw [List.getD_eq_getElem?_getD, List.getElem?_eq_none (by omega)]; decide
def wOk (m mm : Nat) (w : List Nat) : Prop := m ≤ mm ∧ m ≤ 1000 ∧ ∀ x ∈ w, x < 18446744073709551616
noncomputable instance (m mm : Nat) (w : List Nat) : Decidable (wOk m mm w) := Classical.propDecidable _
noncomputable def k46 : List AV → List AObj → T An
  | [.sl 0 0 m _, .i .i64 sg], [.vec _ mm [.cf .f64 w]] => .br (decide (wOk m mm w)) (.ret (fv (bstO sg w m), [])) .fail
  | [.sl 0 0 0 _, .i .i64 _], [.own _ 1 []] => .ret (fv 9221120237041090561, [])
  | _, _ => .fail
noncomputable def k29 : List AV → List AObj → T An
  | [.sl 0 0 m _], [.vec _ mm [.cf .f64 w]] => .br (decide (wOk m mm w)) (.ret (fv (bstO (-1) w m), [])) .fail
  | [.sl 0 0 0 _], [.own _ 1 []] => .ret (fv 9221120237041090561, [])
  | _, _ => .fail
noncomputable def k31 : List AV → List AObj → T An
  | [.sl 0 0 m _], [.vec _ mm [.cf .f64 w]] => .br (decide (wOk m mm w)) (.ret (fv (bstO 1 w m), [])) .fail
  | [.sl 0 0 0 _], [.own _ 1 []] => .ret (fv 9221120237041090561, [])
  | _, _ => .fail
section
variable {e m mm : Nat} {cap : Option Nat} {w : List Nat}
def I46 (e m mm : Nat) (cap : Option Nat) (w : List Nat) (sg : Int) (k : Nat) (s : St3) : Prop := ∃ (i : Nat) (t : Bool), i ≤ m ∧ k = m - i ∧ t = (!nanW (bstO sg w i)) ∧ s = ([.i .i64 sg, fv (bstO sg w i), .b t, .sl 0 0 m cap, iv m, iv i], 1, [.vec e mm [.cf .f64 w]])
def I29 (e m mm : Nat) (cap : Option Nat) (w : List Nat) (sg : Int) (k : Nat) (s : St3) : Prop := ∃ (i : Nat), i ≤ m ∧ k = m - i ∧ s = ([.sl 0 0 m cap, fv (bstO sg w i), iv i], 1, [.vec e mm [.cf .f64 w]])
variable {Q : An → Prop}
theorem ag46 {sg : Int} {k i x : Nat} {t : Bool} (hk : k = m - i) (hm : m ≤ 1000) (h : i < m) (hx : x = bstO sg w (i + 1)) (ht : t = (!nanW (bstO sg w (i + 1)))) {G : Stop → Prop} :
    KL (fun s' => ∃ m', m' < k ∧ I46 e m mm cap w sg m' s') Q G (.inl ([.i .i64 sg, fv x, .b t, .sl 0 0 m cap, iv m, iv (wr .i64 ((i : Int) + 1))], 1, [.vec e mm [.cf .f64 w]])) := by
  have hlt : m - (i + 1) < k := by omega
  exact ⟨_, hlt, i + 1, t, by omega, rfl, ht, by rw [wr64 (by omega) (by omega), hx]; rfl⟩
theorem ag29 {sg : Int} {k i x : Nat} (hk : k = m - i) (hm : m ≤ 1000) (h : i < m) (hx : x = bstO sg w (i + 1)) {G : Stop → Prop} :
    KL (fun s' => ∃ m', m' < k ∧ I29 e m mm cap w sg m' s') Q G (.inl ([.sl 0 0 m cap, fv x, iv (wr .i64 ((i : Int) + 1))], 1, [.vec e mm [.cf .f64 w]])) := by
  have hlt : m - (i + 1) < k := by omega
  exact ⟨_, hlt, i + 1, by omega, rfl, by rw [wr64 (by omega) (by omega), hx]; rfl⟩
theorem v46 : Vb Sc 46 k46 := by
  intro args objs Q h
  unfold k46 at h
  split at h
  · rename_i m cap sg e mm w
    obtain ⟨h1, hq⟩ := br_ok h
    obtain ⟨hmm, hm, hw⟩ := of_decide_eq_true h1
    have hq : Q (fv (bstO sg w m), []) := hq
    have hw := all_getD hw
    have hb := bst_lt (sg := sg) hw
    refine fn1 (fi := fi46 false) (by kernel_rfl) (by kernel_rfl) (by kernel_rfl) rfl [0, 1, 0, 1, 1] 1 1 rfl (by kernel_rfl) (I46 e m mm cap w sg) ?_ ?_
    · refine pE_Q (k := 1) ?_
      refine H.lf (f := pE 1) 1 (Sum.inr ([0, 1, 0, 1, 1], 1, [AV.i IntKind.i64 sg, AV.v (Value.float FloatKind.f64 (Int.toNat 9221120237041090561)), AV.b false, AV.sl 0 0 m cap, AV.i IntKind.i64 (↑m : Int), AV.i IntKind.i64 0], 1, [AObj.vec e mm [Col.cf FloatKind.f64 w]])) (by kernel_rfl) ?_
      have hlt : m - 0 < 1048576 := by omega
      exact ⟨rfl, rfl, _, hlt, 0, false, by omega, rfl, by rw [← bst_zero]; decide +kernel, by rw [bst_zero sg w]; rfl⟩
    · rintro k _ ⟨i, t, hi, hk, ht, rfl⟩
      refine pL_Q (k := 1) ?_
      have ez := zero_add_toNat i
      refine H.sd 1 (fun b => b) ((↑i : Int) < (↑m : Int)) (by kernel_rfl) (fun h1 => ?_) (fun h1 => ?_)
      ·
       refine H.kd 2 (fun b => b) ((↑i : Int) < (↑m : Int)) (by (first | assumption | omega | with_reducible exact hw _ | with_reducible exact hb _)) (by kernel_rfl) ?_
       refine H.kl 0 (fun b => b) (0 + Int.toNat (↑i : Int)) (mm) (by (first | assumption | omega | with_reducible exact hw _ | with_reducible exact hb _)) (by kernel_rfl) ?_
       refine H.sb 0 (fun b => (b == true)) (Ieee.Format.order { exponentBits := 11, fractionBits := 52 } (List.getD w (0 + Int.toNat (↑i : Int)) 0) (List.getD w (0 + Int.toNat (↑i : Int)) 0) == some Ordering.eq) (by kernel_rfl) (fun h2 => ?_) (fun h2 => ?_)
       ·
        refine H.sb 2 (fun b => ((!b) == false)) (t) (by kernel_rfl) (fun h3 => ?_) (fun h3 => ?_)
        ·
         refine H.kd 2 (fun b => b) (List.getD w (0 + Int.toNat (↑i : Int)) 0 < 18446744073709551616) (by (first | assumption | omega | with_reducible exact hw _ | with_reducible exact hb _)) (by kernel_rfl) ?_
         refine H.kd 0 (fun b => b) (bstO sg w i < 18446744073709551616) (by (first | assumption | omega | with_reducible exact hw _ | with_reducible exact hb _)) (by kernel_rfl) ?_
         refine H.se 6 (fun b => b) (cmpO (List.getD w (0 + Int.toNat (↑i : Int)) 0) (bstO sg w i)) (sg) (by kernel_rfl) (fun h4 => ?_) (fun h4 => ?_)
         ·
          refine H.lf (f := pL 1) 1 (Sum.inl ([AV.i IntKind.i64 sg, AV.v (Value.float FloatKind.f64 (List.getD w (0 + Int.toNat (↑i : Int)) 0)), AV.b true, AV.sl 0 0 m cap, AV.i IntKind.i64 (↑m : Int), AV.i IntKind.i64 (wr IntKind.i64 ((↑i : Int) + 1))], 1, [AObj.vec e mm [Col.cf FloatKind.f64 w]])) (by kernel_rfl) ?_
          rw [ez] at h2 h4 ⊢; have hn := isnum_of h2; have hx := bst_cmp (sg := sg) hn h4; exact ag46 hk hm (by omega) hx (by rw [← hx, hn]; rfl)
         ·
          refine H.lf (f := pL 1) 1 (Sum.inl ([AV.i IntKind.i64 sg, AV.v (Value.float FloatKind.f64 (bstO sg w i)), AV.b t, AV.sl 0 0 m cap, AV.i IntKind.i64 (↑m : Int), AV.i IntKind.i64 (wr IntKind.i64 ((↑i : Int) + 1))], 1, [AObj.vec e mm [Col.cf FloatKind.f64 w]])) (by kernel_rfl) ?_
          rw [ez] at h2 h4; have hn : nanW (bstO sg w i) = false := by rw [h3] at ht; simpa using ht.symm
          have hx := bst_old hn h4; exact ag46 hk hm (by omega) hx (by rw [← hx]; exact ht)
        ·
         refine H.lf (f := pL 1) 9 (Sum.inl ([AV.i IntKind.i64 sg, AV.v (Value.float FloatKind.f64 (List.getD w (0 + Int.toNat (↑i : Int)) 0)), AV.b true, AV.sl 0 0 m cap, AV.i IntKind.i64 (↑m : Int), AV.i IntKind.i64 (wr IntKind.i64 ((↑i : Int) + 1))], 1, [AObj.vec e mm [Col.cf FloatKind.f64 w]])) (by kernel_rfl) ?_
         rw [ez] at h2 ⊢; have hn := isnum_of h2; have hn2 : nanW (bstO sg w i) = true := by rw [h3] at ht; simpa using ht.symm
         have hx := bst_new hn hn2; exact ag46 hk hm (by omega) hx (by rw [← hx, hn]; rfl)
       ·
        refine H.lf (f := pL 1) 11 (Sum.inl ([AV.i IntKind.i64 sg, AV.v (Value.float FloatKind.f64 (bstO sg w i)), AV.b t, AV.sl 0 0 m cap, AV.i IntKind.i64 (↑m : Int), AV.i IntKind.i64 (wr IntKind.i64 ((↑i : Int) + 1))], 1, [AObj.vec e mm [Col.cf FloatKind.f64 w]])) (by kernel_rfl) ?_
        rw [ez] at h2; have hx := bst_nan (sg := sg) (isnan_of h2); exact ag46 hk hm (by omega) hx (by rw [← hx]; exact ht)
      ·
       refine H.lf (f := pL 1) 0 (Sum.inr (Sum.inl (AV.v (Value.float FloatKind.f64 (bstO sg w i)), []))) (by kernel_rfl) ?_
       obtain rfl : i = m := by omega
       exact hq
  · rename_i cap sg e
    have h : Q (fv 9221120237041090561, []) := h
    refine H.lf (f := resV 1) 4 (AV.v (Value.float FloatKind.f64 9221120237041090561), []) (by kernel_rfl) h
  · exact h.elim
theorem v29 : Vb Sc 29 k29 := by
  intro args objs Q h
  unfold k29 at h
  split at h
  · rename_i m cap e mm w
    obtain ⟨h1, hq⟩ := br_ok h
    obtain ⟨hmm, hm, hw⟩ := of_decide_eq_true h1
    have hq : Q (fv (bstO (-1) w m), []) := hq
    have hw := all_getD hw
    have hb := bst_lt (sg := -1) hw
    refine fn1 (fi := fi29 false) (by kernel_rfl) (by kernel_rfl) (by kernel_rfl) rfl [0, 1, 0, 1, 1] 1 1 rfl (by kernel_rfl) (I29 e m mm cap w (-1)) ?_ ?_
    · refine pE_Q (k := 1) ?_
      refine H.lf (f := pE 1) 1 (Sum.inr ([0, 1, 0, 1, 1], 1, [AV.sl 0 0 m cap, AV.v (Value.float FloatKind.f64 (Int.toNat 9221120237041090561)), AV.i IntKind.i64 0], 1, [AObj.vec e mm [Col.cf FloatKind.f64 w]])) (by kernel_rfl) ?_
      have hlt : m - 0 < 1048576 := by omega
      exact ⟨rfl, rfl, _, hlt, 0, by omega, rfl, by rw [bst_zero (-1) w]; rfl⟩
    · rintro k _ ⟨i, hi, hk, rfl⟩
      refine pL_Q (k := 1) ?_
      have ez := zero_add_toNat i
      refine H.sd 1 (fun b => b) ((↑i : Int) < (↑m : Int)) (by kernel_rfl) (fun h1 => ?_) (fun h1 => ?_)
      ·
       refine H.kd 5 (fun b => b) ((↑i : Int) < (↑m : Int)) (by (first | assumption | omega | with_reducible exact hw _ | with_reducible exact hb _)) (by kernel_rfl) ?_
       refine H.kl 1 (fun b => b) (0 + Int.toNat (↑i : Int)) (mm) (by (first | assumption | omega | with_reducible exact hw _ | with_reducible exact hb _)) (by kernel_rfl) ?_
       refine H.kd 5 (fun b => b) ((↑i : Int) < (↑m : Int)) (by (first | assumption | omega | with_reducible exact hw _ | with_reducible exact hb _)) (by kernel_rfl) ?_
       refine H.kl 1 (fun b => b) (0 + Int.toNat (↑i : Int)) (mm) (by (first | assumption | omega | with_reducible exact hw _ | with_reducible exact hb _)) (by kernel_rfl) ?_
       refine H.sb 3 (fun b => (b == true)) (Ieee.Format.order { exponentBits := 11, fractionBits := 52 } (List.getD w (0 + Int.toNat (↑i : Int)) 0) (List.getD w (0 + Int.toNat (↑i : Int)) 0) == some Ordering.eq) (by kernel_rfl) (fun h2 => ?_) (fun h2 => ?_)
       ·
        refine H.kb 1 (fun b => (b == true)) (b := (Ieee.Format.order { exponentBits := 11, fractionBits := 52 } (List.getD w (0 + Int.toNat (↑i : Int)) 0) (List.getD w (0 + Int.toNat (↑i : Int)) 0) == some Ordering.eq)) (d := true) (by (first | assumption | omega | with_reducible exact hw _ | with_reducible exact hb _)) (by kernel_rfl) ?_
        refine H.kb 1 (fun b => (b == true)) (b := (Ieee.Format.order { exponentBits := 11, fractionBits := 52 } (List.getD w (0 + Int.toNat (↑i : Int)) 0) (List.getD w (0 + Int.toNat (↑i : Int)) 0) == some Ordering.eq)) (d := true) (by (first | assumption | omega | with_reducible exact hw _ | with_reducible exact hb _)) (by kernel_rfl) ?_
        refine H.kd 2 (fun b => b) ((↑i : Int) < (↑m : Int)) (by (first | assumption | omega | with_reducible exact hw _ | with_reducible exact hb _)) (by kernel_rfl) ?_
        refine H.kb 1 (fun b => (b == true)) (b := (Ieee.Format.order { exponentBits := 11, fractionBits := 52 } (List.getD w (0 + Int.toNat (↑i : Int)) 0) (List.getD w (0 + Int.toNat (↑i : Int)) 0) == some Ordering.eq)) (d := true) (by (first | assumption | omega | with_reducible exact hw _ | with_reducible exact hb _)) (by kernel_rfl) ?_
        refine H.kl 0 (fun b => b) (0 + Int.toNat (↑i : Int)) (mm) (by (first | assumption | omega | with_reducible exact hw _ | with_reducible exact hb _)) (by kernel_rfl) ?_
        refine H.kb 1 (fun b => (b == true)) (b := (Ieee.Format.order { exponentBits := 11, fractionBits := 52 } (List.getD w (0 + Int.toNat (↑i : Int)) 0) (List.getD w (0 + Int.toNat (↑i : Int)) 0) == some Ordering.eq)) (d := true) (by (first | assumption | omega | with_reducible exact hw _ | with_reducible exact hb _)) (by kernel_rfl) ?_
        refine H.kb 3 (fun b => (b == true)) (b := (Ieee.Format.order { exponentBits := 11, fractionBits := 52 } (List.getD w (0 + Int.toNat (↑i : Int)) 0) (List.getD w (0 + Int.toNat (↑i : Int)) 0) == some Ordering.eq)) (d := true) (by (first | assumption | omega | with_reducible exact hw _ | with_reducible exact hb _)) (by kernel_rfl) ?_
        refine H.kd 0 (fun b => b) (List.getD w (0 + Int.toNat (↑i : Int)) 0 < 18446744073709551616) (by (first | assumption | omega | with_reducible exact hw _ | with_reducible exact hb _)) (by kernel_rfl) ?_
        refine H.kd 0 (fun b => b) (bstO (-1) w i < 18446744073709551616) (by (first | assumption | omega | with_reducible exact hw _ | with_reducible exact hb _)) (by kernel_rfl) ?_
        refine H.sd 3 (fun b => b) (cmpO (List.getD w (0 + Int.toNat (↑i : Int)) 0) (bstO (-1) w i) < 0) (by kernel_rfl) (fun h3 => ?_) (fun h3 => ?_)
        ·
         refine H.kd 2 (fun b => b) ((↑i : Int) < (↑m : Int)) (by (first | assumption | omega | with_reducible exact hw _ | with_reducible exact hb _)) (by kernel_rfl) ?_
         refine H.kl 0 (fun b => b) (0 + Int.toNat (↑i : Int)) (mm) (by (first | assumption | omega | with_reducible exact hw _ | with_reducible exact hb _)) (by kernel_rfl) ?_
         refine H.lf (f := pL 1) 1 (Sum.inl ([AV.sl 0 0 m cap, AV.v (Value.float FloatKind.f64 (List.getD w (0 + Int.toNat (↑i : Int)) 0)), AV.i IntKind.i64 (wr IntKind.i64 ((↑i : Int) + 1))], 1, [AObj.vec e mm [Col.cf FloatKind.f64 w]])) (by kernel_rfl) ?_
         rw [ez] at h2 h3 ⊢; exact ag29 hk hm (by omega) (lst_new (isnum_of h2) h3)
        ·
         refine H.lf (f := pL 1) 1 (Sum.inl ([AV.sl 0 0 m cap, AV.v (Value.float FloatKind.f64 (bstO (-1) w i)), AV.i IntKind.i64 (wr IntKind.i64 ((↑i : Int) + 1))], 1, [AObj.vec e mm [Col.cf FloatKind.f64 w]])) (by kernel_rfl) ?_
         rw [ez] at h2 h3; exact ag29 hk hm (by omega) (lst_old hw (isnum_of h2) h3)
       ·
        refine H.kb 1 (fun b => (b == true)) (b := (Ieee.Format.order { exponentBits := 11, fractionBits := 52 } (List.getD w (0 + Int.toNat (↑i : Int)) 0) (List.getD w (0 + Int.toNat (↑i : Int)) 0) == some Ordering.eq)) (d := false) (by (first | assumption | omega | with_reducible exact hw _ | with_reducible exact hb _)) (by kernel_rfl) ?_
        refine H.kb 1 (fun b => (b == true)) (b := (Ieee.Format.order { exponentBits := 11, fractionBits := 52 } (List.getD w (0 + Int.toNat (↑i : Int)) 0) (List.getD w (0 + Int.toNat (↑i : Int)) 0) == some Ordering.eq)) (d := false) (by (first | assumption | omega | with_reducible exact hw _ | with_reducible exact hb _)) (by kernel_rfl) ?_
        refine H.kb 1 (fun b => (b == true)) (b := (Ieee.Format.order { exponentBits := 11, fractionBits := 52 } (List.getD w (0 + Int.toNat (↑i : Int)) 0) (List.getD w (0 + Int.toNat (↑i : Int)) 0) == some Ordering.eq)) (d := false) (by (first | assumption | omega | with_reducible exact hw _ | with_reducible exact hb _)) (by kernel_rfl) ?_
        refine H.kb 1 (fun b => (b == true)) (b := (Ieee.Format.order { exponentBits := 11, fractionBits := 52 } (List.getD w (0 + Int.toNat (↑i : Int)) 0) (List.getD w (0 + Int.toNat (↑i : Int)) 0) == some Ordering.eq)) (d := false) (by (first | assumption | omega | with_reducible exact hw _ | with_reducible exact hb _)) (by kernel_rfl) ?_
        refine H.kb 3 (fun b => (b == true)) (b := (Ieee.Format.order { exponentBits := 11, fractionBits := 52 } (List.getD w (0 + Int.toNat (↑i : Int)) 0) (List.getD w (0 + Int.toNat (↑i : Int)) 0) == some Ordering.eq)) (d := false) (by (first | assumption | omega | with_reducible exact hw _ | with_reducible exact hb _)) (by kernel_rfl) ?_
        refine H.lf (f := pL 1) 4 (Sum.inl ([AV.sl 0 0 m cap, AV.v (Value.float FloatKind.f64 (bstO (-1) w i)), AV.i IntKind.i64 (wr IntKind.i64 ((↑i : Int) + 1))], 1, [AObj.vec e mm [Col.cf FloatKind.f64 w]])) (by kernel_rfl) ?_
        rw [ez] at h2; exact ag29 hk hm (by omega) (bst_nan (isnan_of h2))
      ·
       refine H.lf (f := pL 1) 0 (Sum.inr (Sum.inl (AV.v (Value.float FloatKind.f64 (bstO (-1) w i)), []))) (by kernel_rfl) ?_
       obtain rfl : i = m := by omega
       exact hq
  · rename_i cap e
    have h : Q (fv 9221120237041090561, []) := h
    refine H.lf (f := resV 1) 4 (AV.v (Value.float FloatKind.f64 9221120237041090561), []) (by kernel_rfl) h
  · exact h.elim
theorem v31 : Vb Sc 31 k31 := by
  intro args objs Q h
  unfold k31 at h
  split at h
  · rename_i m cap e mm w
    obtain ⟨h1, hq⟩ := br_ok h
    obtain ⟨hmm, hm, hw⟩ := of_decide_eq_true h1
    have hq : Q (fv (bstO 1 w m), []) := hq
    have hw := all_getD hw
    have hb := bst_lt (sg := 1) hw
    refine fn1 (fi := fi31 false) (by kernel_rfl) (by kernel_rfl) (by kernel_rfl) rfl [0, 1, 0, 1, 1] 1 1 rfl (by kernel_rfl) (I29 e m mm cap w 1) ?_ ?_
    · refine pE_Q (k := 1) ?_
      refine H.lf (f := pE 1) 1 (Sum.inr ([0, 1, 0, 1, 1], 1, [AV.sl 0 0 m cap, AV.v (Value.float FloatKind.f64 (Int.toNat 9221120237041090561)), AV.i IntKind.i64 0], 1, [AObj.vec e mm [Col.cf FloatKind.f64 w]])) (by kernel_rfl) ?_
      have hlt : m - 0 < 1048576 := by omega
      exact ⟨rfl, rfl, _, hlt, 0, by omega, rfl, by rw [bst_zero 1 w]; rfl⟩
    · rintro k _ ⟨i, hi, hk, rfl⟩
      refine pL_Q (k := 1) ?_
      have ez := zero_add_toNat i
      refine H.sd 1 (fun b => b) ((↑i : Int) < (↑m : Int)) (by kernel_rfl) (fun h1 => ?_) (fun h1 => ?_)
      ·
       refine H.kd 5 (fun b => b) ((↑i : Int) < (↑m : Int)) (by (first | assumption | omega | with_reducible exact hw _ | with_reducible exact hb _)) (by kernel_rfl) ?_
       refine H.kl 1 (fun b => b) (0 + Int.toNat (↑i : Int)) (mm) (by (first | assumption | omega | with_reducible exact hw _ | with_reducible exact hb _)) (by kernel_rfl) ?_
       refine H.kd 5 (fun b => b) ((↑i : Int) < (↑m : Int)) (by (first | assumption | omega | with_reducible exact hw _ | with_reducible exact hb _)) (by kernel_rfl) ?_
       refine H.kl 1 (fun b => b) (0 + Int.toNat (↑i : Int)) (mm) (by (first | assumption | omega | with_reducible exact hw _ | with_reducible exact hb _)) (by kernel_rfl) ?_
       refine H.sb 3 (fun b => (b == true)) (Ieee.Format.order { exponentBits := 11, fractionBits := 52 } (List.getD w (0 + Int.toNat (↑i : Int)) 0) (List.getD w (0 + Int.toNat (↑i : Int)) 0) == some Ordering.eq) (by kernel_rfl) (fun h2 => ?_) (fun h2 => ?_)
       ·
        refine H.kb 1 (fun b => (b == true)) (b := (Ieee.Format.order { exponentBits := 11, fractionBits := 52 } (List.getD w (0 + Int.toNat (↑i : Int)) 0) (List.getD w (0 + Int.toNat (↑i : Int)) 0) == some Ordering.eq)) (d := true) (by (first | assumption | omega | with_reducible exact hw _ | with_reducible exact hb _)) (by kernel_rfl) ?_
        refine H.kb 1 (fun b => (b == true)) (b := (Ieee.Format.order { exponentBits := 11, fractionBits := 52 } (List.getD w (0 + Int.toNat (↑i : Int)) 0) (List.getD w (0 + Int.toNat (↑i : Int)) 0) == some Ordering.eq)) (d := true) (by (first | assumption | omega | with_reducible exact hw _ | with_reducible exact hb _)) (by kernel_rfl) ?_
        refine H.kb 1 (fun b => (b == true)) (b := (Ieee.Format.order { exponentBits := 11, fractionBits := 52 } (List.getD w (0 + Int.toNat (↑i : Int)) 0) (List.getD w (0 + Int.toNat (↑i : Int)) 0) == some Ordering.eq)) (d := true) (by (first | assumption | omega | with_reducible exact hw _ | with_reducible exact hb _)) (by kernel_rfl) ?_
        refine H.sb 1 (fun b => ((!b) == false)) (Ieee.Format.order { exponentBits := 11, fractionBits := 52 } (bstO 1 w i) (bstO 1 w i) == some Ordering.eq) (by kernel_rfl) (fun h3 => ?_) (fun h3 => ?_)
        ·
         refine H.kb 1 (fun b => ((!b) == false)) (b := (Ieee.Format.order { exponentBits := 11, fractionBits := 52 } (bstO 1 w i) (bstO 1 w i) == some Ordering.eq)) (d := true) (by (first | assumption | omega | with_reducible exact hw _ | with_reducible exact hb _)) (by kernel_rfl) ?_
         refine H.kb 1 (fun b => ((!b) == false)) (b := (Ieee.Format.order { exponentBits := 11, fractionBits := 52 } (bstO 1 w i) (bstO 1 w i) == some Ordering.eq)) (d := true) (by (first | assumption | omega | with_reducible exact hw _ | with_reducible exact hb _)) (by kernel_rfl) ?_
         refine H.kd 2 (fun b => b) ((↑i : Int) < (↑m : Int)) (by (first | assumption | omega | with_reducible exact hw _ | with_reducible exact hb _)) (by kernel_rfl) ?_
         refine H.kb 1 (fun b => ((!b) == false)) (b := (Ieee.Format.order { exponentBits := 11, fractionBits := 52 } (bstO 1 w i) (bstO 1 w i) == some Ordering.eq)) (d := true) (by (first | assumption | omega | with_reducible exact hw _ | with_reducible exact hb _)) (by kernel_rfl) ?_
         refine H.kl 0 (fun b => b) (0 + Int.toNat (↑i : Int)) (mm) (by (first | assumption | omega | with_reducible exact hw _ | with_reducible exact hb _)) (by kernel_rfl) ?_
         refine H.kb 1 (fun b => ((!b) == false)) (b := (Ieee.Format.order { exponentBits := 11, fractionBits := 52 } (bstO 1 w i) (bstO 1 w i) == some Ordering.eq)) (d := true) (by (first | assumption | omega | with_reducible exact hw _ | with_reducible exact hb _)) (by kernel_rfl) ?_
         refine H.kb 3 (fun b => ((!b) == false)) (b := (Ieee.Format.order { exponentBits := 11, fractionBits := 52 } (bstO 1 w i) (bstO 1 w i) == some Ordering.eq)) (d := true) (by (first | assumption | omega | with_reducible exact hw _ | with_reducible exact hb _)) (by kernel_rfl) ?_
         refine H.kd 0 (fun b => b) (List.getD w (0 + Int.toNat (↑i : Int)) 0 < 18446744073709551616) (by (first | assumption | omega | with_reducible exact hw _ | with_reducible exact hb _)) (by kernel_rfl) ?_
         refine H.kd 0 (fun b => b) (bstO 1 w i < 18446744073709551616) (by (first | assumption | omega | with_reducible exact hw _ | with_reducible exact hb _)) (by kernel_rfl) ?_
         refine H.kb 2 (fun b => (b == true)) (b := (Ieee.Format.order { exponentBits := 11, fractionBits := 52 } (List.getD w (0 + Int.toNat (↑i : Int)) 0) (List.getD w (0 + Int.toNat (↑i : Int)) 0) == some Ordering.eq)) (d := true) (by (first | assumption | omega | with_reducible exact hw _ | with_reducible exact hb _)) (by kernel_rfl) ?_
         refine H.sd 2 (fun b => b) (cmpO (List.getD w (0 + Int.toNat (↑i : Int)) 0) (bstO 1 w i) > 0) (by kernel_rfl) (fun h4 => ?_) (fun h4 => ?_)
         ·
          refine H.kd 2 (fun b => b) ((↑i : Int) < (↑m : Int)) (by (first | assumption | omega | with_reducible exact hw _ | with_reducible exact hb _)) (by kernel_rfl) ?_
          refine H.kl 0 (fun b => b) (0 + Int.toNat (↑i : Int)) (mm) (by (first | assumption | omega | with_reducible exact hw _ | with_reducible exact hb _)) (by kernel_rfl) ?_
          refine H.lf (f := pL 1) 1 (Sum.inl ([AV.sl 0 0 m cap, AV.v (Value.float FloatKind.f64 (List.getD w (0 + Int.toNat (↑i : Int)) 0)), AV.i IntKind.i64 (wr IntKind.i64 ((↑i : Int) + 1))], 1, [AObj.vec e mm [Col.cf FloatKind.f64 w]])) (by kernel_rfl) ?_
          rw [ez] at h2 h4 ⊢; exact ag29 hk hm (by omega) (mst_new (isnum_of h2) h4)
         ·
          refine H.lf (f := pL 1) 1 (Sum.inl ([AV.sl 0 0 m cap, AV.v (Value.float FloatKind.f64 (bstO 1 w i)), AV.i IntKind.i64 (wr IntKind.i64 ((↑i : Int) + 1))], 1, [AObj.vec e mm [Col.cf FloatKind.f64 w]])) (by kernel_rfl) ?_
          rw [ez] at h2 h4; exact ag29 hk hm (by omega) (mst_old (isnum_of h3) h4)
        ·
         refine H.kb 1 (fun b => ((!b) == false)) (b := (Ieee.Format.order { exponentBits := 11, fractionBits := 52 } (bstO 1 w i) (bstO 1 w i) == some Ordering.eq)) (d := false) (by (first | assumption | omega | with_reducible exact hw _ | with_reducible exact hb _)) (by kernel_rfl) ?_
         refine H.kb 1 (fun b => ((!b) == false)) (b := (Ieee.Format.order { exponentBits := 11, fractionBits := 52 } (bstO 1 w i) (bstO 1 w i) == some Ordering.eq)) (d := false) (by (first | assumption | omega | with_reducible exact hw _ | with_reducible exact hb _)) (by kernel_rfl) ?_
         refine H.kb 1 (fun b => ((!b) == false)) (b := (Ieee.Format.order { exponentBits := 11, fractionBits := 52 } (bstO 1 w i) (bstO 1 w i) == some Ordering.eq)) (d := false) (by (first | assumption | omega | with_reducible exact hw _ | with_reducible exact hb _)) (by kernel_rfl) ?_
         refine H.kb 1 (fun b => ((!b) == false)) (b := (Ieee.Format.order { exponentBits := 11, fractionBits := 52 } (bstO 1 w i) (bstO 1 w i) == some Ordering.eq)) (d := false) (by (first | assumption | omega | with_reducible exact hw _ | with_reducible exact hb _)) (by kernel_rfl) ?_
         refine H.kb 3 (fun b => ((!b) == false)) (b := (Ieee.Format.order { exponentBits := 11, fractionBits := 52 } (bstO 1 w i) (bstO 1 w i) == some Ordering.eq)) (d := false) (by (first | assumption | omega | with_reducible exact hw _ | with_reducible exact hb _)) (by kernel_rfl) ?_
         refine H.kb 1 (fun b => (b == true)) (b := (Ieee.Format.order { exponentBits := 11, fractionBits := 52 } (List.getD w (0 + Int.toNat (↑i : Int)) 0) (List.getD w (0 + Int.toNat (↑i : Int)) 0) == some Ordering.eq)) (d := true) (by (first | assumption | omega | with_reducible exact hw _ | with_reducible exact hb _)) (by kernel_rfl) ?_
         refine H.kd 5 (fun b => b) ((↑i : Int) < (↑m : Int)) (by (first | assumption | omega | with_reducible exact hw _ | with_reducible exact hb _)) (by kernel_rfl) ?_
         refine H.kl 0 (fun b => b) (0 + Int.toNat (↑i : Int)) (mm) (by (first | assumption | omega | with_reducible exact hw _ | with_reducible exact hb _)) (by kernel_rfl) ?_
         refine H.lf (f := pL 1) 1 (Sum.inl ([AV.sl 0 0 m cap, AV.v (Value.float FloatKind.f64 (List.getD w (0 + Int.toNat (↑i : Int)) 0)), AV.i IntKind.i64 (wr IntKind.i64 ((↑i : Int) + 1))], 1, [AObj.vec e mm [Col.cf FloatKind.f64 w]])) (by kernel_rfl) ?_
         rw [ez] at h2 ⊢; exact ag29 hk hm (by omega) (bst_new (isnum_of h2) (isnan_of h3))
       ·
        refine H.kb 1 (fun b => (b == true)) (b := (Ieee.Format.order { exponentBits := 11, fractionBits := 52 } (List.getD w (0 + Int.toNat (↑i : Int)) 0) (List.getD w (0 + Int.toNat (↑i : Int)) 0) == some Ordering.eq)) (d := false) (by (first | assumption | omega | with_reducible exact hw _ | with_reducible exact hb _)) (by kernel_rfl) ?_
        refine H.kb 1 (fun b => (b == true)) (b := (Ieee.Format.order { exponentBits := 11, fractionBits := 52 } (List.getD w (0 + Int.toNat (↑i : Int)) 0) (List.getD w (0 + Int.toNat (↑i : Int)) 0) == some Ordering.eq)) (d := false) (by (first | assumption | omega | with_reducible exact hw _ | with_reducible exact hb _)) (by kernel_rfl) ?_
        refine H.kb 1 (fun b => (b == true)) (b := (Ieee.Format.order { exponentBits := 11, fractionBits := 52 } (List.getD w (0 + Int.toNat (↑i : Int)) 0) (List.getD w (0 + Int.toNat (↑i : Int)) 0) == some Ordering.eq)) (d := false) (by (first | assumption | omega | with_reducible exact hw _ | with_reducible exact hb _)) (by kernel_rfl) ?_
        refine H.kb 15 (fun b => (b == true)) (b := (Ieee.Format.order { exponentBits := 11, fractionBits := 52 } (List.getD w (0 + Int.toNat (↑i : Int)) 0) (List.getD w (0 + Int.toNat (↑i : Int)) 0) == some Ordering.eq)) (d := false) (by (first | assumption | omega | with_reducible exact hw _ | with_reducible exact hb _)) (by kernel_rfl) ?_
        refine H.lf (f := pL 1) 3 (Sum.inl ([AV.sl 0 0 m cap, AV.v (Value.float FloatKind.f64 (bstO 1 w i)), AV.i IntKind.i64 (wr IntKind.i64 ((↑i : Int) + 1))], 1, [AObj.vec e mm [Col.cf FloatKind.f64 w]])) (by kernel_rfl) ?_
        rw [ez] at h2; exact ag29 hk hm (by omega) (bst_nan (isnan_of h2))
      ·
       refine H.lf (f := pL 1) 0 (Sum.inr (Sum.inl (AV.v (Value.float FloatKind.f64 (bstO 1 w i)), []))) (by kernel_rfl) ?_
       obtain rfl : i = m := by omega
       exact hq
  · rename_i cap e
    have h : Q (fv 9221120237041090561, []) := h
    refine H.lf (f := resV 1) 4 (AV.v (Value.float FloatKind.f64 9221120237041090561), []) (by kernel_rfl) h
  · exact h.elim
end
noncomputable def Sf : Sp := fun n => bif2 (Nat.beq n 46) (some (viewS k46)) (bif2 (Nat.beq n 29) (some (viewS k29)) (bif2 (Nat.beq n 31) (some (viewS k31)) (Sc n)))
theorem sf (k : Nat) : SOk Tryd.prog (nR k) Sf := sOk_view tok (fok false) hmix (sc _) (sOk_view tok (fok false) hmix (sc _) (sOk_view tok (fok false) hmix (sc _) (sc _) v31) v29) v46
end Go.Proofs.TabR
