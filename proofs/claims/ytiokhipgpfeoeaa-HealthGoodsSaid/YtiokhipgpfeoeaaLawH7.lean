/- Lemmas about the evaluator of the code. -/
import Derived.Test.YtiokhipgpfeoeaaSetH
import Derived.Test.YtiokhipgpfeoeaaArgEH
set_option linter.all false
set_option linter.deprecated false
set_option maxRecDepth 1000000
set_option maxHeartbeats 4000000
namespace Go.Proofs.TabH
open Go Go.Eng
section
variable {sc cnt : Int} {nl nl2 : Bool} {n n2 cap cap2 : Nat} {l0 l1 fl : List Int}
def InvA7 (sc cnt : Int) (nl nl2 : Bool) (n n2 cap cap2 : Nat) (l0 l1 fl : List Int) (m : Nat) (s : St3) : Prop := (m = 20 ∧ s = ([.ptr 2 0 0, .ptr 3 0 0, .sl 4 0 7 (some 7), iv 0, .top], 2, [.ro nl n [.ci .u64 l0, .ci .u64 l1], .ro nl2 n2 [.ci .u64 fl], .own 26 4 [.i .u64 sc, iv cnt, .sl 0 0 n (some cap), .sl 1 0 n2 (some cap2)], .own 29 2 [fv (Int.toNat sc), iv cnt], .own 27 1 [fv 0, fv 9223372036854775808, fv 4607182418800017408, fv 9221120237041090561, fv 9218868437227405312, fv 18442240474082181120, fv (Int.toNat sc)]])) ∨ ∃ (i : Nat) (L : List Nat), 1 ≤ i ∧ i ≤ 20 ∧ m = 20 - i ∧ s = ([.ptr 2 0 0, .ptr 3 0 0, .sl 5 0 (i + 7) none, iv i, .top], 2, [.ro nl n [.ci .u64 l0, .ci .u64 l1], .ro nl2 n2 [.ci .u64 fl], .own 26 4 [.i .u64 sc, iv cnt, .sl 0 0 n (some cap), .sl 1 0 n2 (some cap2)], .own 29 2 [fv (Int.toNat sc), iv cnt], .dead, .vec 27 (i + 7) [.cf .f64 L]])
def InvB7 (sc cnt : Int) (nl nl2 : Bool) (n n2 cap cap2 : Nat) (l0 l1 fl : List Int) (b : Bool) (m : Nat) (s : St3) : Prop := (b = false ∧ ∃ (a : AV) (j : Nat), j ≤ 7 ∧ m = 7 - j ∧ s = ([.ptr 2 0 0, .ptr 3 0 0, .sl 4 0 7 (some 7), a, iv j], 2, [.ro nl n [.ci .u64 l0, .ci .u64 l1], .ro nl2 n2 [.ci .u64 fl], .own 26 4 [.i .u64 sc, iv cnt, .sl 0 0 n (some cap), .sl 1 0 n2 (some cap2)], .own 29 2 [fv (Int.toNat sc), iv cnt], .own 27 1 [fv 0, fv 9223372036854775808, fv 4607182418800017408, fv 9221120237041090561, fv 9218868437227405312, fv 18442240474082181120, fv (Int.toNat sc)]])) ∨ (b = true ∧ ∃ (a : AV) (i j : Nat) (L : List Nat), i ≤ 20 ∧ j ≤ i + 7 ∧ m = i + 7 - j ∧ s = ([.ptr 2 0 0, .ptr 3 0 0, .sl 5 0 (i + 7) none, a, iv j], 2, [.ro nl n [.ci .u64 l0, .ci .u64 l1], .ro nl2 n2 [.ci .u64 fl], .own 26 4 [.i .u64 sc, iv cnt, .sl 0 0 n (some cap), .sl 1 0 n2 (some cap2)], .own 29 2 [fv (Int.toNat sc), iv cnt], .dead, .vec 27 (i + 7) [.cf .f64 L]]))
def b7 : Bool → Nat
  | false => 5
  | true => 6
theorem agA7 {m i : Nat} {L : List Nat} {G : Stop → Prop} (hm : m = 20 - i) (h : i < 20) : OkL (fun s' => ∃ m', m' < m ∧ InvA7 sc cnt nl nl2 n n2 cap cap2 l0 l1 fl m' s') G (.inl ([.ptr 2 0 0, .ptr 3 0 0, .sl 5 0 (i + 7 + 1) none, iv (wr .i64 ((i : Int) + 1)), .top], 2, [.ro nl n [.ci .u64 l0, .ci .u64 l1], .ro nl2 n2 [.ci .u64 fl], .own 26 4 [.i .u64 sc, iv cnt, .sl 0 0 n (some cap), .sl 1 0 n2 (some cap2)], .own 29 2 [fv (Int.toNat sc), iv cnt], .dead, .vec 27 (i + 7 + 1) [.cf .f64 L]])) := by
  have hlt : 20 - (i + 1) < m := by omega
  exact ⟨_, hlt, .inr ⟨i + 1, L, by omega, by omega, rfl, by rw [wr64 (by omega) (by omega), show i + 1 + 7 = i + 7 + 1 by omega]; rfl⟩⟩
theorem agA0 {m : Nat} {x : Nat} {G : Stop → Prop} (hm : m = 20) : OkL (fun s' => ∃ m', m' < m ∧ InvA7 sc cnt nl nl2 n n2 cap cap2 l0 l1 fl m' s') G (.inl ([.ptr 2 0 0, .ptr 3 0 0, .sl 5 0 8 none, iv 1, .top], 2, [.ro nl n [.ci .u64 l0, .ci .u64 l1], .ro nl2 n2 [.ci .u64 fl], .own 26 4 [.i .u64 sc, iv cnt, .sl 0 0 n (some cap), .sl 1 0 n2 (some cap2)], .own 29 2 [fv (Int.toNat sc), iv cnt], .dead, .vec 27 8 [.cf .f64 [0, 9223372036854775808, 4607182418800017408, 9221120237041090561, 9218868437227405312, 18442240474082181120, Int.toNat sc, x]]])) := by
  subst hm
  exact ⟨19, by omega, .inr ⟨1, _, by omega, by omega, rfl, rfl⟩⟩
theorem agB7 {m i j : Nat} {a : AV} {L : List Nat} {G : Stop → Prop} (hi : i ≤ 20) (hm : m = i + 7 - j) (h : j < i + 7) : OkL (fun s' => ∃ m', m' < m ∧ InvB7 sc cnt nl nl2 n n2 cap cap2 l0 l1 fl true m' s') G (.inl ([.ptr 2 0 0, .ptr 3 0 0, .sl 5 0 (i + 7) none, a, iv (wr .i64 ((j : Int) + 1))], 2, [.ro nl n [.ci .u64 l0, .ci .u64 l1], .ro nl2 n2 [.ci .u64 fl], .own 26 4 [.i .u64 sc, iv cnt, .sl 0 0 n (some cap), .sl 1 0 n2 (some cap2)], .own 29 2 [fv (Int.toNat sc), iv cnt], .dead, .vec 27 (i + 7) [.cf .f64 L]])) := by
  have hlt : i + 7 - (j + 1) < m := by omega
  exact ⟨_, hlt, .inr ⟨rfl, a, i, j + 1, L, hi, by omega, rfl, by rw [wr64 (by omega) (by omega)]; rfl⟩⟩
theorem agB0 {m : Nat} (j : Nat) {a : AV} {G : Stop → Prop} (hm : m = 7 - j) (h : j < 7) {n' : Int} (hn : n' = (j : Int) + 1) : OkL (fun s' => ∃ m', m' < m ∧ InvB7 sc cnt nl nl2 n n2 cap cap2 l0 l1 fl false m' s') G (.inl ([.ptr 2 0 0, .ptr 3 0 0, .sl 4 0 7 (some 7), a, iv n'], 2, [.ro nl n [.ci .u64 l0, .ci .u64 l1], .ro nl2 n2 [.ci .u64 fl], .own 26 4 [.i .u64 sc, iv cnt, .sl 0 0 n (some cap), .sl 1 0 n2 (some cap2)], .own 29 2 [fv (Int.toNat sc), iv cnt], .own 27 1 [fv 0, fv 9223372036854775808, fv 4607182418800017408, fv 9221120237041090561, fv 9218868437227405312, fv 18442240474082181120, fv (Int.toNat sc)]])) := by
  have hlt : 7 - (j + 1) < m := by omega
  subst hn
  exact ⟨_, hlt, .inl ⟨rfl, a, j + 1, by omega, rfl, rfl⟩⟩
theorem law7 (hs : Int.toNat sc < 18446744073709551616) : H (ev S7 5 7 [.agg [.i .u64 sc, iv cnt, .sl 0 0 n (some cap), .sl 1 0 n2 (some cap2)]] (memL 2 [.ro nl n [.ci .u64 l0, .ci .u64 l1], .ro nl2 n2 [.ci .u64 fl]])) (fun x => x.1 = .b true) (fun _ _ => False) := by
  refine lawSeqB (fi := fi7 false) (by kernel_rfl) (by kernel_rfl) (by kernel_rfl) rfl [0, 1, 0, 1, 1, 1] 5 [0, 1, 0, 1, 1, 1, 1] b7 2 rfl (by kernel_rfl) (by kernel_rfl) (InvA7 sc cnt nl nl2 n n2 cap cap2 l0 l1 fl) (InvB7 sc cnt nl nl2 n n2 cap cap2 l0 l1 fl) ?_ ?_ ?_
  · refine lawE_Q ?_
    refine H.lf (f := oc) 47 (Sum.inr ([0, 1, 0, 1, 1, 1], 5, [AV.ptr 2 0 0, AV.ptr 3 0 0, AV.sl 4 0 7 (some 7), AV.i IntKind.i64 0, AV.top], 2, [AObj.ro nl n [Col.ci IntKind.u64 l0, Col.ci IntKind.u64 l1], AObj.ro nl2 n2 [Col.ci IntKind.u64 fl], AObj.own 26 4 [AV.i IntKind.u64 sc, AV.i IntKind.i64 cnt, AV.sl 0 0 n (some cap), AV.sl 1 0 n2 (some cap2)], AObj.own 29 2 [AV.v (Value.float FloatKind.f64 (Int.toNat sc)), AV.i IntKind.i64 cnt], AObj.own 27 1 [AV.v (Value.float FloatKind.f64 0), AV.v (Value.float FloatKind.f64 9223372036854775808), AV.v (Value.float FloatKind.f64 4607182418800017408), AV.v (Value.float FloatKind.f64 (Int.toNat 9221120237041090561)), AV.v (Value.float FloatKind.f64 (Int.toNat 9218868437227405312)), AV.v (Value.float FloatKind.f64 (Int.toNat 18442240474082181120)), AV.v (Value.float FloatKind.f64 (Int.toNat sc))]])) (by kernel_rfl) ?_
    exact .inl ⟨rfl, rfl, 20, by omega, .inl ⟨rfl, rfl⟩⟩
  · rintro m _ (⟨hm, rfl⟩ | ⟨i, L, hl, hi, hm, rfl⟩)
    · refine lawL_Q ?_
      refine H.sd 2 (fun b => (b == true)) (0 < (↑n2 : Int)) (by kernel_rfl) (fun h1 => ?_) (fun h1 => ?_)
      ·
       refine H.kd 7 (fun b => b) (0 < (↑n2 : Int)) (by (first | assumption | omega | exact beq_self_eq_true _ | (simp <;> omega))) (by kernel_rfl) ?_
       refine H.kl 0 (fun b => b) (0) (n2) (by (first | assumption | omega | exact beq_self_eq_true _ | (simp <;> omega))) (by kernel_rfl) ?_
       refine H.lf (f := oc2) 14 (Sum.inl ([AV.ptr 2 0 0, AV.ptr 3 0 0, AV.sl 5 0 8 none, AV.i IntKind.i64 1, AV.top], 2, [AObj.ro nl n [Col.ci IntKind.u64 l0, Col.ci IntKind.u64 l1], AObj.ro nl2 n2 [Col.ci IntKind.u64 fl], AObj.own 26 4 [AV.i IntKind.u64 sc, AV.i IntKind.i64 cnt, AV.sl 0 0 n (some cap), AV.sl 1 0 n2 (some cap2)], AObj.own 29 2 [AV.v (Value.float FloatKind.f64 (Int.toNat sc)), AV.i IntKind.i64 cnt], AObj.dead, AObj.vec 27 8 [Col.cf FloatKind.f64 [0, 9223372036854775808, 4607182418800017408, 9221120237041090561, 9218868437227405312, 18442240474082181120, Int.toNat sc, Int.toNat (List.getD fl 0 0)]]])) (by kernel_rfl) ?_
       first | exact agA0 hm | exact ⟨rfl, false, rfl, 7, by omega, .inl ⟨rfl, _, 0, by omega, rfl, rfl⟩⟩
      ·
       refine H.lf (f := oc2) 3 (Sum.inr (Sum.inr ([0, 1, 0, 1, 1, 1, 1], 5, [AV.ptr 2 0 0, AV.ptr 3 0 0, AV.sl 4 0 7 (some 7), AV.i IntKind.i64 0, AV.i IntKind.i64 0], 2, [AObj.ro nl n [Col.ci IntKind.u64 l0, Col.ci IntKind.u64 l1], AObj.ro nl2 n2 [Col.ci IntKind.u64 fl], AObj.own 26 4 [AV.i IntKind.u64 sc, AV.i IntKind.i64 cnt, AV.sl 0 0 n (some cap), AV.sl 1 0 n2 (some cap2)], AObj.own 29 2 [AV.v (Value.float FloatKind.f64 (Int.toNat sc)), AV.i IntKind.i64 cnt], AObj.own 27 1 [AV.v (Value.float FloatKind.f64 0), AV.v (Value.float FloatKind.f64 9223372036854775808), AV.v (Value.float FloatKind.f64 4607182418800017408), AV.v (Value.float FloatKind.f64 9221120237041090561), AV.v (Value.float FloatKind.f64 9218868437227405312), AV.v (Value.float FloatKind.f64 18442240474082181120), AV.v (Value.float FloatKind.f64 (Int.toNat sc))]]))) (by kernel_rfl) ?_
       first | exact agA0 hm | exact ⟨rfl, false, rfl, 7, by omega, .inl ⟨rfl, _, 0, by omega, rfl, rfl⟩⟩
    · refine lawL_Q ?_
      refine H.sd 2 (fun b => (b == true)) ((↑i : Int) < (↑n2 : Int)) (by kernel_rfl) (fun h1 => ?_) (fun h1 => ?_)
      ·
       refine H.sd 3 (fun b => b) ((↑i : Int) < 20) (by kernel_rfl) (fun h2 => ?_) (fun h2 => ?_)
       ·
        refine H.kd 3 (fun b => b) ((↑i : Int) < (↑n2 : Int)) (by (first | assumption | omega | exact beq_self_eq_true _ | (simp <;> omega))) (by kernel_rfl) ?_
        refine H.kl 0 (fun b => b) (0 + Int.toNat (↑i : Int)) (n2) (by (first | assumption | omega | exact beq_self_eq_true _ | (simp <;> omega))) (by kernel_rfl) ?_
        refine H.kb 9 (fun b => b) (b := (Nat.ble (0 + (i + 7)) (i + 7))) (d := true) (by (first | assumption | omega | exact beq_self_eq_true _ | (simp <;> omega))) (by kernel_rfl) ?_
        refine H.kb 0 (fun b => b) (b := (Nat.blt 0 8 && Nat.ble ((i + 7 + 1) * 8) 140737488355328)) (d := true) (by (first | assumption | omega | exact beq_self_eq_true _ | (simp <;> omega))) (by kernel_rfl) ?_
        refine H.kb 0 (fun b => b) (b := (Nat.beq (i + 7 + 1) (i + 7 + 1) && Nat.beq 1 1)) (d := true) (by (first | assumption | omega | exact beq_self_eq_true _ | (simp <;> omega))) (by kernel_rfl) ?_
        refine H.lf (f := oc2) 2 (Sum.inl ([AV.ptr 2 0 0, AV.ptr 3 0 0, AV.sl 5 0 (i + 7 + 1) none, AV.i IntKind.i64 (wr IntKind.i64 ((↑i : Int) + 1)), AV.top], 2, [AObj.ro nl n [Col.ci IntKind.u64 l0, Col.ci IntKind.u64 l1], AObj.ro nl2 n2 [Col.ci IntKind.u64 fl], AObj.own 26 4 [AV.i IntKind.u64 sc, AV.i IntKind.i64 cnt, AV.sl 0 0 n (some cap), AV.sl 1 0 n2 (some cap2)], AObj.own 29 2 [AV.v (Value.float FloatKind.f64 (Int.toNat sc)), AV.i IntKind.i64 cnt], AObj.dead, AObj.vec 27 (i + 7 + 1) [Col.cf FloatKind.f64 (List.take (i + 7) (List.drop 0 L) ++ [Int.toNat (List.getD fl (0 + Int.toNat (↑i : Int)) 0)])]])) (by kernel_rfl) ?_
        first | exact agA7 hm (by omega) | exact ⟨rfl, true, rfl, i + 7, by omega, .inr ⟨rfl, _, i, 0, L, by omega, by omega, rfl, rfl⟩⟩
       ·
        refine H.lf (f := oc2) 0 (Sum.inr (Sum.inr ([0, 1, 0, 1, 1, 1, 1], 6, [AV.ptr 2 0 0, AV.ptr 3 0 0, AV.sl 5 0 (i + 7) none, AV.i IntKind.i64 (↑i : Int), AV.i IntKind.i64 0], 2, [AObj.ro nl n [Col.ci IntKind.u64 l0, Col.ci IntKind.u64 l1], AObj.ro nl2 n2 [Col.ci IntKind.u64 fl], AObj.own 26 4 [AV.i IntKind.u64 sc, AV.i IntKind.i64 cnt, AV.sl 0 0 n (some cap), AV.sl 1 0 n2 (some cap2)], AObj.own 29 2 [AV.v (Value.float FloatKind.f64 (Int.toNat sc)), AV.i IntKind.i64 cnt], AObj.dead, AObj.vec 27 (i + 7) [Col.cf FloatKind.f64 L]]))) (by kernel_rfl) ?_
        first | exact agA7 hm (by omega) | exact ⟨rfl, true, rfl, i + 7, by omega, .inr ⟨rfl, _, i, 0, L, by omega, by omega, rfl, rfl⟩⟩
      ·
       refine H.lf (f := oc2) 3 (Sum.inr (Sum.inr ([0, 1, 0, 1, 1, 1, 1], 6, [AV.ptr 2 0 0, AV.ptr 3 0 0, AV.sl 5 0 (i + 7) none, AV.i IntKind.i64 (↑i : Int), AV.i IntKind.i64 0], 2, [AObj.ro nl n [Col.ci IntKind.u64 l0, Col.ci IntKind.u64 l1], AObj.ro nl2 n2 [Col.ci IntKind.u64 fl], AObj.own 26 4 [AV.i IntKind.u64 sc, AV.i IntKind.i64 cnt, AV.sl 0 0 n (some cap), AV.sl 1 0 n2 (some cap2)], AObj.own 29 2 [AV.v (Value.float FloatKind.f64 (Int.toNat sc)), AV.i IntKind.i64 cnt], AObj.dead, AObj.vec 27 (i + 7) [Col.cf FloatKind.f64 L]]))) (by kernel_rfl) ?_
       first | exact agA7 hm (by omega) | exact ⟨rfl, true, rfl, i + 7, by omega, .inr ⟨rfl, _, i, 0, L, by omega, by omega, rfl, rfl⟩⟩
  · rintro c m _ (⟨rfl, a, j, hj, hm, rfl⟩ | ⟨rfl, a, i, j, L, hi, hj, hm, rfl⟩)
    · refine lawL_Q ?_
      rcases (by omega : j = 0 ∨ j = 1 ∨ j = 2 ∨ j = 3 ∨ j = 4 ∨ j = 5 ∨ j = 6 ∨ j = 7) with rfl | rfl | rfl | rfl | rfl | rfl | rfl | rfl
      · skip
        refine H.kd 2 (fun b => b) (Int.toNat sc < 18446744073709551616) (by (first | assumption | omega | exact beq_self_eq_true _ | (simp; omega))) (by kernel_rfl) ?_
        refine H.sb 0 (fun b => b) (healthO (Int.toNat sc) cnt) (by kernel_rfl) (fun h1 => ?_) (fun h1 => ?_)
        ·
         refine H.kd 22 (fun b => b) (Int.toNat sc < 18446744073709551616) (by (first | assumption | omega | exact beq_self_eq_true _ | (simp; omega))) (by kernel_rfl) ?_
         refine H.kb 0 (fun b => (!b)) (b := (healthO (Int.toNat sc) cnt)) (d := true) (by (first | assumption | omega | exact beq_self_eq_true _ | (simp; omega))) (by kernel_rfl) ?_
         refine H.kb 14 (fun b => (!b)) (b := (goodO (Int.toNat sc) cnt 0 == goodO (Int.toNat sc) cnt 0)) (d := true) (by (first | assumption | omega | exact beq_self_eq_true _ | (simp; omega))) (by kernel_rfl) ?_
         refine H.lf (f := oc2) 1 (Sum.inl ([AV.ptr 2 0 0, AV.ptr 3 0 0, AV.sl 4 0 7 (some 7), a, AV.i IntKind.i64 1], 2, [AObj.ro nl n [Col.ci IntKind.u64 l0, Col.ci IntKind.u64 l1], AObj.ro nl2 n2 [Col.ci IntKind.u64 fl], AObj.own 26 4 [AV.i IntKind.u64 sc, AV.i IntKind.i64 cnt, AV.sl 0 0 n (some cap), AV.sl 1 0 n2 (some cap2)], AObj.own 29 2 [AV.v (Value.float FloatKind.f64 (Int.toNat sc)), AV.i IntKind.i64 cnt], AObj.own 27 1 [AV.v (Value.float FloatKind.f64 0), AV.v (Value.float FloatKind.f64 9223372036854775808), AV.v (Value.float FloatKind.f64 4607182418800017408), AV.v (Value.float FloatKind.f64 9221120237041090561), AV.v (Value.float FloatKind.f64 9218868437227405312), AV.v (Value.float FloatKind.f64 18442240474082181120), AV.v (Value.float FloatKind.f64 (Int.toNat sc))]])) (by kernel_rfl) ?_
         first | exact rfl | exact agB0 0 hm (by omega) rfl
        ·
         refine H.kd 11 (fun b => b) (Int.toNat sc < 18446744073709551616) (by (first | assumption | omega | exact beq_self_eq_true _ | (simp; omega))) (by kernel_rfl) ?_
         refine H.kb 0 (fun b => (!b)) (b := (healthO (Int.toNat sc) cnt)) (d := false) (by (first | assumption | omega | exact beq_self_eq_true _ | (simp; omega))) (by kernel_rfl) ?_
         refine H.lf (f := oc2) 16 (Sum.inl ([AV.ptr 2 0 0, AV.ptr 3 0 0, AV.sl 4 0 7 (some 7), a, AV.i IntKind.i64 1], 2, [AObj.ro nl n [Col.ci IntKind.u64 l0, Col.ci IntKind.u64 l1], AObj.ro nl2 n2 [Col.ci IntKind.u64 fl], AObj.own 26 4 [AV.i IntKind.u64 sc, AV.i IntKind.i64 cnt, AV.sl 0 0 n (some cap), AV.sl 1 0 n2 (some cap2)], AObj.own 29 2 [AV.v (Value.float FloatKind.f64 (Int.toNat sc)), AV.i IntKind.i64 cnt], AObj.own 27 1 [AV.v (Value.float FloatKind.f64 0), AV.v (Value.float FloatKind.f64 9223372036854775808), AV.v (Value.float FloatKind.f64 4607182418800017408), AV.v (Value.float FloatKind.f64 9221120237041090561), AV.v (Value.float FloatKind.f64 9218868437227405312), AV.v (Value.float FloatKind.f64 18442240474082181120), AV.v (Value.float FloatKind.f64 (Int.toNat sc))]])) (by kernel_rfl) ?_
         first | exact rfl | exact agB0 0 hm (by omega) rfl
      · skip
        refine H.kd 2 (fun b => b) (Int.toNat sc < 18446744073709551616) (by (first | assumption | omega | exact beq_self_eq_true _ | (simp; omega))) (by kernel_rfl) ?_
        refine H.sb 0 (fun b => b) (healthO (Int.toNat sc) cnt) (by kernel_rfl) (fun h1 => ?_) (fun h1 => ?_)
        ·
         refine H.kd 22 (fun b => b) (Int.toNat sc < 18446744073709551616) (by (first | assumption | omega | exact beq_self_eq_true _ | (simp; omega))) (by kernel_rfl) ?_
         refine H.kb 0 (fun b => (!b)) (b := (healthO (Int.toNat sc) cnt)) (d := true) (by (first | assumption | omega | exact beq_self_eq_true _ | (simp; omega))) (by kernel_rfl) ?_
         refine H.kb 14 (fun b => (!b)) (b := (goodO (Int.toNat sc) cnt 9223372036854775808 == goodO (Int.toNat sc) cnt 9223372036854775808)) (d := true) (by (first | assumption | omega | exact beq_self_eq_true _ | (simp; omega))) (by kernel_rfl) ?_
         refine H.lf (f := oc2) 1 (Sum.inl ([AV.ptr 2 0 0, AV.ptr 3 0 0, AV.sl 4 0 7 (some 7), a, AV.i IntKind.i64 2], 2, [AObj.ro nl n [Col.ci IntKind.u64 l0, Col.ci IntKind.u64 l1], AObj.ro nl2 n2 [Col.ci IntKind.u64 fl], AObj.own 26 4 [AV.i IntKind.u64 sc, AV.i IntKind.i64 cnt, AV.sl 0 0 n (some cap), AV.sl 1 0 n2 (some cap2)], AObj.own 29 2 [AV.v (Value.float FloatKind.f64 (Int.toNat sc)), AV.i IntKind.i64 cnt], AObj.own 27 1 [AV.v (Value.float FloatKind.f64 0), AV.v (Value.float FloatKind.f64 9223372036854775808), AV.v (Value.float FloatKind.f64 4607182418800017408), AV.v (Value.float FloatKind.f64 9221120237041090561), AV.v (Value.float FloatKind.f64 9218868437227405312), AV.v (Value.float FloatKind.f64 18442240474082181120), AV.v (Value.float FloatKind.f64 (Int.toNat sc))]])) (by kernel_rfl) ?_
         first | exact rfl | exact agB0 1 hm (by omega) rfl
        ·
         refine H.kd 11 (fun b => b) (Int.toNat sc < 18446744073709551616) (by (first | assumption | omega | exact beq_self_eq_true _ | (simp; omega))) (by kernel_rfl) ?_
         refine H.kb 0 (fun b => (!b)) (b := (healthO (Int.toNat sc) cnt)) (d := false) (by (first | assumption | omega | exact beq_self_eq_true _ | (simp; omega))) (by kernel_rfl) ?_
         refine H.lf (f := oc2) 16 (Sum.inl ([AV.ptr 2 0 0, AV.ptr 3 0 0, AV.sl 4 0 7 (some 7), a, AV.i IntKind.i64 2], 2, [AObj.ro nl n [Col.ci IntKind.u64 l0, Col.ci IntKind.u64 l1], AObj.ro nl2 n2 [Col.ci IntKind.u64 fl], AObj.own 26 4 [AV.i IntKind.u64 sc, AV.i IntKind.i64 cnt, AV.sl 0 0 n (some cap), AV.sl 1 0 n2 (some cap2)], AObj.own 29 2 [AV.v (Value.float FloatKind.f64 (Int.toNat sc)), AV.i IntKind.i64 cnt], AObj.own 27 1 [AV.v (Value.float FloatKind.f64 0), AV.v (Value.float FloatKind.f64 9223372036854775808), AV.v (Value.float FloatKind.f64 4607182418800017408), AV.v (Value.float FloatKind.f64 9221120237041090561), AV.v (Value.float FloatKind.f64 9218868437227405312), AV.v (Value.float FloatKind.f64 18442240474082181120), AV.v (Value.float FloatKind.f64 (Int.toNat sc))]])) (by kernel_rfl) ?_
         first | exact rfl | exact agB0 1 hm (by omega) rfl
      · skip
        refine H.kd 2 (fun b => b) (Int.toNat sc < 18446744073709551616) (by (first | assumption | omega | exact beq_self_eq_true _ | (simp; omega))) (by kernel_rfl) ?_
        refine H.sb 0 (fun b => b) (healthO (Int.toNat sc) cnt) (by kernel_rfl) (fun h1 => ?_) (fun h1 => ?_)
        ·
         refine H.kd 22 (fun b => b) (Int.toNat sc < 18446744073709551616) (by (first | assumption | omega | exact beq_self_eq_true _ | (simp; omega))) (by kernel_rfl) ?_
         refine H.kb 0 (fun b => (!b)) (b := (healthO (Int.toNat sc) cnt)) (d := true) (by (first | assumption | omega | exact beq_self_eq_true _ | (simp; omega))) (by kernel_rfl) ?_
         refine H.kb 14 (fun b => (!b)) (b := (goodO (Int.toNat sc) cnt 4607182418800017408 == goodO (Int.toNat sc) cnt 4607182418800017408)) (d := true) (by (first | assumption | omega | exact beq_self_eq_true _ | (simp; omega))) (by kernel_rfl) ?_
         refine H.lf (f := oc2) 1 (Sum.inl ([AV.ptr 2 0 0, AV.ptr 3 0 0, AV.sl 4 0 7 (some 7), a, AV.i IntKind.i64 3], 2, [AObj.ro nl n [Col.ci IntKind.u64 l0, Col.ci IntKind.u64 l1], AObj.ro nl2 n2 [Col.ci IntKind.u64 fl], AObj.own 26 4 [AV.i IntKind.u64 sc, AV.i IntKind.i64 cnt, AV.sl 0 0 n (some cap), AV.sl 1 0 n2 (some cap2)], AObj.own 29 2 [AV.v (Value.float FloatKind.f64 (Int.toNat sc)), AV.i IntKind.i64 cnt], AObj.own 27 1 [AV.v (Value.float FloatKind.f64 0), AV.v (Value.float FloatKind.f64 9223372036854775808), AV.v (Value.float FloatKind.f64 4607182418800017408), AV.v (Value.float FloatKind.f64 9221120237041090561), AV.v (Value.float FloatKind.f64 9218868437227405312), AV.v (Value.float FloatKind.f64 18442240474082181120), AV.v (Value.float FloatKind.f64 (Int.toNat sc))]])) (by kernel_rfl) ?_
         first | exact rfl | exact agB0 2 hm (by omega) rfl
        ·
         refine H.kd 11 (fun b => b) (Int.toNat sc < 18446744073709551616) (by (first | assumption | omega | exact beq_self_eq_true _ | (simp; omega))) (by kernel_rfl) ?_
         refine H.kb 0 (fun b => (!b)) (b := (healthO (Int.toNat sc) cnt)) (d := false) (by (first | assumption | omega | exact beq_self_eq_true _ | (simp; omega))) (by kernel_rfl) ?_
         refine H.lf (f := oc2) 16 (Sum.inl ([AV.ptr 2 0 0, AV.ptr 3 0 0, AV.sl 4 0 7 (some 7), a, AV.i IntKind.i64 3], 2, [AObj.ro nl n [Col.ci IntKind.u64 l0, Col.ci IntKind.u64 l1], AObj.ro nl2 n2 [Col.ci IntKind.u64 fl], AObj.own 26 4 [AV.i IntKind.u64 sc, AV.i IntKind.i64 cnt, AV.sl 0 0 n (some cap), AV.sl 1 0 n2 (some cap2)], AObj.own 29 2 [AV.v (Value.float FloatKind.f64 (Int.toNat sc)), AV.i IntKind.i64 cnt], AObj.own 27 1 [AV.v (Value.float FloatKind.f64 0), AV.v (Value.float FloatKind.f64 9223372036854775808), AV.v (Value.float FloatKind.f64 4607182418800017408), AV.v (Value.float FloatKind.f64 9221120237041090561), AV.v (Value.float FloatKind.f64 9218868437227405312), AV.v (Value.float FloatKind.f64 18442240474082181120), AV.v (Value.float FloatKind.f64 (Int.toNat sc))]])) (by kernel_rfl) ?_
         first | exact rfl | exact agB0 2 hm (by omega) rfl
      · skip
        refine H.kd 2 (fun b => b) (Int.toNat sc < 18446744073709551616) (by (first | assumption | omega | exact beq_self_eq_true _ | (simp; omega))) (by kernel_rfl) ?_
        refine H.sb 0 (fun b => b) (healthO (Int.toNat sc) cnt) (by kernel_rfl) (fun h1 => ?_) (fun h1 => ?_)
        ·
         refine H.kd 22 (fun b => b) (Int.toNat sc < 18446744073709551616) (by (first | assumption | omega | exact beq_self_eq_true _ | (simp; omega))) (by kernel_rfl) ?_
         refine H.kb 0 (fun b => (!b)) (b := (healthO (Int.toNat sc) cnt)) (d := true) (by (first | assumption | omega | exact beq_self_eq_true _ | (simp; omega))) (by kernel_rfl) ?_
         refine H.kb 14 (fun b => (!b)) (b := (goodO (Int.toNat sc) cnt 9221120237041090561 == goodO (Int.toNat sc) cnt 9221120237041090561)) (d := true) (by (first | assumption | omega | exact beq_self_eq_true _ | (simp; omega))) (by kernel_rfl) ?_
         refine H.lf (f := oc2) 1 (Sum.inl ([AV.ptr 2 0 0, AV.ptr 3 0 0, AV.sl 4 0 7 (some 7), a, AV.i IntKind.i64 4], 2, [AObj.ro nl n [Col.ci IntKind.u64 l0, Col.ci IntKind.u64 l1], AObj.ro nl2 n2 [Col.ci IntKind.u64 fl], AObj.own 26 4 [AV.i IntKind.u64 sc, AV.i IntKind.i64 cnt, AV.sl 0 0 n (some cap), AV.sl 1 0 n2 (some cap2)], AObj.own 29 2 [AV.v (Value.float FloatKind.f64 (Int.toNat sc)), AV.i IntKind.i64 cnt], AObj.own 27 1 [AV.v (Value.float FloatKind.f64 0), AV.v (Value.float FloatKind.f64 9223372036854775808), AV.v (Value.float FloatKind.f64 4607182418800017408), AV.v (Value.float FloatKind.f64 9221120237041090561), AV.v (Value.float FloatKind.f64 9218868437227405312), AV.v (Value.float FloatKind.f64 18442240474082181120), AV.v (Value.float FloatKind.f64 (Int.toNat sc))]])) (by kernel_rfl) ?_
         first | exact rfl | exact agB0 3 hm (by omega) rfl
        ·
         refine H.kd 11 (fun b => b) (Int.toNat sc < 18446744073709551616) (by (first | assumption | omega | exact beq_self_eq_true _ | (simp; omega))) (by kernel_rfl) ?_
         refine H.kb 0 (fun b => (!b)) (b := (healthO (Int.toNat sc) cnt)) (d := false) (by (first | assumption | omega | exact beq_self_eq_true _ | (simp; omega))) (by kernel_rfl) ?_
         refine H.lf (f := oc2) 16 (Sum.inl ([AV.ptr 2 0 0, AV.ptr 3 0 0, AV.sl 4 0 7 (some 7), a, AV.i IntKind.i64 4], 2, [AObj.ro nl n [Col.ci IntKind.u64 l0, Col.ci IntKind.u64 l1], AObj.ro nl2 n2 [Col.ci IntKind.u64 fl], AObj.own 26 4 [AV.i IntKind.u64 sc, AV.i IntKind.i64 cnt, AV.sl 0 0 n (some cap), AV.sl 1 0 n2 (some cap2)], AObj.own 29 2 [AV.v (Value.float FloatKind.f64 (Int.toNat sc)), AV.i IntKind.i64 cnt], AObj.own 27 1 [AV.v (Value.float FloatKind.f64 0), AV.v (Value.float FloatKind.f64 9223372036854775808), AV.v (Value.float FloatKind.f64 4607182418800017408), AV.v (Value.float FloatKind.f64 9221120237041090561), AV.v (Value.float FloatKind.f64 9218868437227405312), AV.v (Value.float FloatKind.f64 18442240474082181120), AV.v (Value.float FloatKind.f64 (Int.toNat sc))]])) (by kernel_rfl) ?_
         first | exact rfl | exact agB0 3 hm (by omega) rfl
      · skip
        refine H.kd 2 (fun b => b) (Int.toNat sc < 18446744073709551616) (by (first | assumption | omega | exact beq_self_eq_true _ | (simp; omega))) (by kernel_rfl) ?_
        refine H.sb 0 (fun b => b) (healthO (Int.toNat sc) cnt) (by kernel_rfl) (fun h1 => ?_) (fun h1 => ?_)
        ·
         refine H.kd 22 (fun b => b) (Int.toNat sc < 18446744073709551616) (by (first | assumption | omega | exact beq_self_eq_true _ | (simp; omega))) (by kernel_rfl) ?_
         refine H.kb 0 (fun b => (!b)) (b := (healthO (Int.toNat sc) cnt)) (d := true) (by (first | assumption | omega | exact beq_self_eq_true _ | (simp; omega))) (by kernel_rfl) ?_
         refine H.kb 14 (fun b => (!b)) (b := (goodO (Int.toNat sc) cnt 9218868437227405312 == goodO (Int.toNat sc) cnt 9218868437227405312)) (d := true) (by (first | assumption | omega | exact beq_self_eq_true _ | (simp; omega))) (by kernel_rfl) ?_
         refine H.lf (f := oc2) 1 (Sum.inl ([AV.ptr 2 0 0, AV.ptr 3 0 0, AV.sl 4 0 7 (some 7), a, AV.i IntKind.i64 5], 2, [AObj.ro nl n [Col.ci IntKind.u64 l0, Col.ci IntKind.u64 l1], AObj.ro nl2 n2 [Col.ci IntKind.u64 fl], AObj.own 26 4 [AV.i IntKind.u64 sc, AV.i IntKind.i64 cnt, AV.sl 0 0 n (some cap), AV.sl 1 0 n2 (some cap2)], AObj.own 29 2 [AV.v (Value.float FloatKind.f64 (Int.toNat sc)), AV.i IntKind.i64 cnt], AObj.own 27 1 [AV.v (Value.float FloatKind.f64 0), AV.v (Value.float FloatKind.f64 9223372036854775808), AV.v (Value.float FloatKind.f64 4607182418800017408), AV.v (Value.float FloatKind.f64 9221120237041090561), AV.v (Value.float FloatKind.f64 9218868437227405312), AV.v (Value.float FloatKind.f64 18442240474082181120), AV.v (Value.float FloatKind.f64 (Int.toNat sc))]])) (by kernel_rfl) ?_
         first | exact rfl | exact agB0 4 hm (by omega) rfl
        ·
         refine H.kd 11 (fun b => b) (Int.toNat sc < 18446744073709551616) (by (first | assumption | omega | exact beq_self_eq_true _ | (simp; omega))) (by kernel_rfl) ?_
         refine H.kb 0 (fun b => (!b)) (b := (healthO (Int.toNat sc) cnt)) (d := false) (by (first | assumption | omega | exact beq_self_eq_true _ | (simp; omega))) (by kernel_rfl) ?_
         refine H.lf (f := oc2) 16 (Sum.inl ([AV.ptr 2 0 0, AV.ptr 3 0 0, AV.sl 4 0 7 (some 7), a, AV.i IntKind.i64 5], 2, [AObj.ro nl n [Col.ci IntKind.u64 l0, Col.ci IntKind.u64 l1], AObj.ro nl2 n2 [Col.ci IntKind.u64 fl], AObj.own 26 4 [AV.i IntKind.u64 sc, AV.i IntKind.i64 cnt, AV.sl 0 0 n (some cap), AV.sl 1 0 n2 (some cap2)], AObj.own 29 2 [AV.v (Value.float FloatKind.f64 (Int.toNat sc)), AV.i IntKind.i64 cnt], AObj.own 27 1 [AV.v (Value.float FloatKind.f64 0), AV.v (Value.float FloatKind.f64 9223372036854775808), AV.v (Value.float FloatKind.f64 4607182418800017408), AV.v (Value.float FloatKind.f64 9221120237041090561), AV.v (Value.float FloatKind.f64 9218868437227405312), AV.v (Value.float FloatKind.f64 18442240474082181120), AV.v (Value.float FloatKind.f64 (Int.toNat sc))]])) (by kernel_rfl) ?_
         first | exact rfl | exact agB0 4 hm (by omega) rfl
      · skip
        refine H.kd 2 (fun b => b) (Int.toNat sc < 18446744073709551616) (by (first | assumption | omega | exact beq_self_eq_true _ | (simp; omega))) (by kernel_rfl) ?_
        refine H.sb 0 (fun b => b) (healthO (Int.toNat sc) cnt) (by kernel_rfl) (fun h1 => ?_) (fun h1 => ?_)
        ·
         refine H.kd 22 (fun b => b) (Int.toNat sc < 18446744073709551616) (by (first | assumption | omega | exact beq_self_eq_true _ | (simp; omega))) (by kernel_rfl) ?_
         refine H.kb 0 (fun b => (!b)) (b := (healthO (Int.toNat sc) cnt)) (d := true) (by (first | assumption | omega | exact beq_self_eq_true _ | (simp; omega))) (by kernel_rfl) ?_
         refine H.kb 14 (fun b => (!b)) (b := (goodO (Int.toNat sc) cnt 18442240474082181120 == goodO (Int.toNat sc) cnt 18442240474082181120)) (d := true) (by (first | assumption | omega | exact beq_self_eq_true _ | (simp; omega))) (by kernel_rfl) ?_
         refine H.lf (f := oc2) 1 (Sum.inl ([AV.ptr 2 0 0, AV.ptr 3 0 0, AV.sl 4 0 7 (some 7), a, AV.i IntKind.i64 6], 2, [AObj.ro nl n [Col.ci IntKind.u64 l0, Col.ci IntKind.u64 l1], AObj.ro nl2 n2 [Col.ci IntKind.u64 fl], AObj.own 26 4 [AV.i IntKind.u64 sc, AV.i IntKind.i64 cnt, AV.sl 0 0 n (some cap), AV.sl 1 0 n2 (some cap2)], AObj.own 29 2 [AV.v (Value.float FloatKind.f64 (Int.toNat sc)), AV.i IntKind.i64 cnt], AObj.own 27 1 [AV.v (Value.float FloatKind.f64 0), AV.v (Value.float FloatKind.f64 9223372036854775808), AV.v (Value.float FloatKind.f64 4607182418800017408), AV.v (Value.float FloatKind.f64 9221120237041090561), AV.v (Value.float FloatKind.f64 9218868437227405312), AV.v (Value.float FloatKind.f64 18442240474082181120), AV.v (Value.float FloatKind.f64 (Int.toNat sc))]])) (by kernel_rfl) ?_
         first | exact rfl | exact agB0 5 hm (by omega) rfl
        ·
         refine H.kd 11 (fun b => b) (Int.toNat sc < 18446744073709551616) (by (first | assumption | omega | exact beq_self_eq_true _ | (simp; omega))) (by kernel_rfl) ?_
         refine H.kb 0 (fun b => (!b)) (b := (healthO (Int.toNat sc) cnt)) (d := false) (by (first | assumption | omega | exact beq_self_eq_true _ | (simp; omega))) (by kernel_rfl) ?_
         refine H.lf (f := oc2) 16 (Sum.inl ([AV.ptr 2 0 0, AV.ptr 3 0 0, AV.sl 4 0 7 (some 7), a, AV.i IntKind.i64 6], 2, [AObj.ro nl n [Col.ci IntKind.u64 l0, Col.ci IntKind.u64 l1], AObj.ro nl2 n2 [Col.ci IntKind.u64 fl], AObj.own 26 4 [AV.i IntKind.u64 sc, AV.i IntKind.i64 cnt, AV.sl 0 0 n (some cap), AV.sl 1 0 n2 (some cap2)], AObj.own 29 2 [AV.v (Value.float FloatKind.f64 (Int.toNat sc)), AV.i IntKind.i64 cnt], AObj.own 27 1 [AV.v (Value.float FloatKind.f64 0), AV.v (Value.float FloatKind.f64 9223372036854775808), AV.v (Value.float FloatKind.f64 4607182418800017408), AV.v (Value.float FloatKind.f64 9221120237041090561), AV.v (Value.float FloatKind.f64 9218868437227405312), AV.v (Value.float FloatKind.f64 18442240474082181120), AV.v (Value.float FloatKind.f64 (Int.toNat sc))]])) (by kernel_rfl) ?_
         first | exact rfl | exact agB0 5 hm (by omega) rfl
      · skip
        refine H.kd 2 (fun b => b) (Int.toNat sc < 18446744073709551616) (by (first | assumption | omega | exact beq_self_eq_true _ | (simp; omega))) (by kernel_rfl) ?_
        refine H.sb 0 (fun b => b) (healthO (Int.toNat sc) cnt) (by kernel_rfl) (fun h1 => ?_) (fun h1 => ?_)
        ·
         refine H.kd 22 (fun b => b) (Int.toNat sc < 18446744073709551616) (by (first | assumption | omega | exact beq_self_eq_true _ | (simp; omega))) (by kernel_rfl) ?_
         refine H.kb 0 (fun b => (!b)) (b := (healthO (Int.toNat sc) cnt)) (d := true) (by (first | assumption | omega | exact beq_self_eq_true _ | (simp; omega))) (by kernel_rfl) ?_
         refine H.kb 14 (fun b => (!b)) (b := (goodO (Int.toNat sc) cnt (Int.toNat sc) == goodO (Int.toNat sc) cnt (Int.toNat sc))) (d := true) (by (first | assumption | omega | exact beq_self_eq_true _ | (simp; omega))) (by kernel_rfl) ?_
         refine H.lf (f := oc2) 1 (Sum.inl ([AV.ptr 2 0 0, AV.ptr 3 0 0, AV.sl 4 0 7 (some 7), a, AV.i IntKind.i64 7], 2, [AObj.ro nl n [Col.ci IntKind.u64 l0, Col.ci IntKind.u64 l1], AObj.ro nl2 n2 [Col.ci IntKind.u64 fl], AObj.own 26 4 [AV.i IntKind.u64 sc, AV.i IntKind.i64 cnt, AV.sl 0 0 n (some cap), AV.sl 1 0 n2 (some cap2)], AObj.own 29 2 [AV.v (Value.float FloatKind.f64 (Int.toNat sc)), AV.i IntKind.i64 cnt], AObj.own 27 1 [AV.v (Value.float FloatKind.f64 0), AV.v (Value.float FloatKind.f64 9223372036854775808), AV.v (Value.float FloatKind.f64 4607182418800017408), AV.v (Value.float FloatKind.f64 9221120237041090561), AV.v (Value.float FloatKind.f64 9218868437227405312), AV.v (Value.float FloatKind.f64 18442240474082181120), AV.v (Value.float FloatKind.f64 (Int.toNat sc))]])) (by kernel_rfl) ?_
         first | exact rfl | exact agB0 6 hm (by omega) rfl
        ·
         refine H.kd 11 (fun b => b) (Int.toNat sc < 18446744073709551616) (by (first | assumption | omega | exact beq_self_eq_true _ | (simp; omega))) (by kernel_rfl) ?_
         refine H.kb 0 (fun b => (!b)) (b := (healthO (Int.toNat sc) cnt)) (d := false) (by (first | assumption | omega | exact beq_self_eq_true _ | (simp; omega))) (by kernel_rfl) ?_
         refine H.lf (f := oc2) 16 (Sum.inl ([AV.ptr 2 0 0, AV.ptr 3 0 0, AV.sl 4 0 7 (some 7), a, AV.i IntKind.i64 7], 2, [AObj.ro nl n [Col.ci IntKind.u64 l0, Col.ci IntKind.u64 l1], AObj.ro nl2 n2 [Col.ci IntKind.u64 fl], AObj.own 26 4 [AV.i IntKind.u64 sc, AV.i IntKind.i64 cnt, AV.sl 0 0 n (some cap), AV.sl 1 0 n2 (some cap2)], AObj.own 29 2 [AV.v (Value.float FloatKind.f64 (Int.toNat sc)), AV.i IntKind.i64 cnt], AObj.own 27 1 [AV.v (Value.float FloatKind.f64 0), AV.v (Value.float FloatKind.f64 9223372036854775808), AV.v (Value.float FloatKind.f64 4607182418800017408), AV.v (Value.float FloatKind.f64 9221120237041090561), AV.v (Value.float FloatKind.f64 9218868437227405312), AV.v (Value.float FloatKind.f64 18442240474082181120), AV.v (Value.float FloatKind.f64 (Int.toNat sc))]])) (by kernel_rfl) ?_
         first | exact rfl | exact agB0 6 hm (by omega) rfl
      · skip
        refine H.lf (f := oc2) 3 (Sum.inr (Sum.inl (AV.b true))) (by kernel_rfl) ?_
        first | exact rfl | exact agB0 7 hm (by omega) rfl
    · refine lawL_Q ?_
      refine H.sd 1 (fun b => b) ((↑j : Int) < (↑(i + 7) : Int)) (by kernel_rfl) (fun h1 => ?_) (fun h1 => ?_)
      ·
       refine H.kd 0 (fun b => b) (Int.toNat sc < 18446744073709551616) (by (first | assumption | omega | exact beq_self_eq_true _ | (simp; omega))) (by kernel_rfl) ?_
       refine H.sb 0 (fun b => b) (healthO (Int.toNat sc) cnt) (by kernel_rfl) (fun h2 => ?_) (fun h2 => ?_)
       ·
        refine H.kd 6 (fun b => b) ((↑j : Int) < (↑(i + 7) : Int)) (by (first | assumption | omega | exact beq_self_eq_true _ | (simp; omega))) (by kernel_rfl) ?_
        refine H.kl 1 (fun b => b) (0 + Int.toNat (↑j : Int)) (i + 7) (by (first | assumption | omega | exact beq_self_eq_true _ | (simp; omega))) (by kernel_rfl) ?_
        refine H.kd 9 (fun b => b) ((↑j : Int) < (↑(i + 7) : Int)) (by (first | assumption | omega | exact beq_self_eq_true _ | (simp; omega))) (by kernel_rfl) ?_
        refine H.kl 1 (fun b => b) (0 + Int.toNat (↑j : Int)) (i + 7) (by (first | assumption | omega | exact beq_self_eq_true _ | (simp; omega))) (by kernel_rfl) ?_
        refine H.kd 3 (fun b => b) (Int.toNat sc < 18446744073709551616) (by (first | assumption | omega | exact beq_self_eq_true _ | (simp; omega))) (by kernel_rfl) ?_
        refine H.kb 0 (fun b => (!b)) (b := (healthO (Int.toNat sc) cnt)) (d := true) (by (first | assumption | omega | exact beq_self_eq_true _ | (simp; omega))) (by kernel_rfl) ?_
        refine H.kb 14 (fun b => (!b)) (b := (goodO (Int.toNat sc) cnt (List.getD L (0 + Int.toNat (↑j : Int)) 0) == goodO (Int.toNat sc) cnt (List.getD L (0 + Int.toNat (↑j : Int)) 0))) (d := true) (by (first | assumption | omega | exact beq_self_eq_true _ | (simp; omega))) (by kernel_rfl) ?_
        refine H.lf (f := oc2) 1 (Sum.inl ([AV.ptr 2 0 0, AV.ptr 3 0 0, AV.sl 5 0 (i + 7) none, a, AV.i IntKind.i64 (wr IntKind.i64 ((↑j : Int) + 1))], 2, [AObj.ro nl n [Col.ci IntKind.u64 l0, Col.ci IntKind.u64 l1], AObj.ro nl2 n2 [Col.ci IntKind.u64 fl], AObj.own 26 4 [AV.i IntKind.u64 sc, AV.i IntKind.i64 cnt, AV.sl 0 0 n (some cap), AV.sl 1 0 n2 (some cap2)], AObj.own 29 2 [AV.v (Value.float FloatKind.f64 (Int.toNat sc)), AV.i IntKind.i64 cnt], AObj.dead, AObj.vec 27 (i + 7) [Col.cf FloatKind.f64 L]])) (by kernel_rfl) ?_
        first | exact rfl | exact agB7 hi hm (by omega)
       ·
        refine H.kd 6 (fun b => b) ((↑j : Int) < (↑(i + 7) : Int)) (by (first | assumption | omega | exact beq_self_eq_true _ | (simp; omega))) (by kernel_rfl) ?_
        refine H.kl 1 (fun b => b) (0 + Int.toNat (↑j : Int)) (i + 7) (by (first | assumption | omega | exact beq_self_eq_true _ | (simp; omega))) (by kernel_rfl) ?_
        refine H.kd 3 (fun b => b) (Int.toNat sc < 18446744073709551616) (by (first | assumption | omega | exact beq_self_eq_true _ | (simp; omega))) (by kernel_rfl) ?_
        refine H.kb 0 (fun b => (!b)) (b := (healthO (Int.toNat sc) cnt)) (d := false) (by (first | assumption | omega | exact beq_self_eq_true _ | (simp; omega))) (by kernel_rfl) ?_
        refine H.lf (f := oc2) 16 (Sum.inl ([AV.ptr 2 0 0, AV.ptr 3 0 0, AV.sl 5 0 (i + 7) none, a, AV.i IntKind.i64 (wr IntKind.i64 ((↑j : Int) + 1))], 2, [AObj.ro nl n [Col.ci IntKind.u64 l0, Col.ci IntKind.u64 l1], AObj.ro nl2 n2 [Col.ci IntKind.u64 fl], AObj.own 26 4 [AV.i IntKind.u64 sc, AV.i IntKind.i64 cnt, AV.sl 0 0 n (some cap), AV.sl 1 0 n2 (some cap2)], AObj.own 29 2 [AV.v (Value.float FloatKind.f64 (Int.toNat sc)), AV.i IntKind.i64 cnt], AObj.dead, AObj.vec 27 (i + 7) [Col.cf FloatKind.f64 L]])) (by kernel_rfl) ?_
        first | exact rfl | exact agB7 hi hm (by omega)
      ·
       refine H.lf (f := oc2) 1 (Sum.inr (Sum.inl (AV.b true))) (by kernel_rfl) ?_
       first | exact rfl | exact agB7 hi hm (by omega)
end
end Go.Proofs.TabH
