/- Lemmas about the evaluator of the code. -/
import Derived.Test.YtiokhipgpfeoeaaSetH
set_option linter.all false
set_option linter.deprecated false
set_option maxRecDepth 1000000
set_option maxHeartbeats 4000000
namespace Go.Proofs.TabH
open Go Go.Eng
section
variable {sc cnt : Int} {nl nl2 : Bool} {n n2 cap cap2 : Nat} {l0 l1 fl : List Int}
def Inv4 (sc cnt : Int) (nl nl2 : Bool) (n n2 cap cap2 : Nat) (l0 l1 fl : List Int) (m : Nat) (s : St3) : Prop := ∃ (i x : Nat) (c : Int), i ≤ 20 ∧ m = 20 - i ∧ x < 18446744073709551616 ∧ s = ([.ptr 2 0 0, .ptr 3 0 0, iv i], 2, [.ro nl n [.ci .u64 l0, .ci .u64 l1], .ro nl2 n2 [.ci .u64 fl], .own 26 4 [.i .u64 sc, iv cnt, .sl 0 0 n (some cap), .sl 1 0 n2 (some cap2)], .own 29 2 [fv x, iv c]])
theorem ag4 {m i x : Nat} {c : Int} {G : Stop → Prop} (hm : m = 20 - i) (h : i < 20) (hx : x < 18446744073709551616) : OkL (fun s' => ∃ m', m' < m ∧ Inv4 sc cnt nl nl2 n n2 cap cap2 l0 l1 fl m' s') G (.inl ([.ptr 2 0 0, .ptr 3 0 0, iv (wr .i64 ((i : Int) + 1))], 2, [.ro nl n [.ci .u64 l0, .ci .u64 l1], .ro nl2 n2 [.ci .u64 fl], .own 26 4 [.i .u64 sc, iv cnt, .sl 0 0 n (some cap), .sl 1 0 n2 (some cap2)], .own 29 2 [fv x, iv c]])) := by
  have hlt : 20 - (i + 1) < m := by omega
  exact ⟨_, hlt, i + 1, _, _, by omega, rfl, hx, by rw [wr64 (by omega) (by omega)]; rfl⟩
theorem wd {l : List Int} (h : ∀ x ∈ l, 0 ≤ x ∧ x < 18446744073709551616) (j : Nat) : Int.toNat (l.getD j 0) < 18446744073709551616 := by
  rcases Nat.lt_or_ge j l.length with hj | hj
  · have := h (l.getD j 0) (by rw [List.getD_eq_getElem?_getD, List.getElem?_eq_getElem hj]; exact List.getElem_mem hj)
    omega
  · rw [List.getD_eq_getElem?_getD, List.getElem?_eq_none hj]; decide
theorem law4 (hsc : Int.toNat sc < 18446744073709551616) (w0 : ∀ x ∈ l0, 0 ≤ x ∧ x < 18446744073709551616) (w1 : ∀ x ∈ l1, 0 ≤ x ∧ x < 18446744073709551616) : H (ev S7 5 4 [.agg [.i .u64 sc, iv cnt, .sl 0 0 n (some cap), .sl 1 0 n2 (some cap2)]] (memL 2 [.ro nl n [.ci .u64 l0, .ci .u64 l1], .ro nl2 n2 [.ci .u64 fl]])) (fun x => x.1 = .b true) (fun _ _ => False) := by
  refine law1 (fi := fi4 false) (by kernel_rfl) (by kernel_rfl) (by kernel_rfl) rfl [0, 1, 0, 1, 1] 4 2 rfl (by kernel_rfl) (Inv4 sc cnt nl nl2 n n2 cap cap2 l0 l1 fl) ?_ ?_
  · refine lawE_Q ?_
    refine H.lf (f := oc) 21 (Sum.inr ([0, 1, 0, 1, 1], 4, [AV.ptr 2 0 0, AV.ptr 3 0 0, AV.i IntKind.i64 0], 2, [AObj.ro nl n [Col.ci IntKind.u64 l0, Col.ci IntKind.u64 l1], AObj.ro nl2 n2 [Col.ci IntKind.u64 fl], AObj.own 26 4 [AV.i IntKind.u64 sc, AV.i IntKind.i64 cnt, AV.sl 0 0 n (some cap), AV.sl 1 0 n2 (some cap2)], AObj.own 29 2 [AV.v (Value.float FloatKind.f64 (Int.toNat sc)), AV.i IntKind.i64 cnt]])) (by kernel_rfl) ?_
    exact ⟨rfl, rfl, 20, by omega, 0, _, _, by omega, rfl, hsc, rfl⟩
  · rintro m _ ⟨i, s, c, hi, hm, hs, rfl⟩
    have hx : Int.toNat (List.getD l0 (0 + Int.toNat (↑i : Int)) 0) < 18446744073709551616 := wd w0 _
    have hw : Int.toNat (List.getD l1 (0 + Int.toNat (↑i : Int)) 0) < 18446744073709551616 := wd w1 _
    refine lawL_Q ?_
    refine H.sd 2 (fun b => (b == true)) ((↑i : Int) < (↑n : Int)) (by kernel_rfl) (fun h1 => ?_) (fun h1 => ?_)
    ·
     refine H.sd 3 (fun b => b) ((↑i : Int) < 20) (by kernel_rfl) (fun h2 => ?_) (fun h2 => ?_)
     ·
      refine H.kd 0 (fun b => b) (s < 18446744073709551616) (by (first | assumption | omega | exact weight_of (by assumption) (by assumption))) (by kernel_rfl) ?_
      refine H.kd 2 (fun b => b) (s < 18446744073709551616) (by (first | assumption | omega | exact weight_of (by assumption) (by assumption))) (by kernel_rfl) ?_
      refine H.sb 0 (fun b => (!b)) (healthO s c) (by kernel_rfl) (fun h3 => ?_) (fun h3 => ?_)
      ·
       refine H.kb 3 (fun b => ((!(b == true)) == false)) (b := (healthO s c)) (d := true) (by (first | assumption | omega | exact weight_of (by assumption) (by assumption))) (by kernel_rfl) ?_
       refine H.kb 2 (fun b => ((!b) == true)) (b := (healthO s c)) (d := true) (by (first | assumption | omega | exact weight_of (by assumption) (by assumption))) (by kernel_rfl) ?_
       refine H.kd 12 (fun b => b) ((↑i : Int) < (↑n : Int)) (by (first | assumption | omega | exact weight_of (by assumption) (by assumption))) (by kernel_rfl) ?_
       refine H.kl 4 (fun b => b) (0 + Int.toNat (↑i : Int)) (n) (by (first | assumption | omega | exact weight_of (by assumption) (by assumption))) (by kernel_rfl) ?_
       refine H.kd 8 (fun b => b) ((↑i : Int) < (↑n : Int)) (by (first | assumption | omega | exact weight_of (by assumption) (by assumption))) (by kernel_rfl) ?_
       refine H.kl 4 (fun b => b) (0 + Int.toNat (↑i : Int)) (n) (by (first | assumption | omega | exact weight_of (by assumption) (by assumption))) (by kernel_rfl) ?_
       refine H.kd 6 (fun b => b) (s < 18446744073709551616) (by (first | assumption | omega | exact weight_of (by assumption) (by assumption))) (by kernel_rfl) ?_
       refine H.kb 0 (fun b => ((!b) == false)) (b := (healthO s c)) (d := true) (by (first | assumption | omega | exact weight_of (by assumption) (by assumption))) (by kernel_rfl) ?_
       refine H.sb 2 (fun b => (b == true)) (Ieee.Format.order { exponentBits := 11, fractionBits := 52 } (Int.toNat (List.getD l1 (0 + Int.toNat (↑i : Int)) 0)) 0 == some Ordering.gt) (by kernel_rfl) (fun h4 => ?_) (fun h4 => ?_)
       ·
        refine H.sb 5 (fun b => (!b)) (Ieee.Format.order { exponentBits := 11, fractionBits := 52 } (Int.toNat (List.getD l1 (0 + Int.toNat (↑i : Int)) 0)) 4607182418800017408 == some Ordering.lt || Ieee.Format.order { exponentBits := 11, fractionBits := 52 } (Int.toNat (List.getD l1 (0 + Int.toNat (↑i : Int)) 0)) 4607182418800017408 == some Ordering.eq) (by kernel_rfl) (fun h5 => ?_) (fun h5 => ?_)
        ·
         refine H.kd 0 (fun b => b) (s < 18446744073709551616) (by (first | assumption | omega | exact weight_of (by assumption) (by assumption))) (by kernel_rfl) ?_
         refine H.kd 0 (fun b => b) (Int.toNat (List.getD l0 (0 + Int.toNat (↑i : Int)) 0) < 18446744073709551616) (by (first | assumption | omega | exact weight_of (by assumption) (by assumption))) (by kernel_rfl) ?_
         refine H.kd 0 (fun b => b) (Int.toNat (List.getD l1 (0 + Int.toNat (↑i : Int)) 0) < 18446744073709551616) (by (first | assumption | omega | exact weight_of (by assumption) (by assumption))) (by kernel_rfl) ?_
         refine H.kb 0 (fun b => b) (b := (healthO s c)) (d := true) (by (first | assumption | omega | exact weight_of (by assumption) (by assumption))) (by kernel_rfl) ?_
         refine H.kb 0 (fun b => b) (b := (weightO (Int.toNat (List.getD l1 (0 + Int.toNat (↑i : Int)) 0)))) (d := true) (by (first | assumption | omega | exact weight_of (by assumption) (by assumption))) (by kernel_rfl) ?_
         refine H.kd 14 (fun b => b) (s < 18446744073709551616) (by (first | assumption | omega | exact weight_of (by assumption) (by assumption))) (by kernel_rfl) ?_
         refine H.kb 0 (fun b => (b == true)) (b := (healthO s c)) (d := true) (by (first | assumption | omega | exact weight_of (by assumption) (by assumption))) (by kernel_rfl) ?_
         refine H.kb 2 (fun b => (b == true)) (b := (Ieee.Format.order { exponentBits := 11, fractionBits := 52 } (Int.toNat (List.getD l1 (0 + Int.toNat (↑i : Int)) 0)) 0 == some Ordering.gt)) (d := true) (by (first | assumption | omega | exact weight_of (by assumption) (by assumption))) (by kernel_rfl) ?_
         refine H.kb 3 (fun b => (!b)) (b := (Ieee.Format.order { exponentBits := 11, fractionBits := 52 } (Int.toNat (List.getD l1 (0 + Int.toNat (↑i : Int)) 0)) 4607182418800017408 == some Ordering.lt || Ieee.Format.order { exponentBits := 11, fractionBits := 52 } (Int.toNat (List.getD l1 (0 + Int.toNat (↑i : Int)) 0)) 4607182418800017408 == some Ordering.eq)) (d := true) (by (first | assumption | omega | exact weight_of (by assumption) (by assumption))) (by kernel_rfl) ?_
         refine H.kd 0 (fun b => b) (s < 18446744073709551616) (by (first | assumption | omega | exact weight_of (by assumption) (by assumption))) (by kernel_rfl) ?_
         refine H.kd 0 (fun b => b) (Int.toNat (List.getD l0 (0 + Int.toNat (↑i : Int)) 0) < 18446744073709551616) (by (first | assumption | omega | exact weight_of (by assumption) (by assumption))) (by kernel_rfl) ?_
         refine H.kd 0 (fun b => b) (Int.toNat (List.getD l1 (0 + Int.toNat (↑i : Int)) 0) < 18446744073709551616) (by (first | assumption | omega | exact weight_of (by assumption) (by assumption))) (by kernel_rfl) ?_
         refine H.kb 0 (fun b => b) (b := (healthO s c)) (d := true) (by (first | assumption | omega | exact weight_of (by assumption) (by assumption))) (by kernel_rfl) ?_
         refine H.kb 0 (fun b => b) (b := (weightO (Int.toNat (List.getD l1 (0 + Int.toNat (↑i : Int)) 0)))) (d := true) (by (first | assumption | omega | exact weight_of (by assumption) (by assumption))) (by kernel_rfl) ?_
         refine H.ke 17 (fun b => (b == true)) (noteC c (Int.toNat (List.getD l0 (0 + Int.toNat (↑i : Int)) 0))) (noteC c (Int.toNat (List.getD l0 (0 + Int.toNat (↑i : Int)) 0))) (by (first | assumption | omega | exact weight_of (by assumption) (by assumption))) (by kernel_rfl) ?_
         refine H.kd 6 (fun b => b) (noteO s c (Int.toNat (List.getD l0 (0 + Int.toNat (↑i : Int)) 0)) (Int.toNat (List.getD l1 (0 + Int.toNat (↑i : Int)) 0)) = noteO s c (Int.toNat (List.getD l0 (0 + Int.toNat (↑i : Int)) 0)) (Int.toNat (List.getD l1 (0 + Int.toNat (↑i : Int)) 0))) (by (first | assumption | omega | exact weight_of (by assumption) (by assumption))) (by kernel_rfl) ?_
         refine H.lf (f := oc2) 12 (Sum.inl ([AV.ptr 2 0 0, AV.ptr 3 0 0, AV.i IntKind.i64 (wr IntKind.i64 ((↑i : Int) + 1))], 2, [AObj.ro nl n [Col.ci IntKind.u64 l0, Col.ci IntKind.u64 l1], AObj.ro nl2 n2 [Col.ci IntKind.u64 fl], AObj.own 26 4 [AV.i IntKind.u64 sc, AV.i IntKind.i64 cnt, AV.sl 0 0 n (some cap), AV.sl 1 0 n2 (some cap2)], AObj.own 29 2 [AV.v (Value.float FloatKind.f64 (noteO s c (Int.toNat (List.getD l0 (0 + Int.toNat (↑i : Int)) 0)) (Int.toNat (List.getD l1 (0 + Int.toNat (↑i : Int)) 0)))), AV.i IntKind.i64 (noteC c (Int.toNat (List.getD l0 (0 + Int.toNat (↑i : Int)) 0)))]])) (by kernel_rfl) ?_
         first | exact rfl | exact ag4 hm (by omega) hs | exact ag4 hm (by omega) (noteO_lt (by assumption) (by assumption) (by assumption) (by first | assumption | exact weight_of (by assumption) (by assumption)))
        ·
         refine H.kd 14 (fun b => b) (s < 18446744073709551616) (by (first | assumption | omega | exact weight_of (by assumption) (by assumption))) (by kernel_rfl) ?_
         refine H.kb 0 (fun b => (b == true)) (b := (healthO s c)) (d := true) (by (first | assumption | omega | exact weight_of (by assumption) (by assumption))) (by kernel_rfl) ?_
         refine H.kb 2 (fun b => (b == true)) (b := (Ieee.Format.order { exponentBits := 11, fractionBits := 52 } (Int.toNat (List.getD l1 (0 + Int.toNat (↑i : Int)) 0)) 0 == some Ordering.gt)) (d := true) (by (first | assumption | omega | exact weight_of (by assumption) (by assumption))) (by kernel_rfl) ?_
         refine H.kb 3 (fun b => (!b)) (b := (Ieee.Format.order { exponentBits := 11, fractionBits := 52 } (Int.toNat (List.getD l1 (0 + Int.toNat (↑i : Int)) 0)) 4607182418800017408 == some Ordering.lt || Ieee.Format.order { exponentBits := 11, fractionBits := 52 } (Int.toNat (List.getD l1 (0 + Int.toNat (↑i : Int)) 0)) 4607182418800017408 == some Ordering.eq)) (d := false) (by (first | assumption | omega | exact weight_of (by assumption) (by assumption))) (by kernel_rfl) ?_
         refine H.lf (f := oc2) 5 (Sum.inl ([AV.ptr 2 0 0, AV.ptr 3 0 0, AV.i IntKind.i64 (wr IntKind.i64 ((↑i : Int) + 1))], 2, [AObj.ro nl n [Col.ci IntKind.u64 l0, Col.ci IntKind.u64 l1], AObj.ro nl2 n2 [Col.ci IntKind.u64 fl], AObj.own 26 4 [AV.i IntKind.u64 sc, AV.i IntKind.i64 cnt, AV.sl 0 0 n (some cap), AV.sl 1 0 n2 (some cap2)], AObj.own 29 2 [AV.v (Value.float FloatKind.f64 s), AV.i IntKind.i64 c]])) (by kernel_rfl) ?_
         first | exact rfl | exact ag4 hm (by omega) hs | exact ag4 hm (by omega) (noteO_lt (by assumption) (by assumption) (by assumption) (by first | assumption | exact weight_of (by assumption) (by assumption)))
       ·
        refine H.kd 20 (fun b => b) (s < 18446744073709551616) (by (first | assumption | omega | exact weight_of (by assumption) (by assumption))) (by kernel_rfl) ?_
        refine H.kb 0 (fun b => (b == true)) (b := (healthO s c)) (d := true) (by (first | assumption | omega | exact weight_of (by assumption) (by assumption))) (by kernel_rfl) ?_
        refine H.kb 2 (fun b => (b == true)) (b := (Ieee.Format.order { exponentBits := 11, fractionBits := 52 } (Int.toNat (List.getD l1 (0 + Int.toNat (↑i : Int)) 0)) 0 == some Ordering.gt)) (d := false) (by (first | assumption | omega | exact weight_of (by assumption) (by assumption))) (by kernel_rfl) ?_
        refine H.lf (f := oc2) 9 (Sum.inl ([AV.ptr 2 0 0, AV.ptr 3 0 0, AV.i IntKind.i64 (wr IntKind.i64 ((↑i : Int) + 1))], 2, [AObj.ro nl n [Col.ci IntKind.u64 l0, Col.ci IntKind.u64 l1], AObj.ro nl2 n2 [Col.ci IntKind.u64 fl], AObj.own 26 4 [AV.i IntKind.u64 sc, AV.i IntKind.i64 cnt, AV.sl 0 0 n (some cap), AV.sl 1 0 n2 (some cap2)], AObj.own 29 2 [AV.v (Value.float FloatKind.f64 s), AV.i IntKind.i64 c]])) (by kernel_rfl) ?_
        first | exact rfl | exact ag4 hm (by omega) hs | exact ag4 hm (by omega) (noteO_lt (by assumption) (by assumption) (by assumption) (by first | assumption | exact weight_of (by assumption) (by assumption)))
      ·
       refine H.kb 3 (fun b => ((!(b == false)) == false)) (b := (healthO s c)) (d := false) (by (first | assumption | omega | exact weight_of (by assumption) (by assumption))) (by kernel_rfl) ?_
       refine H.kb 2 (fun b => ((!b) == true)) (b := (healthO s c)) (d := false) (by (first | assumption | omega | exact weight_of (by assumption) (by assumption))) (by kernel_rfl) ?_
       refine H.kd 13 (fun b => b) ((↑i : Int) < (↑n : Int)) (by (first | assumption | omega | exact weight_of (by assumption) (by assumption))) (by kernel_rfl) ?_
       refine H.kl 4 (fun b => b) (0 + Int.toNat (↑i : Int)) (n) (by (first | assumption | omega | exact weight_of (by assumption) (by assumption))) (by kernel_rfl) ?_
       refine H.kd 8 (fun b => b) ((↑i : Int) < (↑n : Int)) (by (first | assumption | omega | exact weight_of (by assumption) (by assumption))) (by kernel_rfl) ?_
       refine H.kl 4 (fun b => b) (0 + Int.toNat (↑i : Int)) (n) (by (first | assumption | omega | exact weight_of (by assumption) (by assumption))) (by kernel_rfl) ?_
       refine H.kd 6 (fun b => b) (s < 18446744073709551616) (by (first | assumption | omega | exact weight_of (by assumption) (by assumption))) (by kernel_rfl) ?_
       refine H.kb 0 (fun b => ((!b) == false)) (b := (healthO s c)) (d := false) (by (first | assumption | omega | exact weight_of (by assumption) (by assumption))) (by kernel_rfl) ?_
       refine H.kd 22 (fun b => b) (s < 18446744073709551616) (by (first | assumption | omega | exact weight_of (by assumption) (by assumption))) (by kernel_rfl) ?_
       refine H.kb 0 (fun b => (b == true)) (b := (healthO s c)) (d := false) (by (first | assumption | omega | exact weight_of (by assumption) (by assumption))) (by kernel_rfl) ?_
       refine H.lf (f := oc2) 12 (Sum.inl ([AV.ptr 2 0 0, AV.ptr 3 0 0, AV.i IntKind.i64 (wr IntKind.i64 ((↑i : Int) + 1))], 2, [AObj.ro nl n [Col.ci IntKind.u64 l0, Col.ci IntKind.u64 l1], AObj.ro nl2 n2 [Col.ci IntKind.u64 fl], AObj.own 26 4 [AV.i IntKind.u64 sc, AV.i IntKind.i64 cnt, AV.sl 0 0 n (some cap), AV.sl 1 0 n2 (some cap2)], AObj.own 29 2 [AV.v (Value.float FloatKind.f64 s), AV.i IntKind.i64 c]])) (by kernel_rfl) ?_
       first | exact rfl | exact ag4 hm (by omega) hs | exact ag4 hm (by omega) (noteO_lt (by assumption) (by assumption) (by assumption) (by first | assumption | exact weight_of (by assumption) (by assumption)))
     ·
      refine H.lf (f := oc2) 39 (Sum.inr (Sum.inl (AV.b true))) (by kernel_rfl) ?_
      first | exact rfl | exact ag4 hm (by omega) hs | exact ag4 hm (by omega) (noteO_lt (by assumption) (by assumption) (by assumption) (by first | assumption | exact weight_of (by assumption) (by assumption)))
    ·
     refine H.lf (f := oc2) 42 (Sum.inr (Sum.inl (AV.b true))) (by kernel_rfl) ?_
     first | exact rfl | exact ag4 hm (by omega) hs | exact ag4 hm (by omega) (noteO_lt (by assumption) (by assumption) (by assumption) (by first | assumption | exact weight_of (by assumption) (by assumption)))
end
end Go.Proofs.TabH
