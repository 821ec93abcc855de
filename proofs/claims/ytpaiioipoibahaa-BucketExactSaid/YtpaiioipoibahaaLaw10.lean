/- The law's loop, round by round, and the arithmetic that it asks for, for all inputs of the law. -/
import Derived.Test.YtpaiioipoibahaaLaw8
set_option linter.all false
set_option linter.deprecated false
set_option maxRecDepth 1000000
set_option maxHeartbeats 4000000
namespace Go.Proofs.TabA
open Go Go.Eng
section
variable {l c f e d : Int} {nl : Bool} {n cap : Nat} {x0 x1 x2 x3 : List Int}
abbrev ob10 (l c f e d : Int) (nl : Bool) (n cap : Nat) (x0 x1 x2 x3 : List Int) (bl bc bf be bd : Int) : List AObj := [.ro nl n [.ci .i64 x0, .ci .i64 x1, .ci .i64 x2, .ci .i64 x3], .own 51 6 [iv l, iv c, iv f, iv e, iv d, .sl 0 0 n (some cap)], .own 48 5 [iv bl, iv bc, iv bf, iv be, iv bd]]
def Inv10 (l c f e d : Int) (nl : Bool) (n cap : Nat) (x0 x1 x2 x3 : List Int) (m : Nat) (s : St3) : Prop := ∃ bl bc bf be bd i : Int, 0 ≤ i ∧ i ≤ 40 ∧ m = (40 - i).toNat ∧ s = ([.ptr 1 0 0, .ptr 2 0 0, iv i], 1, ob10 l c f e d nl n cap x0 x1 x2 x3 bl bc bf be bd)
theorem ag10 {m : Nat} {i bl bc bf be bd : Int} (hmi : m = (40 - i).toNat) (h0 : 0 ≤ i) (h : i < 40) : OkL (fun s' => ∃ m', m' < m ∧ Inv10 l c f e d nl n cap x0 x1 x2 x3 m' s') (fun _ => False) (.inl ([.ptr 1 0 0, .ptr 2 0 0, iv (wr .i64 (i + 1))], 1, ob10 l c f e d nl n cap x0 x1 x2 x3 bl bc bf be bd)) := by
  have hlt : (40 - (i + 1)).toNat < m := by omega
  exact ⟨_, hlt, bl, bc, bf, be, bd, i + 1, by omega, by omega, rfl, by rw [wr64 (by omega) (by omega)]⟩
theorem step10 (m : Nat) (s : St3) (hi : Inv10 l c f e d nl n cap x0 x1 x2 x3 m s) :
    H (lawL S2 (fi10 false) 1 [1,1,1,0,1,0] 3 (ar8 l c f e d n cap) s) (OkS (fun s' => ∃ m', m' < m ∧ Inv10 l c f e d nl n cap x0 x1 x2 x3 m' s') (OkY (fun y : AV × Mem => y.1 = .b true) (fun _ => False))) (fun _ _ => False) := by
  obtain ⟨bl, bc, bf, be, bd, i, h0, h40, hmi, rfl⟩ := hi
  refine lawL_Q ?_
  refine H.sd 2 (fun b => (b == true)) (i < ↑n) (by kernel_rfl) (fun h1 => ?_) (fun h1 => ?_)
  ·
   refine H.sd 3 (fun b => b) (i < 40) (by kernel_rfl) (fun h2 => ?_) (fun h2 => ?_)
   ·
    refine H.sd 0 (fun b => b) (0 ≤ bc ∧ bc ≤ 1048576 ∧ 0 ≤ bf ∧ bf ≤ 1048576 ∧ 0 ≤ bl ∧ bl ≤ bc ∧ 1 ≤ be ∧ be ≤ 1048576 ∧ 0 ≤ bd ∧ bd ≤ be - 1) (by kernel_rfl) (fun h3 => ?_) (fun h3 => ?_)
    ·
     refine H.kd 2 (fun b => ((!(b == true)) == false)) (0 ≤ bc ∧ bc ≤ 1048576 ∧ 0 ≤ bf ∧ bf ≤ 1048576 ∧ 0 ≤ bl ∧ bl ≤ bc ∧ 1 ≤ be ∧ be ≤ 1048576 ∧ 0 ≤ bd ∧ bd ≤ be - 1) (by (first | assumption | omega | (simp; done))) (by kernel_rfl) ?_
     refine H.kd 2 (fun b => ((!b) == true)) (0 ≤ bc ∧ bc ≤ 1048576 ∧ 0 ≤ bf ∧ bf ≤ 1048576 ∧ 0 ≤ bl ∧ bl ≤ bc ∧ 1 ≤ be ∧ be ≤ 1048576 ∧ 0 ≤ bd ∧ bd ≤ be - 1) (by (first | assumption | omega | (simp; done))) (by kernel_rfl) ?_
     refine H.kd 7 (fun b => b) (0 ≤ i) (by (first | assumption | omega | (simp; done))) (by kernel_rfl) ?_
     refine H.kd 0 (fun b => b) (i < ↑n) (by (first | assumption | omega | (simp; done))) (by kernel_rfl) ?_
     refine H.kl 2 (fun b => b) (0 + Int.toNat i) (n) (by (first | assumption | omega | (simp; done))) (by kernel_rfl) ?_
     refine H.kd 0 (fun b => (b == true)) (0 ≤ bc ∧ bc ≤ 1048576 ∧ 0 ≤ bf ∧ bf ≤ 1048576 ∧ 0 ≤ bl ∧ bl ≤ bc ∧ 1 ≤ be ∧ be ≤ 1048576 ∧ 0 ≤ bd ∧ bd ≤ be - 1) (by (first | assumption | omega | (simp; done))) (by kernel_rfl) ?_
     refine H.sd 3 (fun b => (b == true)) (List.getD x1 (0 + Int.toNat i) 0 ≥ 0) (by kernel_rfl) (fun h4 => ?_) (fun h4 => ?_)
     ·
      refine H.kd 7 (fun b => b) (0 ≤ i) (by (first | assumption | omega | (simp; done))) (by kernel_rfl) ?_
      refine H.kd 0 (fun b => b) (i < ↑n) (by (first | assumption | omega | (simp; done))) (by kernel_rfl) ?_
      refine H.kl 2 (fun b => b) (0 + Int.toNat i) (n) (by (first | assumption | omega | (simp; done))) (by kernel_rfl) ?_
      refine H.se 2 (fun b => b) (wi (List.getD x0 (0 + Int.toNat i) 0) 6) (0) (by kernel_rfl) (fun h5 => ?_) (fun h5 => ?_)
      ·
       refine H.kd 8 (fun b => b) (0 ≤ i) (by (first | assumption | omega | (simp; done))) (by kernel_rfl) ?_
       refine H.kd 0 (fun b => b) (i < ↑n) (by (first | assumption | omega | (simp; done))) (by kernel_rfl) ?_
       refine H.kl 4 (fun b => b) (0 + Int.toNat i) (n) (by (first | assumption | omega | (simp; done))) (by kernel_rfl) ?_
       refine H.kd 6 (fun b => b) (0 ≤ i) (by (first | assumption | omega | (simp; done))) (by kernel_rfl) ?_
       refine H.kd 0 (fun b => b) (i < ↑n) (by (first | assumption | omega | (simp; done))) (by kernel_rfl) ?_
       refine H.kl 4 (fun b => b) (0 + Int.toNat i) (n) (by (first | assumption | omega | (simp; done))) (by kernel_rfl) ?_
       refine H.kd 27 (fun b => b) (0 ≤ i) (by (first | assumption | omega | (simp; done))) (by kernel_rfl) ?_
       refine H.kd 0 (fun b => b) (i < ↑n) (by (first | assumption | omega | (simp; done))) (by kernel_rfl) ?_
       refine H.kl 4 (fun b => b) (0 + Int.toNat i) (n) (by (first | assumption | omega | (simp; done))) (by kernel_rfl) ?_
       refine H.kd 6 (fun b => b) (0 ≤ i) (by (first | assumption | omega | (simp; done))) (by kernel_rfl) ?_
       refine H.kd 0 (fun b => b) (i < ↑n) (by (first | assumption | omega | (simp; done))) (by kernel_rfl) ?_
       refine H.kl 4 (fun b => b) (0 + Int.toNat i) (n) (by (first | assumption | omega | (simp; done))) (by kernel_rfl) ?_
       refine H.sd 1 (fun b => b) ((0 : Int) ≤ List.getD x1 ((0 : Nat) + Int.toNat i) (0 : Int) ∧ List.getD x1 ((0 : Nat) + Int.toNat i) (0 : Int) ≤ (1048576 : Int) ∧ (0 : Int) ≤ List.getD x2 ((0 : Nat) + Int.toNat i) (0 : Int) ∧ List.getD x2 ((0 : Nat) + Int.toNat i) (0 : Int) ≤ (1048576 : Int) ∧ (0 : Int) ≤ List.getD x1 ((0 : Nat) + Int.toNat i) (0 : Int) ∧ List.getD x1 ((0 : Nat) + Int.toNat i) (0 : Int) ≤ List.getD x1 ((0 : Nat) + Int.toNat i) (0 : Int) ∧ (1 : Int) ≤ List.getD x3 ((0 : Nat) + Int.toNat i) (0 : Int) ∧ List.getD x3 ((0 : Nat) + Int.toNat i) (0 : Int) ≤ (1048576 : Int) ∧ (0 : Int) ≤ (0 : Int) ∧ (0 : Int) ≤ List.getD x3 ((0 : Nat) + Int.toNat i) (0 : Int) - (1 : Int)) (by kernel_rfl) (fun h6 => ?_) (fun h6 => ?_)
       ·
        refine H.kd 20 (fun b => ((!(b == true)) == false)) ((0 : Int) ≤ List.getD x1 ((0 : Nat) + Int.toNat i) (0 : Int) ∧ List.getD x1 ((0 : Nat) + Int.toNat i) (0 : Int) ≤ (1048576 : Int) ∧ (0 : Int) ≤ List.getD x2 ((0 : Nat) + Int.toNat i) (0 : Int) ∧ List.getD x2 ((0 : Nat) + Int.toNat i) (0 : Int) ≤ (1048576 : Int) ∧ (0 : Int) ≤ List.getD x1 ((0 : Nat) + Int.toNat i) (0 : Int) ∧ List.getD x1 ((0 : Nat) + Int.toNat i) (0 : Int) ≤ List.getD x1 ((0 : Nat) + Int.toNat i) (0 : Int) ∧ (1 : Int) ≤ List.getD x3 ((0 : Nat) + Int.toNat i) (0 : Int) ∧ List.getD x3 ((0 : Nat) + Int.toNat i) (0 : Int) ≤ (1048576 : Int) ∧ (0 : Int) ≤ (0 : Int) ∧ (0 : Int) ≤ List.getD x3 ((0 : Nat) + Int.toNat i) (0 : Int) - (1 : Int)) (by (first | assumption | omega | (simp; done))) (by kernel_rfl) ?_
        refine H.kd 2 (fun b => ((!b) == true)) ((0 : Int) ≤ List.getD x1 ((0 : Nat) + Int.toNat i) (0 : Int) ∧ List.getD x1 ((0 : Nat) + Int.toNat i) (0 : Int) ≤ (1048576 : Int) ∧ (0 : Int) ≤ List.getD x2 ((0 : Nat) + Int.toNat i) (0 : Int) ∧ List.getD x2 ((0 : Nat) + Int.toNat i) (0 : Int) ≤ (1048576 : Int) ∧ (0 : Int) ≤ List.getD x1 ((0 : Nat) + Int.toNat i) (0 : Int) ∧ List.getD x1 ((0 : Nat) + Int.toNat i) (0 : Int) ≤ List.getD x1 ((0 : Nat) + Int.toNat i) (0 : Int) ∧ (1 : Int) ≤ List.getD x3 ((0 : Nat) + Int.toNat i) (0 : Int) ∧ List.getD x3 ((0 : Nat) + Int.toNat i) (0 : Int) ≤ (1048576 : Int) ∧ (0 : Int) ≤ (0 : Int) ∧ (0 : Int) ≤ List.getD x3 ((0 : Nat) + Int.toNat i) (0 : Int) - (1 : Int)) (by (first | assumption | omega | (simp; done))) (by kernel_rfl) ?_
        refine H.kd 7 (fun b => (b == true)) ((0 : Int) ≤ List.getD x1 ((0 : Nat) + Int.toNat i) (0 : Int) ∧ List.getD x1 ((0 : Nat) + Int.toNat i) (0 : Int) ≤ (1048576 : Int) ∧ (0 : Int) ≤ List.getD x2 ((0 : Nat) + Int.toNat i) (0 : Int) ∧ List.getD x2 ((0 : Nat) + Int.toNat i) (0 : Int) ≤ (1048576 : Int) ∧ (0 : Int) ≤ List.getD x1 ((0 : Nat) + Int.toNat i) (0 : Int) ∧ List.getD x1 ((0 : Nat) + Int.toNat i) (0 : Int) ≤ List.getD x1 ((0 : Nat) + Int.toNat i) (0 : Int) ∧ (1 : Int) ≤ List.getD x3 ((0 : Nat) + Int.toNat i) (0 : Int) ∧ List.getD x3 ((0 : Nat) + Int.toNat i) (0 : Int) ≤ (1048576 : Int) ∧ (0 : Int) ≤ (0 : Int) ∧ (0 : Int) ≤ List.getD x3 ((0 : Nat) + Int.toNat i) (0 : Int) - (1 : Int)) (by (first | assumption | omega | (simp; done))) (by kernel_rfl) ?_
        refine H.kb 11 (fun b => (!b)) (b := (List.getD x1 (0 + Int.toNat i) 0 == List.getD x1 (0 + Int.toNat i) 0 && (List.getD x1 (0 + Int.toNat i) 0 == List.getD x1 (0 + Int.toNat i) 0 && (List.getD x2 (0 + Int.toNat i) 0 == List.getD x2 (0 + Int.toNat i) 0 && (List.getD x3 (0 + Int.toNat i) 0 == List.getD x3 (0 + Int.toNat i) 0 && true))))) (d := true) (by (first | assumption | omega | (simp; done))) (by kernel_rfl) ?_
        refine H.kd 0 (fun b => b) ((0 : Int) ≤ List.getD x1 ((0 : Nat) + Int.toNat i) (0 : Int) ∧ List.getD x1 ((0 : Nat) + Int.toNat i) (0 : Int) ≤ (1048576 : Int) ∧ (0 : Int) ≤ List.getD x2 ((0 : Nat) + Int.toNat i) (0 : Int) ∧ List.getD x2 ((0 : Nat) + Int.toNat i) (0 : Int) ≤ (1048576 : Int) ∧ (0 : Int) ≤ List.getD x1 ((0 : Nat) + Int.toNat i) (0 : Int) ∧ List.getD x1 ((0 : Nat) + Int.toNat i) (0 : Int) ≤ List.getD x1 ((0 : Nat) + Int.toNat i) (0 : Int) ∧ (1 : Int) ≤ List.getD x3 ((0 : Nat) + Int.toNat i) (0 : Int) ∧ List.getD x3 ((0 : Nat) + Int.toNat i) (0 : Int) ≤ (1048576 : Int) ∧ (0 : Int) ≤ (0 : Int) ∧ (0 : Int) ≤ List.getD x3 ((0 : Nat) + Int.toNat i) (0 : Int) - (1 : Int)) (by (first | assumption | omega | (simp; done))) (by kernel_rfl) ?_
        refine H.lf (f := oc2) 13 (Sum.inl ([AV.ptr 1 0 0, AV.ptr 2 0 0, AV.i IntKind.i64 (wr IntKind.i64 (i + 1))], 1, [AObj.ro nl n [Col.ci IntKind.i64 x0, Col.ci IntKind.i64 x1, Col.ci IntKind.i64 x2, Col.ci IntKind.i64 x3], AObj.own 51 6 [AV.i IntKind.i64 l, AV.i IntKind.i64 c, AV.i IntKind.i64 f, AV.i IntKind.i64 e, AV.i IntKind.i64 d, AV.sl 0 0 n (some cap)], AObj.own 48 5 [AV.i IntKind.i64 (List.getD x1 (0 + Int.toNat i) 0), AV.i IntKind.i64 (List.getD x1 (0 + Int.toNat i) 0), AV.i IntKind.i64 (List.getD x2 (0 + Int.toNat i) 0), AV.i IntKind.i64 (List.getD x3 (0 + Int.toNat i) 0), AV.i IntKind.i64 0]])) (by kernel_rfl) ?_
        first | exact ag10 hmi h0 (by omega) | exact rfl
       ·
        refine H.nd 20 (fun b => ((!(b == false)) == false)) ((0 : Int) ≤ List.getD x1 ((0 : Nat) + Int.toNat i) (0 : Int) ∧ List.getD x1 ((0 : Nat) + Int.toNat i) (0 : Int) ≤ (1048576 : Int) ∧ (0 : Int) ≤ List.getD x2 ((0 : Nat) + Int.toNat i) (0 : Int) ∧ List.getD x2 ((0 : Nat) + Int.toNat i) (0 : Int) ≤ (1048576 : Int) ∧ (0 : Int) ≤ List.getD x1 ((0 : Nat) + Int.toNat i) (0 : Int) ∧ List.getD x1 ((0 : Nat) + Int.toNat i) (0 : Int) ≤ List.getD x1 ((0 : Nat) + Int.toNat i) (0 : Int) ∧ (1 : Int) ≤ List.getD x3 ((0 : Nat) + Int.toNat i) (0 : Int) ∧ List.getD x3 ((0 : Nat) + Int.toNat i) (0 : Int) ≤ (1048576 : Int) ∧ (0 : Int) ≤ (0 : Int) ∧ (0 : Int) ≤ List.getD x3 ((0 : Nat) + Int.toNat i) (0 : Int) - (1 : Int)) (by (first | assumption | omega | (simp; done))) (by kernel_rfl) ?_
        refine H.nd 2 (fun b => ((!b) == true)) ((0 : Int) ≤ List.getD x1 ((0 : Nat) + Int.toNat i) (0 : Int) ∧ List.getD x1 ((0 : Nat) + Int.toNat i) (0 : Int) ≤ (1048576 : Int) ∧ (0 : Int) ≤ List.getD x2 ((0 : Nat) + Int.toNat i) (0 : Int) ∧ List.getD x2 ((0 : Nat) + Int.toNat i) (0 : Int) ≤ (1048576 : Int) ∧ (0 : Int) ≤ List.getD x1 ((0 : Nat) + Int.toNat i) (0 : Int) ∧ List.getD x1 ((0 : Nat) + Int.toNat i) (0 : Int) ≤ List.getD x1 ((0 : Nat) + Int.toNat i) (0 : Int) ∧ (1 : Int) ≤ List.getD x3 ((0 : Nat) + Int.toNat i) (0 : Int) ∧ List.getD x3 ((0 : Nat) + Int.toNat i) (0 : Int) ≤ (1048576 : Int) ∧ (0 : Int) ≤ (0 : Int) ∧ (0 : Int) ≤ List.getD x3 ((0 : Nat) + Int.toNat i) (0 : Int) - (1 : Int)) (by (first | assumption | omega | (simp; done))) (by kernel_rfl) ?_
        refine H.nd 9 (fun b => (b == true)) ((0 : Int) ≤ List.getD x1 ((0 : Nat) + Int.toNat i) (0 : Int) ∧ List.getD x1 ((0 : Nat) + Int.toNat i) (0 : Int) ≤ (1048576 : Int) ∧ (0 : Int) ≤ List.getD x2 ((0 : Nat) + Int.toNat i) (0 : Int) ∧ List.getD x2 ((0 : Nat) + Int.toNat i) (0 : Int) ≤ (1048576 : Int) ∧ (0 : Int) ≤ List.getD x1 ((0 : Nat) + Int.toNat i) (0 : Int) ∧ List.getD x1 ((0 : Nat) + Int.toNat i) (0 : Int) ≤ List.getD x1 ((0 : Nat) + Int.toNat i) (0 : Int) ∧ (1 : Int) ≤ List.getD x3 ((0 : Nat) + Int.toNat i) (0 : Int) ∧ List.getD x3 ((0 : Nat) + Int.toNat i) (0 : Int) ≤ (1048576 : Int) ∧ (0 : Int) ≤ (0 : Int) ∧ (0 : Int) ≤ List.getD x3 ((0 : Nat) + Int.toNat i) (0 : Int) - (1 : Int)) (by (first | assumption | omega | (simp; done))) (by kernel_rfl) ?_
        refine H.nd 6 (fun b => b) ((0 : Int) ≤ List.getD x1 ((0 : Nat) + Int.toNat i) (0 : Int) ∧ List.getD x1 ((0 : Nat) + Int.toNat i) (0 : Int) ≤ (1048576 : Int) ∧ (0 : Int) ≤ List.getD x2 ((0 : Nat) + Int.toNat i) (0 : Int) ∧ List.getD x2 ((0 : Nat) + Int.toNat i) (0 : Int) ≤ (1048576 : Int) ∧ (0 : Int) ≤ List.getD x1 ((0 : Nat) + Int.toNat i) (0 : Int) ∧ List.getD x1 ((0 : Nat) + Int.toNat i) (0 : Int) ≤ List.getD x1 ((0 : Nat) + Int.toNat i) (0 : Int) ∧ (1 : Int) ≤ List.getD x3 ((0 : Nat) + Int.toNat i) (0 : Int) ∧ List.getD x3 ((0 : Nat) + Int.toNat i) (0 : Int) ≤ (1048576 : Int) ∧ (0 : Int) ≤ (0 : Int) ∧ (0 : Int) ≤ List.getD x3 ((0 : Nat) + Int.toNat i) (0 : Int) - (1 : Int)) (by (first | assumption | omega | (simp; done))) (by kernel_rfl) ?_
        refine H.lf (f := oc2) 2 (Sum.inl ([AV.ptr 1 0 0, AV.ptr 2 0 0, AV.i IntKind.i64 (wr IntKind.i64 (i + 1))], 1, [AObj.ro nl n [Col.ci IntKind.i64 x0, Col.ci IntKind.i64 x1, Col.ci IntKind.i64 x2, Col.ci IntKind.i64 x3], AObj.own 51 6 [AV.i IntKind.i64 l, AV.i IntKind.i64 c, AV.i IntKind.i64 f, AV.i IntKind.i64 e, AV.i IntKind.i64 d, AV.sl 0 0 n (some cap)], AObj.own 48 5 [AV.i IntKind.i64 bl, AV.i IntKind.i64 bc, AV.i IntKind.i64 bf, AV.i IntKind.i64 be, AV.i IntKind.i64 bd]])) (by kernel_rfl) ?_
        first | exact ag10 hmi h0 (by omega) | exact rfl
      ·
       refine H.se 1 (fun b => b) (wi (List.getD x0 (0 + Int.toNat i) 0) 6) (1) (by kernel_rfl) (fun h6 => ?_) (fun h6 => ?_)
       ·
        refine H.sd 13 (fun b => b) (List.getD x1 (0 + Int.toNat i) 0 ≤ 1048576) (by kernel_rfl) (fun h7 => ?_) (fun h7 => ?_)
        ·
         refine H.kd 0 (fun b => b) (0 ≤ bc ∧ bc ≤ 1048576 ∧ 0 ≤ bf ∧ bf ≤ 1048576 ∧ 0 ≤ bl ∧ bl ≤ bc ∧ 1 ≤ be ∧ be ≤ 1048576 ∧ 0 ≤ bd ∧ bd ≤ be - 1) (by (first | assumption | omega | (simp; done))) (by kernel_rfl) ?_
         refine H.kd 0 (fun b => b) (0 ≤ List.getD x1 (0 + Int.toNat i) 0 ∧ List.getD x1 (0 + Int.toNat i) 0 ≤ 1048576) (by (first | assumption | omega | (simp; done))) (by kernel_rfl) ?_
         refine H.sd 0 (fun b => b) (bl < List.getD x1 (0 + Int.toNat i) 0) (by kernel_rfl) (fun h8 => ?_) (fun h8 => ?_)
         ·
          refine H.kd 24 (fun b => b) (0 ≤ bc ∧ bc ≤ 1048576 ∧ 0 ≤ bf ∧ bf ≤ 1048576 ∧ 0 ≤ bl ∧ bl ≤ bc ∧ 1 ≤ be ∧ be ≤ 1048576 ∧ 0 ≤ bd ∧ bd ≤ be - 1) (by (first | assumption | omega | (simp; done))) (by kernel_rfl) ?_
          refine H.kd 0 (fun b => b) (0 ≤ List.getD x1 (0 + Int.toNat i) 0 ∧ List.getD x1 (0 + Int.toNat i) 0 ≤ 1048576) (by (first | assumption | omega | (simp; done))) (by kernel_rfl) ?_
          refine H.kd 0 (fun b => b) (bl < List.getD x1 (0 + Int.toNat i) 0) (by (first | assumption | omega | (simp; done))) (by kernel_rfl) ?_
          refine H.lf (f := oc2) 29 (Sum.inl ([AV.ptr 1 0 0, AV.ptr 2 0 0, AV.i IntKind.i64 (wr IntKind.i64 (i + 1))], 1, [AObj.ro nl n [Col.ci IntKind.i64 x0, Col.ci IntKind.i64 x1, Col.ci IntKind.i64 x2, Col.ci IntKind.i64 x3], AObj.own 51 6 [AV.i IntKind.i64 l, AV.i IntKind.i64 c, AV.i IntKind.i64 f, AV.i IntKind.i64 e, AV.i IntKind.i64 d, AV.sl 0 0 n (some cap)], AObj.own 48 5 [AV.i IntKind.i64 bl, AV.i IntKind.i64 bc, AV.i IntKind.i64 bf, AV.i IntKind.i64 be, AV.i IntKind.i64 bd]])) (by kernel_rfl) ?_
          first | exact ag10 hmi h0 (by omega) | exact rfl
         ·
          refine H.kd 24 (fun b => b) (0 ≤ bc ∧ bc ≤ 1048576 ∧ 0 ≤ bf ∧ bf ≤ 1048576 ∧ 0 ≤ bl ∧ bl ≤ bc ∧ 1 ≤ be ∧ be ≤ 1048576 ∧ 0 ≤ bd ∧ bd ≤ be - 1) (by (first | assumption | omega | (simp; done))) (by kernel_rfl) ?_
          refine H.kd 0 (fun b => b) (0 ≤ List.getD x1 (0 + Int.toNat i) 0 ∧ List.getD x1 (0 + Int.toNat i) 0 ≤ 1048576) (by (first | assumption | omega | (simp; done))) (by kernel_rfl) ?_
          refine H.nd 0 (fun b => b) (bl < List.getD x1 (0 + Int.toNat i) 0) (by (first | assumption | omega | (simp; done))) (by kernel_rfl) ?_
          refine H.kb 30 (fun b => (!b)) (b := (bl - List.getD x1 (0 + Int.toNat i) 0 == bl - List.getD x1 (0 + Int.toNat i) 0 && (bc == bc && (bf == bf && (be == be && (bd == bd && true)))))) (d := true) (by (first | assumption | omega | (simp; done))) (by kernel_rfl) ?_
          refine H.lf (f := oc2) 15 (Sum.inl ([AV.ptr 1 0 0, AV.ptr 2 0 0, AV.i IntKind.i64 (wr IntKind.i64 (i + 1))], 1, [AObj.ro nl n [Col.ci IntKind.i64 x0, Col.ci IntKind.i64 x1, Col.ci IntKind.i64 x2, Col.ci IntKind.i64 x3], AObj.own 51 6 [AV.i IntKind.i64 l, AV.i IntKind.i64 c, AV.i IntKind.i64 f, AV.i IntKind.i64 e, AV.i IntKind.i64 d, AV.sl 0 0 n (some cap)], AObj.own 48 5 [AV.i IntKind.i64 (bl - List.getD x1 (0 + Int.toNat i) 0), AV.i IntKind.i64 bc, AV.i IntKind.i64 bf, AV.i IntKind.i64 be, AV.i IntKind.i64 bd]])) (by kernel_rfl) ?_
          first | exact ag10 hmi h0 (by omega) | exact rfl
        ·
         refine H.kd 0 (fun b => b) (0 ≤ bc ∧ bc ≤ 1048576 ∧ 0 ≤ bf ∧ bf ≤ 1048576 ∧ 0 ≤ bl ∧ bl ≤ bc ∧ 1 ≤ be ∧ be ≤ 1048576 ∧ 0 ≤ bd ∧ bd ≤ be - 1) (by (first | assumption | omega | (simp; done))) (by kernel_rfl) ?_
         refine H.nd 0 (fun b => b) (0 ≤ List.getD x1 (0 + Int.toNat i) 0 ∧ List.getD x1 (0 + Int.toNat i) 0 ≤ 1048576) (by (first | assumption | omega | (simp; done))) (by kernel_rfl) ?_
         refine H.lf (f := oc2) 29 (Sum.inl ([AV.ptr 1 0 0, AV.ptr 2 0 0, AV.i IntKind.i64 (wr IntKind.i64 (i + 1))], 1, [AObj.ro nl n [Col.ci IntKind.i64 x0, Col.ci IntKind.i64 x1, Col.ci IntKind.i64 x2, Col.ci IntKind.i64 x3], AObj.own 51 6 [AV.i IntKind.i64 l, AV.i IntKind.i64 c, AV.i IntKind.i64 f, AV.i IntKind.i64 e, AV.i IntKind.i64 d, AV.sl 0 0 n (some cap)], AObj.own 48 5 [AV.i IntKind.i64 bl, AV.i IntKind.i64 bc, AV.i IntKind.i64 bf, AV.i IntKind.i64 be, AV.i IntKind.i64 bd]])) (by kernel_rfl) ?_
         first | exact ag10 hmi h0 (by omega) | exact rfl
       ·
        refine H.se 1 (fun b => b) (wi (List.getD x0 (0 + Int.toNat i) 0) 6) (2) (by kernel_rfl) (fun h7 => ?_) (fun h7 => ?_)
        ·
         refine H.sd 12 (fun b => b) (List.getD x1 (0 + Int.toNat i) 0 ≤ 1048576) (by kernel_rfl) (fun h8 => ?_) (fun h8 => ?_)
         ·
          refine H.kd 0 (fun b => b) (0 ≤ bc ∧ bc ≤ 1048576 ∧ 0 ≤ bf ∧ bf ≤ 1048576 ∧ 0 ≤ bl ∧ bl ≤ bc ∧ 1 ≤ be ∧ be ≤ 1048576 ∧ 0 ≤ bd ∧ bd ≤ be - 1) (by (first | assumption | omega | (simp; done))) (by kernel_rfl) ?_
          refine H.kd 0 (fun b => b) (0 ≤ List.getD x1 (0 + Int.toNat i) 0 ∧ List.getD x1 (0 + Int.toNat i) 0 ≤ 1048576) (by (first | assumption | omega | (simp; done))) (by kernel_rfl) ?_
          refine H.sd 0 (fun b => b) (bl < List.getD x1 (0 + Int.toNat i) 0) (by kernel_rfl) (fun h9 => ?_) (fun h9 => ?_)
          ·
           refine H.kd 24 (fun b => b) (0 ≤ bc ∧ bc ≤ 1048576 ∧ 0 ≤ bf ∧ bf ≤ 1048576 ∧ 0 ≤ bl ∧ bl ≤ bc ∧ 1 ≤ be ∧ be ≤ 1048576 ∧ 0 ≤ bd ∧ bd ≤ be - 1) (by (first | assumption | omega | (simp; done))) (by kernel_rfl) ?_
           refine H.kd 0 (fun b => b) (0 ≤ List.getD x1 (0 + Int.toNat i) 0 ∧ List.getD x1 (0 + Int.toNat i) 0 ≤ 1048576) (by (first | assumption | omega | (simp; done))) (by kernel_rfl) ?_
           refine H.kd 0 (fun b => b) (bl < List.getD x1 (0 + Int.toNat i) 0) (by (first | assumption | omega | (simp; done))) (by kernel_rfl) ?_
           refine H.lf (f := oc2) 29 (Sum.inl ([AV.ptr 1 0 0, AV.ptr 2 0 0, AV.i IntKind.i64 (wr IntKind.i64 (i + 1))], 1, [AObj.ro nl n [Col.ci IntKind.i64 x0, Col.ci IntKind.i64 x1, Col.ci IntKind.i64 x2, Col.ci IntKind.i64 x3], AObj.own 51 6 [AV.i IntKind.i64 l, AV.i IntKind.i64 c, AV.i IntKind.i64 f, AV.i IntKind.i64 e, AV.i IntKind.i64 d, AV.sl 0 0 n (some cap)], AObj.own 48 5 [AV.i IntKind.i64 bl, AV.i IntKind.i64 bc, AV.i IntKind.i64 bf, AV.i IntKind.i64 be, AV.i IntKind.i64 bd]])) (by kernel_rfl) ?_
           first | exact ag10 hmi h0 (by omega) | exact rfl
          ·
           refine H.kd 24 (fun b => b) (0 ≤ bc ∧ bc ≤ 1048576 ∧ 0 ≤ bf ∧ bf ≤ 1048576 ∧ 0 ≤ bl ∧ bl ≤ bc ∧ 1 ≤ be ∧ be ≤ 1048576 ∧ 0 ≤ bd ∧ bd ≤ be - 1) (by (first | assumption | omega | (simp; done))) (by kernel_rfl) ?_
           refine H.kd 0 (fun b => b) (0 ≤ List.getD x1 (0 + Int.toNat i) 0 ∧ List.getD x1 (0 + Int.toNat i) 0 ≤ 1048576) (by (first | assumption | omega | (simp; done))) (by kernel_rfl) ?_
           refine H.nd 0 (fun b => b) (bl < List.getD x1 (0 + Int.toNat i) 0) (by (first | assumption | omega | (simp; done))) (by kernel_rfl) ?_
           refine H.kb 30 (fun b => (!b)) (b := (bl - List.getD x1 (0 + Int.toNat i) 0 == bl - List.getD x1 (0 + Int.toNat i) 0 && (bc == bc && (bf == bf && (be == be && (bd == bd && true)))))) (d := true) (by (first | assumption | omega | (simp; done))) (by kernel_rfl) ?_
           refine H.lf (f := oc2) 15 (Sum.inl ([AV.ptr 1 0 0, AV.ptr 2 0 0, AV.i IntKind.i64 (wr IntKind.i64 (i + 1))], 1, [AObj.ro nl n [Col.ci IntKind.i64 x0, Col.ci IntKind.i64 x1, Col.ci IntKind.i64 x2, Col.ci IntKind.i64 x3], AObj.own 51 6 [AV.i IntKind.i64 l, AV.i IntKind.i64 c, AV.i IntKind.i64 f, AV.i IntKind.i64 e, AV.i IntKind.i64 d, AV.sl 0 0 n (some cap)], AObj.own 48 5 [AV.i IntKind.i64 (bl - List.getD x1 (0 + Int.toNat i) 0), AV.i IntKind.i64 bc, AV.i IntKind.i64 bf, AV.i IntKind.i64 be, AV.i IntKind.i64 bd]])) (by kernel_rfl) ?_
           first | exact ag10 hmi h0 (by omega) | exact rfl
         ·
          refine H.kd 0 (fun b => b) (0 ≤ bc ∧ bc ≤ 1048576 ∧ 0 ≤ bf ∧ bf ≤ 1048576 ∧ 0 ≤ bl ∧ bl ≤ bc ∧ 1 ≤ be ∧ be ≤ 1048576 ∧ 0 ≤ bd ∧ bd ≤ be - 1) (by (first | assumption | omega | (simp; done))) (by kernel_rfl) ?_
          refine H.nd 0 (fun b => b) (0 ≤ List.getD x1 (0 + Int.toNat i) 0 ∧ List.getD x1 (0 + Int.toNat i) 0 ≤ 1048576) (by (first | assumption | omega | (simp; done))) (by kernel_rfl) ?_
          refine H.lf (f := oc2) 29 (Sum.inl ([AV.ptr 1 0 0, AV.ptr 2 0 0, AV.i IntKind.i64 (wr IntKind.i64 (i + 1))], 1, [AObj.ro nl n [Col.ci IntKind.i64 x0, Col.ci IntKind.i64 x1, Col.ci IntKind.i64 x2, Col.ci IntKind.i64 x3], AObj.own 51 6 [AV.i IntKind.i64 l, AV.i IntKind.i64 c, AV.i IntKind.i64 f, AV.i IntKind.i64 e, AV.i IntKind.i64 d, AV.sl 0 0 n (some cap)], AObj.own 48 5 [AV.i IntKind.i64 bl, AV.i IntKind.i64 bc, AV.i IntKind.i64 bf, AV.i IntKind.i64 be, AV.i IntKind.i64 bd]])) (by kernel_rfl) ?_
          first | exact ag10 hmi h0 (by omega) | exact rfl
        ·
         refine H.se 1 (fun b => b) (wi (List.getD x0 (0 + Int.toNat i) 0) 6) (3) (by kernel_rfl) (fun h8 => ?_) (fun h8 => ?_)
         ·
          refine H.sd 0 (fun b => b) (List.getD x1 (0 + Int.toNat i) 0 ≤ 1048576) (by kernel_rfl) (fun h9 => ?_) (fun h9 => ?_)
          ·
           refine H.kd 0 (fun b => b) (0 ≤ bc ∧ bc ≤ 1048576 ∧ 0 ≤ bf ∧ bf ≤ 1048576 ∧ 0 ≤ bl ∧ bl ≤ bc ∧ 1 ≤ be ∧ be ≤ 1048576 ∧ 0 ≤ bd ∧ bd ≤ be - 1) (by (first | assumption | omega | (simp; done))) (by kernel_rfl) ?_
           refine H.kd 0 (fun b => b) (0 ≤ List.getD x1 (0 + Int.toNat i) 0 ∧ List.getD x1 (0 + Int.toNat i) 0 ≤ 1048576) (by (first | assumption | omega | (simp; done))) (by kernel_rfl) ?_
           refine H.sd 0 (fun b => b) (List.getD x1 (0 + Int.toNat i) 0 ≤ bl) (by kernel_rfl) (fun h10 => ?_) (fun h10 => ?_)
           ·
            refine H.kd 0 (fun b => b) (0 ≤ bc ∧ bc ≤ 1048576 ∧ 0 ≤ bf ∧ bf ≤ 1048576 ∧ 0 ≤ bl ∧ bl ≤ bc ∧ 1 ≤ be ∧ be ≤ 1048576 ∧ 0 ≤ bd ∧ bd ≤ be - 1) (by (first | assumption | omega | (simp; done))) (by kernel_rfl) ?_
            refine H.kd 0 (fun b => b) (0 ≤ List.getD x1 (0 + Int.toNat i) 0 ∧ List.getD x1 (0 + Int.toNat i) 0 ≤ 1048576) (by (first | assumption | omega | (simp; done))) (by kernel_rfl) ?_
            refine H.kd 0 (fun b => b) (List.getD x1 (0 + Int.toNat i) 0 ≤ bl) (by (first | assumption | omega | (simp; done))) (by kernel_rfl) ?_
            refine H.lf (f := oc2) 15 (Sum.inl ([AV.ptr 1 0 0, AV.ptr 2 0 0, AV.i IntKind.i64 (wr IntKind.i64 (i + 1))], 1, [AObj.ro nl n [Col.ci IntKind.i64 x0, Col.ci IntKind.i64 x1, Col.ci IntKind.i64 x2, Col.ci IntKind.i64 x3], AObj.own 51 6 [AV.i IntKind.i64 l, AV.i IntKind.i64 c, AV.i IntKind.i64 f, AV.i IntKind.i64 e, AV.i IntKind.i64 d, AV.sl 0 0 n (some cap)], AObj.own 48 5 [AV.i IntKind.i64 bl, AV.i IntKind.i64 bc, AV.i IntKind.i64 bf, AV.i IntKind.i64 be, AV.i IntKind.i64 bd]])) (by kernel_rfl) ?_
            first | exact ag10 hmi h0 (by omega) | exact rfl
           ·
            refine H.sd 0 (fun b => b) (List.getD x1 (0 + Int.toNat i) 0 > bc ∨ bf = 0) (by kernel_rfl) (fun h11 => ?_) (fun h11 => ?_)
            ·
             refine H.kd 0 (fun b => b) (0 ≤ bc ∧ bc ≤ 1048576 ∧ 0 ≤ bf ∧ bf ≤ 1048576 ∧ 0 ≤ bl ∧ bl ≤ bc ∧ 1 ≤ be ∧ be ≤ 1048576 ∧ 0 ≤ bd ∧ bd ≤ be - 1) (by (first | assumption | omega | (simp; done))) (by kernel_rfl) ?_
             refine H.kd 0 (fun b => b) (0 ≤ List.getD x1 (0 + Int.toNat i) 0 ∧ List.getD x1 (0 + Int.toNat i) 0 ≤ 1048576) (by (first | assumption | omega | (simp; done))) (by kernel_rfl) ?_
             refine H.nd 0 (fun b => b) (List.getD x1 (0 + Int.toNat i) 0 ≤ bl) (by (first | assumption | omega | (simp; done))) (by kernel_rfl) ?_
             refine H.kd 0 (fun b => b) (List.getD x1 (0 + Int.toNat i) 0 > bc ∨ bf = 0) (by (first | assumption | omega | (simp; done))) (by kernel_rfl) ?_
             refine H.lf (f := oc2) 15 (Sum.inl ([AV.ptr 1 0 0, AV.ptr 2 0 0, AV.i IntKind.i64 (wr IntKind.i64 (i + 1))], 1, [AObj.ro nl n [Col.ci IntKind.i64 x0, Col.ci IntKind.i64 x1, Col.ci IntKind.i64 x2, Col.ci IntKind.i64 x3], AObj.own 51 6 [AV.i IntKind.i64 l, AV.i IntKind.i64 c, AV.i IntKind.i64 f, AV.i IntKind.i64 e, AV.i IntKind.i64 d, AV.sl 0 0 n (some cap)], AObj.own 48 5 [AV.i IntKind.i64 bl, AV.i IntKind.i64 bc, AV.i IntKind.i64 bf, AV.i IntKind.i64 be, AV.i IntKind.i64 bd]])) (by kernel_rfl) ?_
             first | exact ag10 hmi h0 (by omega) | exact rfl
            ·
             refine H.kd 0 (fun b => b) (0 ≤ bc ∧ bc ≤ 1048576 ∧ 0 ≤ bf ∧ bf ≤ 1048576 ∧ 0 ≤ bl ∧ bl ≤ bc ∧ 1 ≤ be ∧ be ≤ 1048576 ∧ 0 ≤ bd ∧ bd ≤ be - 1) (by (first | assumption | omega | (simp; done))) (by kernel_rfl) ?_
             refine H.kd 0 (fun b => b) (0 ≤ List.getD x1 (0 + Int.toNat i) 0 ∧ List.getD x1 (0 + Int.toNat i) 0 ≤ 1048576) (by (first | assumption | omega | (simp; done))) (by kernel_rfl) ?_
             refine H.nd 0 (fun b => b) (List.getD x1 (0 + Int.toNat i) 0 ≤ bl) (by (first | assumption | omega | (simp; done))) (by kernel_rfl) ?_
             refine H.nd 0 (fun b => b) (List.getD x1 (0 + Int.toNat i) 0 > bc ∨ bf = 0) (by (first | assumption | omega | (simp; done))) (by kernel_rfl) ?_
             refine H.ke 13 (fun b => (!b)) (waitV bl bf be bd (List.getD x1 (0 + Int.toNat i) 0)) (waitV bl bf be bd (List.getD x1 (0 + Int.toNat i) 0)) (by (first | assumption | omega | (simp; done))) (by kernel_rfl) ?_
             refine H.lf (f := oc2) 1 (Sum.inl ([AV.ptr 1 0 0, AV.ptr 2 0 0, AV.i IntKind.i64 (wr IntKind.i64 (i + 1))], 1, [AObj.ro nl n [Col.ci IntKind.i64 x0, Col.ci IntKind.i64 x1, Col.ci IntKind.i64 x2, Col.ci IntKind.i64 x3], AObj.own 51 6 [AV.i IntKind.i64 l, AV.i IntKind.i64 c, AV.i IntKind.i64 f, AV.i IntKind.i64 e, AV.i IntKind.i64 d, AV.sl 0 0 n (some cap)], AObj.own 48 5 [AV.i IntKind.i64 bl, AV.i IntKind.i64 bc, AV.i IntKind.i64 bf, AV.i IntKind.i64 be, AV.i IntKind.i64 bd]])) (by kernel_rfl) ?_
             first | exact ag10 hmi h0 (by omega) | exact rfl
          ·
           refine H.kd 0 (fun b => b) (0 ≤ bc ∧ bc ≤ 1048576 ∧ 0 ≤ bf ∧ bf ≤ 1048576 ∧ 0 ≤ bl ∧ bl ≤ bc ∧ 1 ≤ be ∧ be ≤ 1048576 ∧ 0 ≤ bd ∧ bd ≤ be - 1) (by (first | assumption | omega | (simp; done))) (by kernel_rfl) ?_
           refine H.nd 0 (fun b => b) (0 ≤ List.getD x1 (0 + Int.toNat i) 0 ∧ List.getD x1 (0 + Int.toNat i) 0 ≤ 1048576) (by (first | assumption | omega | (simp; done))) (by kernel_rfl) ?_
           refine H.lf (f := oc2) 14 (Sum.inl ([AV.ptr 1 0 0, AV.ptr 2 0 0, AV.i IntKind.i64 (wr IntKind.i64 (i + 1))], 1, [AObj.ro nl n [Col.ci IntKind.i64 x0, Col.ci IntKind.i64 x1, Col.ci IntKind.i64 x2, Col.ci IntKind.i64 x3], AObj.own 51 6 [AV.i IntKind.i64 l, AV.i IntKind.i64 c, AV.i IntKind.i64 f, AV.i IntKind.i64 e, AV.i IntKind.i64 d, AV.sl 0 0 n (some cap)], AObj.own 48 5 [AV.i IntKind.i64 bl, AV.i IntKind.i64 bc, AV.i IntKind.i64 bf, AV.i IntKind.i64 be, AV.i IntKind.i64 bd]])) (by kernel_rfl) ?_
           first | exact ag10 hmi h0 (by omega) | exact rfl
         ·
          refine H.kd 12 (fun b => (b == true)) (0 ≤ bc ∧ bc ≤ 1048576 ∧ 0 ≤ bf ∧ bf ≤ 1048576 ∧ 0 ≤ bl ∧ bl ≤ bc ∧ 1 ≤ be ∧ be ≤ 1048576 ∧ 0 ≤ bd ∧ bd ≤ be - 1) (by (first | assumption | omega | (simp; done))) (by kernel_rfl) ?_
          refine H.kd 3 (fun b => (b == true)) (List.getD x1 (0 + Int.toNat i) 0 ≥ 0) (by (first | assumption | omega | (simp; done))) (by kernel_rfl) ?_
          refine H.sd 5 (fun b => b) (List.getD x1 (0 + Int.toNat i) 0 ≤ 1099511627776) (by kernel_rfl) (fun h9 => ?_) (fun h9 => ?_)
          ·
           refine H.kd 0 (fun b => b) (0 ≤ bc ∧ bc ≤ 1048576 ∧ 0 ≤ bf ∧ bf ≤ 1048576 ∧ 0 ≤ bl ∧ bl ≤ bc ∧ 1 ≤ be ∧ be ≤ 1048576 ∧ 0 ≤ bd ∧ bd ≤ be - 1) (by (first | assumption | omega | (simp; done))) (by kernel_rfl) ?_
           refine H.kd 0 (fun b => b) (0 ≤ List.getD x1 (0 + Int.toNat i) 0 ∧ List.getD x1 (0 + Int.toNat i) 0 ≤ 1099511627776) (by (first | assumption | omega | (simp; done))) (by kernel_rfl) ?_
           refine H.kd 11 (fun b => b) (0 ≤ bc ∧ bc ≤ 1048576 ∧ 0 ≤ bf ∧ bf ≤ 1048576 ∧ 0 ≤ bl ∧ bl ≤ bc ∧ 1 ≤ be ∧ be ≤ 1048576 ∧ 0 ≤ bd ∧ bd ≤ be - 1) (by (first | assumption | omega | (simp; done))) (by kernel_rfl) ?_
           refine H.kd 0 (fun b => b) (0 ≤ List.getD x1 (0 + Int.toNat i) 0 ∧ List.getD x1 (0 + Int.toNat i) 0 ≤ 1099511627776) (by (first | assumption | omega | (simp; done))) (by kernel_rfl) ?_
           refine H.kb 30 (fun b => (!b)) (b := (goL bl bc bf be bd (List.getD x1 (0 + Int.toNat i) 0) == goL bl bc bf be bd (List.getD x1 (0 + Int.toNat i) 0) && (bc == bc && (bf == bf && (be == be && (goD be bd (List.getD x1 (0 + Int.toNat i) 0) == goD be bd (List.getD x1 (0 + Int.toNat i) 0) && true)))))) (d := true) (by (first | assumption | omega | (simp; done))) (by kernel_rfl) ?_
           refine H.lf (f := oc2) 15 (Sum.inl ([AV.ptr 1 0 0, AV.ptr 2 0 0, AV.i IntKind.i64 (wr IntKind.i64 (i + 1))], 1, [AObj.ro nl n [Col.ci IntKind.i64 x0, Col.ci IntKind.i64 x1, Col.ci IntKind.i64 x2, Col.ci IntKind.i64 x3], AObj.own 51 6 [AV.i IntKind.i64 l, AV.i IntKind.i64 c, AV.i IntKind.i64 f, AV.i IntKind.i64 e, AV.i IntKind.i64 d, AV.sl 0 0 n (some cap)], AObj.own 48 5 [AV.i IntKind.i64 (goL bl bc bf be bd (List.getD x1 (0 + Int.toNat i) 0)), AV.i IntKind.i64 bc, AV.i IntKind.i64 bf, AV.i IntKind.i64 be, AV.i IntKind.i64 (goD be bd (List.getD x1 (0 + Int.toNat i) 0))]])) (by kernel_rfl) ?_
           first | exact ag10 hmi h0 (by omega) | exact rfl
          ·
           refine H.kd 0 (fun b => b) (0 ≤ bc ∧ bc ≤ 1048576 ∧ 0 ≤ bf ∧ bf ≤ 1048576 ∧ 0 ≤ bl ∧ bl ≤ bc ∧ 1 ≤ be ∧ be ≤ 1048576 ∧ 0 ≤ bd ∧ bd ≤ be - 1) (by (first | assumption | omega | (simp; done))) (by kernel_rfl) ?_
           refine H.nd 0 (fun b => b) (0 ≤ List.getD x1 (0 + Int.toNat i) 0 ∧ List.getD x1 (0 + Int.toNat i) 0 ≤ 1099511627776) (by (first | assumption | omega | (simp; done))) (by kernel_rfl) ?_
           refine H.lf (f := oc2) 29 (Sum.inl ([AV.ptr 1 0 0, AV.ptr 2 0 0, AV.i IntKind.i64 (wr IntKind.i64 (i + 1))], 1, [AObj.ro nl n [Col.ci IntKind.i64 x0, Col.ci IntKind.i64 x1, Col.ci IntKind.i64 x2, Col.ci IntKind.i64 x3], AObj.own 51 6 [AV.i IntKind.i64 l, AV.i IntKind.i64 c, AV.i IntKind.i64 f, AV.i IntKind.i64 e, AV.i IntKind.i64 d, AV.sl 0 0 n (some cap)], AObj.own 48 5 [AV.i IntKind.i64 bl, AV.i IntKind.i64 bc, AV.i IntKind.i64 bf, AV.i IntKind.i64 be, AV.i IntKind.i64 bd]])) (by kernel_rfl) ?_
           first | exact ag10 hmi h0 (by omega) | exact rfl
     ·
      refine H.kd 6 (fun b => b) (0 ≤ i) (by (first | assumption | omega | (simp; done))) (by kernel_rfl) ?_
      refine H.kd 0 (fun b => b) (i < ↑n) (by (first | assumption | omega | (simp; done))) (by kernel_rfl) ?_
      refine H.kl 2 (fun b => b) (0 + Int.toNat i) (n) (by (first | assumption | omega | (simp; done))) (by kernel_rfl) ?_
      refine H.se 2 (fun b => b) (wi (List.getD x0 (0 + Int.toNat i) 0) 6) (0) (by kernel_rfl) (fun h5 => ?_) (fun h5 => ?_)
      ·
       refine H.kd 8 (fun b => b) (0 ≤ i) (by (first | assumption | omega | (simp; done))) (by kernel_rfl) ?_
       refine H.kd 0 (fun b => b) (i < ↑n) (by (first | assumption | omega | (simp; done))) (by kernel_rfl) ?_
       refine H.kl 4 (fun b => b) (0 + Int.toNat i) (n) (by (first | assumption | omega | (simp; done))) (by kernel_rfl) ?_
       refine H.kd 6 (fun b => b) (0 ≤ i) (by (first | assumption | omega | (simp; done))) (by kernel_rfl) ?_
       refine H.kd 0 (fun b => b) (i < ↑n) (by (first | assumption | omega | (simp; done))) (by kernel_rfl) ?_
       refine H.kl 4 (fun b => b) (0 + Int.toNat i) (n) (by (first | assumption | omega | (simp; done))) (by kernel_rfl) ?_
       refine H.kd 27 (fun b => b) (0 ≤ i) (by (first | assumption | omega | (simp; done))) (by kernel_rfl) ?_
       refine H.kd 0 (fun b => b) (i < ↑n) (by (first | assumption | omega | (simp; done))) (by kernel_rfl) ?_
       refine H.kl 4 (fun b => b) (0 + Int.toNat i) (n) (by (first | assumption | omega | (simp; done))) (by kernel_rfl) ?_
       refine H.kd 6 (fun b => b) (0 ≤ i) (by (first | assumption | omega | (simp; done))) (by kernel_rfl) ?_
       refine H.kd 0 (fun b => b) (i < ↑n) (by (first | assumption | omega | (simp; done))) (by kernel_rfl) ?_
       refine H.kl 4 (fun b => b) (0 + Int.toNat i) (n) (by (first | assumption | omega | (simp; done))) (by kernel_rfl) ?_
       refine H.nd 1 (fun b => b) ((0 : Int) ≤ List.getD x1 ((0 : Nat) + Int.toNat i) (0 : Int) ∧ List.getD x1 ((0 : Nat) + Int.toNat i) (0 : Int) ≤ (1048576 : Int) ∧ (0 : Int) ≤ List.getD x2 ((0 : Nat) + Int.toNat i) (0 : Int) ∧ List.getD x2 ((0 : Nat) + Int.toNat i) (0 : Int) ≤ (1048576 : Int) ∧ (0 : Int) ≤ List.getD x1 ((0 : Nat) + Int.toNat i) (0 : Int) ∧ List.getD x1 ((0 : Nat) + Int.toNat i) (0 : Int) ≤ List.getD x1 ((0 : Nat) + Int.toNat i) (0 : Int) ∧ (1 : Int) ≤ List.getD x3 ((0 : Nat) + Int.toNat i) (0 : Int) ∧ List.getD x3 ((0 : Nat) + Int.toNat i) (0 : Int) ≤ (1048576 : Int) ∧ (0 : Int) ≤ (0 : Int) ∧ (0 : Int) ≤ List.getD x3 ((0 : Nat) + Int.toNat i) (0 : Int) - (1 : Int)) (by (first | assumption | omega | (simp; done))) (by kernel_rfl) ?_
       refine H.nd 20 (fun b => ((!(b == false)) == false)) ((0 : Int) ≤ List.getD x1 ((0 : Nat) + Int.toNat i) (0 : Int) ∧ List.getD x1 ((0 : Nat) + Int.toNat i) (0 : Int) ≤ (1048576 : Int) ∧ (0 : Int) ≤ List.getD x2 ((0 : Nat) + Int.toNat i) (0 : Int) ∧ List.getD x2 ((0 : Nat) + Int.toNat i) (0 : Int) ≤ (1048576 : Int) ∧ (0 : Int) ≤ List.getD x1 ((0 : Nat) + Int.toNat i) (0 : Int) ∧ List.getD x1 ((0 : Nat) + Int.toNat i) (0 : Int) ≤ List.getD x1 ((0 : Nat) + Int.toNat i) (0 : Int) ∧ (1 : Int) ≤ List.getD x3 ((0 : Nat) + Int.toNat i) (0 : Int) ∧ List.getD x3 ((0 : Nat) + Int.toNat i) (0 : Int) ≤ (1048576 : Int) ∧ (0 : Int) ≤ (0 : Int) ∧ (0 : Int) ≤ List.getD x3 ((0 : Nat) + Int.toNat i) (0 : Int) - (1 : Int)) (by (first | assumption | omega | (simp; done))) (by kernel_rfl) ?_
       refine H.nd 2 (fun b => ((!b) == true)) ((0 : Int) ≤ List.getD x1 ((0 : Nat) + Int.toNat i) (0 : Int) ∧ List.getD x1 ((0 : Nat) + Int.toNat i) (0 : Int) ≤ (1048576 : Int) ∧ (0 : Int) ≤ List.getD x2 ((0 : Nat) + Int.toNat i) (0 : Int) ∧ List.getD x2 ((0 : Nat) + Int.toNat i) (0 : Int) ≤ (1048576 : Int) ∧ (0 : Int) ≤ List.getD x1 ((0 : Nat) + Int.toNat i) (0 : Int) ∧ List.getD x1 ((0 : Nat) + Int.toNat i) (0 : Int) ≤ List.getD x1 ((0 : Nat) + Int.toNat i) (0 : Int) ∧ (1 : Int) ≤ List.getD x3 ((0 : Nat) + Int.toNat i) (0 : Int) ∧ List.getD x3 ((0 : Nat) + Int.toNat i) (0 : Int) ≤ (1048576 : Int) ∧ (0 : Int) ≤ (0 : Int) ∧ (0 : Int) ≤ List.getD x3 ((0 : Nat) + Int.toNat i) (0 : Int) - (1 : Int)) (by (first | assumption | omega | (simp; done))) (by kernel_rfl) ?_
       refine H.nd 9 (fun b => (b == true)) ((0 : Int) ≤ List.getD x1 ((0 : Nat) + Int.toNat i) (0 : Int) ∧ List.getD x1 ((0 : Nat) + Int.toNat i) (0 : Int) ≤ (1048576 : Int) ∧ (0 : Int) ≤ List.getD x2 ((0 : Nat) + Int.toNat i) (0 : Int) ∧ List.getD x2 ((0 : Nat) + Int.toNat i) (0 : Int) ≤ (1048576 : Int) ∧ (0 : Int) ≤ List.getD x1 ((0 : Nat) + Int.toNat i) (0 : Int) ∧ List.getD x1 ((0 : Nat) + Int.toNat i) (0 : Int) ≤ List.getD x1 ((0 : Nat) + Int.toNat i) (0 : Int) ∧ (1 : Int) ≤ List.getD x3 ((0 : Nat) + Int.toNat i) (0 : Int) ∧ List.getD x3 ((0 : Nat) + Int.toNat i) (0 : Int) ≤ (1048576 : Int) ∧ (0 : Int) ≤ (0 : Int) ∧ (0 : Int) ≤ List.getD x3 ((0 : Nat) + Int.toNat i) (0 : Int) - (1 : Int)) (by (first | assumption | omega | (simp; done))) (by kernel_rfl) ?_
       refine H.nd 6 (fun b => b) ((0 : Int) ≤ List.getD x1 ((0 : Nat) + Int.toNat i) (0 : Int) ∧ List.getD x1 ((0 : Nat) + Int.toNat i) (0 : Int) ≤ (1048576 : Int) ∧ (0 : Int) ≤ List.getD x2 ((0 : Nat) + Int.toNat i) (0 : Int) ∧ List.getD x2 ((0 : Nat) + Int.toNat i) (0 : Int) ≤ (1048576 : Int) ∧ (0 : Int) ≤ List.getD x1 ((0 : Nat) + Int.toNat i) (0 : Int) ∧ List.getD x1 ((0 : Nat) + Int.toNat i) (0 : Int) ≤ List.getD x1 ((0 : Nat) + Int.toNat i) (0 : Int) ∧ (1 : Int) ≤ List.getD x3 ((0 : Nat) + Int.toNat i) (0 : Int) ∧ List.getD x3 ((0 : Nat) + Int.toNat i) (0 : Int) ≤ (1048576 : Int) ∧ (0 : Int) ≤ (0 : Int) ∧ (0 : Int) ≤ List.getD x3 ((0 : Nat) + Int.toNat i) (0 : Int) - (1 : Int)) (by (first | assumption | omega | (simp; done))) (by kernel_rfl) ?_
       refine H.lf (f := oc2) 2 (Sum.inl ([AV.ptr 1 0 0, AV.ptr 2 0 0, AV.i IntKind.i64 (wr IntKind.i64 (i + 1))], 1, [AObj.ro nl n [Col.ci IntKind.i64 x0, Col.ci IntKind.i64 x1, Col.ci IntKind.i64 x2, Col.ci IntKind.i64 x3], AObj.own 51 6 [AV.i IntKind.i64 l, AV.i IntKind.i64 c, AV.i IntKind.i64 f, AV.i IntKind.i64 e, AV.i IntKind.i64 d, AV.sl 0 0 n (some cap)], AObj.own 48 5 [AV.i IntKind.i64 bl, AV.i IntKind.i64 bc, AV.i IntKind.i64 bf, AV.i IntKind.i64 be, AV.i IntKind.i64 bd]])) (by kernel_rfl) ?_
       first | exact ag10 hmi h0 (by omega) | exact rfl
      ·
       refine H.se 1 (fun b => b) (wi (List.getD x0 (0 + Int.toNat i) 0) 6) (1) (by kernel_rfl) (fun h6 => ?_) (fun h6 => ?_)
       ·
        refine H.kd 14 (fun b => b) (0 ≤ bc ∧ bc ≤ 1048576 ∧ 0 ≤ bf ∧ bf ≤ 1048576 ∧ 0 ≤ bl ∧ bl ≤ bc ∧ 1 ≤ be ∧ be ≤ 1048576 ∧ 0 ≤ bd ∧ bd ≤ be - 1) (by (first | assumption | omega | (simp; done))) (by kernel_rfl) ?_
        refine H.nd 0 (fun b => b) (0 ≤ List.getD x1 (0 + Int.toNat i) 0 ∧ List.getD x1 (0 + Int.toNat i) 0 ≤ 1048576) (by (first | assumption | omega | (simp; done))) (by kernel_rfl) ?_
        refine H.lf (f := oc2) 29 (Sum.inl ([AV.ptr 1 0 0, AV.ptr 2 0 0, AV.i IntKind.i64 (wr IntKind.i64 (i + 1))], 1, [AObj.ro nl n [Col.ci IntKind.i64 x0, Col.ci IntKind.i64 x1, Col.ci IntKind.i64 x2, Col.ci IntKind.i64 x3], AObj.own 51 6 [AV.i IntKind.i64 l, AV.i IntKind.i64 c, AV.i IntKind.i64 f, AV.i IntKind.i64 e, AV.i IntKind.i64 d, AV.sl 0 0 n (some cap)], AObj.own 48 5 [AV.i IntKind.i64 bl, AV.i IntKind.i64 bc, AV.i IntKind.i64 bf, AV.i IntKind.i64 be, AV.i IntKind.i64 bd]])) (by kernel_rfl) ?_
        first | exact ag10 hmi h0 (by omega) | exact rfl
       ·
        refine H.se 1 (fun b => b) (wi (List.getD x0 (0 + Int.toNat i) 0) 6) (2) (by kernel_rfl) (fun h7 => ?_) (fun h7 => ?_)
        ·
         refine H.kd 13 (fun b => b) (0 ≤ bc ∧ bc ≤ 1048576 ∧ 0 ≤ bf ∧ bf ≤ 1048576 ∧ 0 ≤ bl ∧ bl ≤ bc ∧ 1 ≤ be ∧ be ≤ 1048576 ∧ 0 ≤ bd ∧ bd ≤ be - 1) (by (first | assumption | omega | (simp; done))) (by kernel_rfl) ?_
         refine H.nd 0 (fun b => b) (0 ≤ List.getD x1 (0 + Int.toNat i) 0 ∧ List.getD x1 (0 + Int.toNat i) 0 ≤ 1048576) (by (first | assumption | omega | (simp; done))) (by kernel_rfl) ?_
         refine H.lf (f := oc2) 29 (Sum.inl ([AV.ptr 1 0 0, AV.ptr 2 0 0, AV.i IntKind.i64 (wr IntKind.i64 (i + 1))], 1, [AObj.ro nl n [Col.ci IntKind.i64 x0, Col.ci IntKind.i64 x1, Col.ci IntKind.i64 x2, Col.ci IntKind.i64 x3], AObj.own 51 6 [AV.i IntKind.i64 l, AV.i IntKind.i64 c, AV.i IntKind.i64 f, AV.i IntKind.i64 e, AV.i IntKind.i64 d, AV.sl 0 0 n (some cap)], AObj.own 48 5 [AV.i IntKind.i64 bl, AV.i IntKind.i64 bc, AV.i IntKind.i64 bf, AV.i IntKind.i64 be, AV.i IntKind.i64 bd]])) (by kernel_rfl) ?_
         first | exact ag10 hmi h0 (by omega) | exact rfl
        ·
         refine H.se 1 (fun b => b) (wi (List.getD x0 (0 + Int.toNat i) 0) 6) (3) (by kernel_rfl) (fun h8 => ?_) (fun h8 => ?_)
         ·
          refine H.kd 1 (fun b => b) (0 ≤ bc ∧ bc ≤ 1048576 ∧ 0 ≤ bf ∧ bf ≤ 1048576 ∧ 0 ≤ bl ∧ bl ≤ bc ∧ 1 ≤ be ∧ be ≤ 1048576 ∧ 0 ≤ bd ∧ bd ≤ be - 1) (by (first | assumption | omega | (simp; done))) (by kernel_rfl) ?_
          refine H.nd 0 (fun b => b) (0 ≤ List.getD x1 (0 + Int.toNat i) 0 ∧ List.getD x1 (0 + Int.toNat i) 0 ≤ 1048576) (by (first | assumption | omega | (simp; done))) (by kernel_rfl) ?_
          refine H.lf (f := oc2) 14 (Sum.inl ([AV.ptr 1 0 0, AV.ptr 2 0 0, AV.i IntKind.i64 (wr IntKind.i64 (i + 1))], 1, [AObj.ro nl n [Col.ci IntKind.i64 x0, Col.ci IntKind.i64 x1, Col.ci IntKind.i64 x2, Col.ci IntKind.i64 x3], AObj.own 51 6 [AV.i IntKind.i64 l, AV.i IntKind.i64 c, AV.i IntKind.i64 f, AV.i IntKind.i64 e, AV.i IntKind.i64 d, AV.sl 0 0 n (some cap)], AObj.own 48 5 [AV.i IntKind.i64 bl, AV.i IntKind.i64 bc, AV.i IntKind.i64 bf, AV.i IntKind.i64 be, AV.i IntKind.i64 bd]])) (by kernel_rfl) ?_
          first | exact ag10 hmi h0 (by omega) | exact rfl
         ·
          refine H.kd 12 (fun b => (b == true)) (0 ≤ bc ∧ bc ≤ 1048576 ∧ 0 ≤ bf ∧ bf ≤ 1048576 ∧ 0 ≤ bl ∧ bl ≤ bc ∧ 1 ≤ be ∧ be ≤ 1048576 ∧ 0 ≤ bd ∧ bd ≤ be - 1) (by (first | assumption | omega | (simp; done))) (by kernel_rfl) ?_
          refine H.nd 3 (fun b => (b == true)) (List.getD x1 (0 + Int.toNat i) 0 ≥ 0) (by (first | assumption | omega | (simp; done))) (by kernel_rfl) ?_
          refine H.kd 5 (fun b => b) (0 ≤ bc ∧ bc ≤ 1048576 ∧ 0 ≤ bf ∧ bf ≤ 1048576 ∧ 0 ≤ bl ∧ bl ≤ bc ∧ 1 ≤ be ∧ be ≤ 1048576 ∧ 0 ≤ bd ∧ bd ≤ be - 1) (by (first | assumption | omega | (simp; done))) (by kernel_rfl) ?_
          refine H.nd 0 (fun b => b) (0 ≤ List.getD x1 (0 + Int.toNat i) 0 ∧ List.getD x1 (0 + Int.toNat i) 0 ≤ 1099511627776) (by (first | assumption | omega | (simp; done))) (by kernel_rfl) ?_
          refine H.lf (f := oc2) 29 (Sum.inl ([AV.ptr 1 0 0, AV.ptr 2 0 0, AV.i IntKind.i64 (wr IntKind.i64 (i + 1))], 1, [AObj.ro nl n [Col.ci IntKind.i64 x0, Col.ci IntKind.i64 x1, Col.ci IntKind.i64 x2, Col.ci IntKind.i64 x3], AObj.own 51 6 [AV.i IntKind.i64 l, AV.i IntKind.i64 c, AV.i IntKind.i64 f, AV.i IntKind.i64 e, AV.i IntKind.i64 d, AV.sl 0 0 n (some cap)], AObj.own 48 5 [AV.i IntKind.i64 bl, AV.i IntKind.i64 bc, AV.i IntKind.i64 bf, AV.i IntKind.i64 be, AV.i IntKind.i64 bd]])) (by kernel_rfl) ?_
          first | exact ag10 hmi h0 (by omega) | exact rfl
    ·
     refine H.nd 2 (fun b => ((!(b == false)) == false)) (0 ≤ bc ∧ bc ≤ 1048576 ∧ 0 ≤ bf ∧ bf ≤ 1048576 ∧ 0 ≤ bl ∧ bl ≤ bc ∧ 1 ≤ be ∧ be ≤ 1048576 ∧ 0 ≤ bd ∧ bd ≤ be - 1) (by (first | assumption | omega | (simp; done))) (by kernel_rfl) ?_
     refine H.nd 2 (fun b => ((!b) == true)) (0 ≤ bc ∧ bc ≤ 1048576 ∧ 0 ≤ bf ∧ bf ≤ 1048576 ∧ 0 ≤ bl ∧ bl ≤ bc ∧ 1 ≤ be ∧ be ≤ 1048576 ∧ 0 ≤ bd ∧ bd ≤ be - 1) (by (first | assumption | omega | (simp; done))) (by kernel_rfl) ?_
     refine H.kd 8 (fun b => b) (0 ≤ i) (by (first | assumption | omega | (simp; done))) (by kernel_rfl) ?_
     refine H.kd 0 (fun b => b) (i < ↑n) (by (first | assumption | omega | (simp; done))) (by kernel_rfl) ?_
     refine H.kl 2 (fun b => b) (0 + Int.toNat i) (n) (by (first | assumption | omega | (simp; done))) (by kernel_rfl) ?_
     refine H.nd 0 (fun b => (b == true)) (0 ≤ bc ∧ bc ≤ 1048576 ∧ 0 ≤ bf ∧ bf ≤ 1048576 ∧ 0 ≤ bl ∧ bl ≤ bc ∧ 1 ≤ be ∧ be ≤ 1048576 ∧ 0 ≤ bd ∧ bd ≤ be - 1) (by (first | assumption | omega | (simp; done))) (by kernel_rfl) ?_
     refine H.kd 4 (fun b => b) (0 ≤ i) (by (first | assumption | omega | (simp; done))) (by kernel_rfl) ?_
     refine H.kd 0 (fun b => b) (i < ↑n) (by (first | assumption | omega | (simp; done))) (by kernel_rfl) ?_
     refine H.kl 2 (fun b => b) (0 + Int.toNat i) (n) (by (first | assumption | omega | (simp; done))) (by kernel_rfl) ?_
     refine H.se 2 (fun b => b) (wi (List.getD x0 (0 + Int.toNat i) 0) 6) (0) (by kernel_rfl) (fun h4 => ?_) (fun h4 => ?_)
     ·
      refine H.kd 8 (fun b => b) (0 ≤ i) (by (first | assumption | omega | (simp; done))) (by kernel_rfl) ?_
      refine H.kd 0 (fun b => b) (i < ↑n) (by (first | assumption | omega | (simp; done))) (by kernel_rfl) ?_
      refine H.kl 4 (fun b => b) (0 + Int.toNat i) (n) (by (first | assumption | omega | (simp; done))) (by kernel_rfl) ?_
      refine H.kd 6 (fun b => b) (0 ≤ i) (by (first | assumption | omega | (simp; done))) (by kernel_rfl) ?_
      refine H.kd 0 (fun b => b) (i < ↑n) (by (first | assumption | omega | (simp; done))) (by kernel_rfl) ?_
      refine H.kl 4 (fun b => b) (0 + Int.toNat i) (n) (by (first | assumption | omega | (simp; done))) (by kernel_rfl) ?_
      refine H.kd 27 (fun b => b) (0 ≤ i) (by (first | assumption | omega | (simp; done))) (by kernel_rfl) ?_
      refine H.kd 0 (fun b => b) (i < ↑n) (by (first | assumption | omega | (simp; done))) (by kernel_rfl) ?_
      refine H.kl 4 (fun b => b) (0 + Int.toNat i) (n) (by (first | assumption | omega | (simp; done))) (by kernel_rfl) ?_
      refine H.kd 6 (fun b => b) (0 ≤ i) (by (first | assumption | omega | (simp; done))) (by kernel_rfl) ?_
      refine H.kd 0 (fun b => b) (i < ↑n) (by (first | assumption | omega | (simp; done))) (by kernel_rfl) ?_
      refine H.kl 4 (fun b => b) (0 + Int.toNat i) (n) (by (first | assumption | omega | (simp; done))) (by kernel_rfl) ?_
      refine H.sd 1 (fun b => b) ((0 : Int) ≤ List.getD x1 ((0 : Nat) + Int.toNat i) (0 : Int) ∧ List.getD x1 ((0 : Nat) + Int.toNat i) (0 : Int) ≤ (1048576 : Int) ∧ (0 : Int) ≤ List.getD x2 ((0 : Nat) + Int.toNat i) (0 : Int) ∧ List.getD x2 ((0 : Nat) + Int.toNat i) (0 : Int) ≤ (1048576 : Int) ∧ (0 : Int) ≤ List.getD x1 ((0 : Nat) + Int.toNat i) (0 : Int) ∧ List.getD x1 ((0 : Nat) + Int.toNat i) (0 : Int) ≤ List.getD x1 ((0 : Nat) + Int.toNat i) (0 : Int) ∧ (1 : Int) ≤ List.getD x3 ((0 : Nat) + Int.toNat i) (0 : Int) ∧ List.getD x3 ((0 : Nat) + Int.toNat i) (0 : Int) ≤ (1048576 : Int) ∧ (0 : Int) ≤ (0 : Int) ∧ (0 : Int) ≤ List.getD x3 ((0 : Nat) + Int.toNat i) (0 : Int) - (1 : Int)) (by kernel_rfl) (fun h5 => ?_) (fun h5 => ?_)
      ·
       refine H.kd 20 (fun b => ((!(b == true)) == false)) ((0 : Int) ≤ List.getD x1 ((0 : Nat) + Int.toNat i) (0 : Int) ∧ List.getD x1 ((0 : Nat) + Int.toNat i) (0 : Int) ≤ (1048576 : Int) ∧ (0 : Int) ≤ List.getD x2 ((0 : Nat) + Int.toNat i) (0 : Int) ∧ List.getD x2 ((0 : Nat) + Int.toNat i) (0 : Int) ≤ (1048576 : Int) ∧ (0 : Int) ≤ List.getD x1 ((0 : Nat) + Int.toNat i) (0 : Int) ∧ List.getD x1 ((0 : Nat) + Int.toNat i) (0 : Int) ≤ List.getD x1 ((0 : Nat) + Int.toNat i) (0 : Int) ∧ (1 : Int) ≤ List.getD x3 ((0 : Nat) + Int.toNat i) (0 : Int) ∧ List.getD x3 ((0 : Nat) + Int.toNat i) (0 : Int) ≤ (1048576 : Int) ∧ (0 : Int) ≤ (0 : Int) ∧ (0 : Int) ≤ List.getD x3 ((0 : Nat) + Int.toNat i) (0 : Int) - (1 : Int)) (by (first | assumption | omega | (simp; done))) (by kernel_rfl) ?_
       refine H.kd 2 (fun b => ((!b) == true)) ((0 : Int) ≤ List.getD x1 ((0 : Nat) + Int.toNat i) (0 : Int) ∧ List.getD x1 ((0 : Nat) + Int.toNat i) (0 : Int) ≤ (1048576 : Int) ∧ (0 : Int) ≤ List.getD x2 ((0 : Nat) + Int.toNat i) (0 : Int) ∧ List.getD x2 ((0 : Nat) + Int.toNat i) (0 : Int) ≤ (1048576 : Int) ∧ (0 : Int) ≤ List.getD x1 ((0 : Nat) + Int.toNat i) (0 : Int) ∧ List.getD x1 ((0 : Nat) + Int.toNat i) (0 : Int) ≤ List.getD x1 ((0 : Nat) + Int.toNat i) (0 : Int) ∧ (1 : Int) ≤ List.getD x3 ((0 : Nat) + Int.toNat i) (0 : Int) ∧ List.getD x3 ((0 : Nat) + Int.toNat i) (0 : Int) ≤ (1048576 : Int) ∧ (0 : Int) ≤ (0 : Int) ∧ (0 : Int) ≤ List.getD x3 ((0 : Nat) + Int.toNat i) (0 : Int) - (1 : Int)) (by (first | assumption | omega | (simp; done))) (by kernel_rfl) ?_
       refine H.kd 7 (fun b => (b == true)) ((0 : Int) ≤ List.getD x1 ((0 : Nat) + Int.toNat i) (0 : Int) ∧ List.getD x1 ((0 : Nat) + Int.toNat i) (0 : Int) ≤ (1048576 : Int) ∧ (0 : Int) ≤ List.getD x2 ((0 : Nat) + Int.toNat i) (0 : Int) ∧ List.getD x2 ((0 : Nat) + Int.toNat i) (0 : Int) ≤ (1048576 : Int) ∧ (0 : Int) ≤ List.getD x1 ((0 : Nat) + Int.toNat i) (0 : Int) ∧ List.getD x1 ((0 : Nat) + Int.toNat i) (0 : Int) ≤ List.getD x1 ((0 : Nat) + Int.toNat i) (0 : Int) ∧ (1 : Int) ≤ List.getD x3 ((0 : Nat) + Int.toNat i) (0 : Int) ∧ List.getD x3 ((0 : Nat) + Int.toNat i) (0 : Int) ≤ (1048576 : Int) ∧ (0 : Int) ≤ (0 : Int) ∧ (0 : Int) ≤ List.getD x3 ((0 : Nat) + Int.toNat i) (0 : Int) - (1 : Int)) (by (first | assumption | omega | (simp; done))) (by kernel_rfl) ?_
       refine H.kb 11 (fun b => (!b)) (b := (List.getD x1 (0 + Int.toNat i) 0 == List.getD x1 (0 + Int.toNat i) 0 && (List.getD x1 (0 + Int.toNat i) 0 == List.getD x1 (0 + Int.toNat i) 0 && (List.getD x2 (0 + Int.toNat i) 0 == List.getD x2 (0 + Int.toNat i) 0 && (List.getD x3 (0 + Int.toNat i) 0 == List.getD x3 (0 + Int.toNat i) 0 && true))))) (d := true) (by (first | assumption | omega | (simp; done))) (by kernel_rfl) ?_
       refine H.kd 0 (fun b => b) ((0 : Int) ≤ List.getD x1 ((0 : Nat) + Int.toNat i) (0 : Int) ∧ List.getD x1 ((0 : Nat) + Int.toNat i) (0 : Int) ≤ (1048576 : Int) ∧ (0 : Int) ≤ List.getD x2 ((0 : Nat) + Int.toNat i) (0 : Int) ∧ List.getD x2 ((0 : Nat) + Int.toNat i) (0 : Int) ≤ (1048576 : Int) ∧ (0 : Int) ≤ List.getD x1 ((0 : Nat) + Int.toNat i) (0 : Int) ∧ List.getD x1 ((0 : Nat) + Int.toNat i) (0 : Int) ≤ List.getD x1 ((0 : Nat) + Int.toNat i) (0 : Int) ∧ (1 : Int) ≤ List.getD x3 ((0 : Nat) + Int.toNat i) (0 : Int) ∧ List.getD x3 ((0 : Nat) + Int.toNat i) (0 : Int) ≤ (1048576 : Int) ∧ (0 : Int) ≤ (0 : Int) ∧ (0 : Int) ≤ List.getD x3 ((0 : Nat) + Int.toNat i) (0 : Int) - (1 : Int)) (by (first | assumption | omega | (simp; done))) (by kernel_rfl) ?_
       refine H.lf (f := oc2) 13 (Sum.inl ([AV.ptr 1 0 0, AV.ptr 2 0 0, AV.i IntKind.i64 (wr IntKind.i64 (i + 1))], 1, [AObj.ro nl n [Col.ci IntKind.i64 x0, Col.ci IntKind.i64 x1, Col.ci IntKind.i64 x2, Col.ci IntKind.i64 x3], AObj.own 51 6 [AV.i IntKind.i64 l, AV.i IntKind.i64 c, AV.i IntKind.i64 f, AV.i IntKind.i64 e, AV.i IntKind.i64 d, AV.sl 0 0 n (some cap)], AObj.own 48 5 [AV.i IntKind.i64 (List.getD x1 (0 + Int.toNat i) 0), AV.i IntKind.i64 (List.getD x1 (0 + Int.toNat i) 0), AV.i IntKind.i64 (List.getD x2 (0 + Int.toNat i) 0), AV.i IntKind.i64 (List.getD x3 (0 + Int.toNat i) 0), AV.i IntKind.i64 0]])) (by kernel_rfl) ?_
       first | exact ag10 hmi h0 (by omega) | exact rfl
      ·
       refine H.nd 20 (fun b => ((!(b == false)) == false)) ((0 : Int) ≤ List.getD x1 ((0 : Nat) + Int.toNat i) (0 : Int) ∧ List.getD x1 ((0 : Nat) + Int.toNat i) (0 : Int) ≤ (1048576 : Int) ∧ (0 : Int) ≤ List.getD x2 ((0 : Nat) + Int.toNat i) (0 : Int) ∧ List.getD x2 ((0 : Nat) + Int.toNat i) (0 : Int) ≤ (1048576 : Int) ∧ (0 : Int) ≤ List.getD x1 ((0 : Nat) + Int.toNat i) (0 : Int) ∧ List.getD x1 ((0 : Nat) + Int.toNat i) (0 : Int) ≤ List.getD x1 ((0 : Nat) + Int.toNat i) (0 : Int) ∧ (1 : Int) ≤ List.getD x3 ((0 : Nat) + Int.toNat i) (0 : Int) ∧ List.getD x3 ((0 : Nat) + Int.toNat i) (0 : Int) ≤ (1048576 : Int) ∧ (0 : Int) ≤ (0 : Int) ∧ (0 : Int) ≤ List.getD x3 ((0 : Nat) + Int.toNat i) (0 : Int) - (1 : Int)) (by (first | assumption | omega | (simp; done))) (by kernel_rfl) ?_
       refine H.nd 2 (fun b => ((!b) == true)) ((0 : Int) ≤ List.getD x1 ((0 : Nat) + Int.toNat i) (0 : Int) ∧ List.getD x1 ((0 : Nat) + Int.toNat i) (0 : Int) ≤ (1048576 : Int) ∧ (0 : Int) ≤ List.getD x2 ((0 : Nat) + Int.toNat i) (0 : Int) ∧ List.getD x2 ((0 : Nat) + Int.toNat i) (0 : Int) ≤ (1048576 : Int) ∧ (0 : Int) ≤ List.getD x1 ((0 : Nat) + Int.toNat i) (0 : Int) ∧ List.getD x1 ((0 : Nat) + Int.toNat i) (0 : Int) ≤ List.getD x1 ((0 : Nat) + Int.toNat i) (0 : Int) ∧ (1 : Int) ≤ List.getD x3 ((0 : Nat) + Int.toNat i) (0 : Int) ∧ List.getD x3 ((0 : Nat) + Int.toNat i) (0 : Int) ≤ (1048576 : Int) ∧ (0 : Int) ≤ (0 : Int) ∧ (0 : Int) ≤ List.getD x3 ((0 : Nat) + Int.toNat i) (0 : Int) - (1 : Int)) (by (first | assumption | omega | (simp; done))) (by kernel_rfl) ?_
       refine H.nd 9 (fun b => (b == true)) ((0 : Int) ≤ List.getD x1 ((0 : Nat) + Int.toNat i) (0 : Int) ∧ List.getD x1 ((0 : Nat) + Int.toNat i) (0 : Int) ≤ (1048576 : Int) ∧ (0 : Int) ≤ List.getD x2 ((0 : Nat) + Int.toNat i) (0 : Int) ∧ List.getD x2 ((0 : Nat) + Int.toNat i) (0 : Int) ≤ (1048576 : Int) ∧ (0 : Int) ≤ List.getD x1 ((0 : Nat) + Int.toNat i) (0 : Int) ∧ List.getD x1 ((0 : Nat) + Int.toNat i) (0 : Int) ≤ List.getD x1 ((0 : Nat) + Int.toNat i) (0 : Int) ∧ (1 : Int) ≤ List.getD x3 ((0 : Nat) + Int.toNat i) (0 : Int) ∧ List.getD x3 ((0 : Nat) + Int.toNat i) (0 : Int) ≤ (1048576 : Int) ∧ (0 : Int) ≤ (0 : Int) ∧ (0 : Int) ≤ List.getD x3 ((0 : Nat) + Int.toNat i) (0 : Int) - (1 : Int)) (by (first | assumption | omega | (simp; done))) (by kernel_rfl) ?_
       refine H.nd 6 (fun b => b) ((0 : Int) ≤ List.getD x1 ((0 : Nat) + Int.toNat i) (0 : Int) ∧ List.getD x1 ((0 : Nat) + Int.toNat i) (0 : Int) ≤ (1048576 : Int) ∧ (0 : Int) ≤ List.getD x2 ((0 : Nat) + Int.toNat i) (0 : Int) ∧ List.getD x2 ((0 : Nat) + Int.toNat i) (0 : Int) ≤ (1048576 : Int) ∧ (0 : Int) ≤ List.getD x1 ((0 : Nat) + Int.toNat i) (0 : Int) ∧ List.getD x1 ((0 : Nat) + Int.toNat i) (0 : Int) ≤ List.getD x1 ((0 : Nat) + Int.toNat i) (0 : Int) ∧ (1 : Int) ≤ List.getD x3 ((0 : Nat) + Int.toNat i) (0 : Int) ∧ List.getD x3 ((0 : Nat) + Int.toNat i) (0 : Int) ≤ (1048576 : Int) ∧ (0 : Int) ≤ (0 : Int) ∧ (0 : Int) ≤ List.getD x3 ((0 : Nat) + Int.toNat i) (0 : Int) - (1 : Int)) (by (first | assumption | omega | (simp; done))) (by kernel_rfl) ?_
       refine H.lf (f := oc2) 2 (Sum.inl ([AV.ptr 1 0 0, AV.ptr 2 0 0, AV.i IntKind.i64 (wr IntKind.i64 (i + 1))], 1, [AObj.ro nl n [Col.ci IntKind.i64 x0, Col.ci IntKind.i64 x1, Col.ci IntKind.i64 x2, Col.ci IntKind.i64 x3], AObj.own 51 6 [AV.i IntKind.i64 l, AV.i IntKind.i64 c, AV.i IntKind.i64 f, AV.i IntKind.i64 e, AV.i IntKind.i64 d, AV.sl 0 0 n (some cap)], AObj.own 48 5 [AV.i IntKind.i64 bl, AV.i IntKind.i64 bc, AV.i IntKind.i64 bf, AV.i IntKind.i64 be, AV.i IntKind.i64 bd]])) (by kernel_rfl) ?_
       first | exact ag10 hmi h0 (by omega) | exact rfl
     ·
      refine H.se 1 (fun b => b) (wi (List.getD x0 (0 + Int.toNat i) 0) 6) (1) (by kernel_rfl) (fun h5 => ?_) (fun h5 => ?_)
      ·
       refine H.nd 14 (fun b => b) (0 ≤ bc ∧ bc ≤ 1048576 ∧ 0 ≤ bf ∧ bf ≤ 1048576 ∧ 0 ≤ bl ∧ bl ≤ bc ∧ 1 ≤ be ∧ be ≤ 1048576 ∧ 0 ≤ bd ∧ bd ≤ be - 1) (by (first | assumption | omega | (simp; done))) (by kernel_rfl) ?_
       refine H.lf (f := oc2) 29 (Sum.inl ([AV.ptr 1 0 0, AV.ptr 2 0 0, AV.i IntKind.i64 (wr IntKind.i64 (i + 1))], 1, [AObj.ro nl n [Col.ci IntKind.i64 x0, Col.ci IntKind.i64 x1, Col.ci IntKind.i64 x2, Col.ci IntKind.i64 x3], AObj.own 51 6 [AV.i IntKind.i64 l, AV.i IntKind.i64 c, AV.i IntKind.i64 f, AV.i IntKind.i64 e, AV.i IntKind.i64 d, AV.sl 0 0 n (some cap)], AObj.own 48 5 [AV.i IntKind.i64 bl, AV.i IntKind.i64 bc, AV.i IntKind.i64 bf, AV.i IntKind.i64 be, AV.i IntKind.i64 bd]])) (by kernel_rfl) ?_
       first | exact ag10 hmi h0 (by omega) | exact rfl
      ·
       refine H.se 1 (fun b => b) (wi (List.getD x0 (0 + Int.toNat i) 0) 6) (2) (by kernel_rfl) (fun h6 => ?_) (fun h6 => ?_)
       ·
        refine H.nd 13 (fun b => b) (0 ≤ bc ∧ bc ≤ 1048576 ∧ 0 ≤ bf ∧ bf ≤ 1048576 ∧ 0 ≤ bl ∧ bl ≤ bc ∧ 1 ≤ be ∧ be ≤ 1048576 ∧ 0 ≤ bd ∧ bd ≤ be - 1) (by (first | assumption | omega | (simp; done))) (by kernel_rfl) ?_
        refine H.lf (f := oc2) 29 (Sum.inl ([AV.ptr 1 0 0, AV.ptr 2 0 0, AV.i IntKind.i64 (wr IntKind.i64 (i + 1))], 1, [AObj.ro nl n [Col.ci IntKind.i64 x0, Col.ci IntKind.i64 x1, Col.ci IntKind.i64 x2, Col.ci IntKind.i64 x3], AObj.own 51 6 [AV.i IntKind.i64 l, AV.i IntKind.i64 c, AV.i IntKind.i64 f, AV.i IntKind.i64 e, AV.i IntKind.i64 d, AV.sl 0 0 n (some cap)], AObj.own 48 5 [AV.i IntKind.i64 bl, AV.i IntKind.i64 bc, AV.i IntKind.i64 bf, AV.i IntKind.i64 be, AV.i IntKind.i64 bd]])) (by kernel_rfl) ?_
        first | exact ag10 hmi h0 (by omega) | exact rfl
       ·
        refine H.se 1 (fun b => b) (wi (List.getD x0 (0 + Int.toNat i) 0) 6) (3) (by kernel_rfl) (fun h7 => ?_) (fun h7 => ?_)
        ·
         refine H.nd 1 (fun b => b) (0 ≤ bc ∧ bc ≤ 1048576 ∧ 0 ≤ bf ∧ bf ≤ 1048576 ∧ 0 ≤ bl ∧ bl ≤ bc ∧ 1 ≤ be ∧ be ≤ 1048576 ∧ 0 ≤ bd ∧ bd ≤ be - 1) (by (first | assumption | omega | (simp; done))) (by kernel_rfl) ?_
         refine H.lf (f := oc2) 14 (Sum.inl ([AV.ptr 1 0 0, AV.ptr 2 0 0, AV.i IntKind.i64 (wr IntKind.i64 (i + 1))], 1, [AObj.ro nl n [Col.ci IntKind.i64 x0, Col.ci IntKind.i64 x1, Col.ci IntKind.i64 x2, Col.ci IntKind.i64 x3], AObj.own 51 6 [AV.i IntKind.i64 l, AV.i IntKind.i64 c, AV.i IntKind.i64 f, AV.i IntKind.i64 e, AV.i IntKind.i64 d, AV.sl 0 0 n (some cap)], AObj.own 48 5 [AV.i IntKind.i64 bl, AV.i IntKind.i64 bc, AV.i IntKind.i64 bf, AV.i IntKind.i64 be, AV.i IntKind.i64 bd]])) (by kernel_rfl) ?_
         first | exact ag10 hmi h0 (by omega) | exact rfl
        ·
         refine H.nd 12 (fun b => (b == true)) (0 ≤ bc ∧ bc ≤ 1048576 ∧ 0 ≤ bf ∧ bf ≤ 1048576 ∧ 0 ≤ bl ∧ bl ≤ bc ∧ 1 ≤ be ∧ be ≤ 1048576 ∧ 0 ≤ bd ∧ bd ≤ be - 1) (by (first | assumption | omega | (simp; done))) (by kernel_rfl) ?_
         refine H.nd 3 (fun b => b) (0 ≤ bc ∧ bc ≤ 1048576 ∧ 0 ≤ bf ∧ bf ≤ 1048576 ∧ 0 ≤ bl ∧ bl ≤ bc ∧ 1 ≤ be ∧ be ≤ 1048576 ∧ 0 ≤ bd ∧ bd ≤ be - 1) (by (first | assumption | omega | (simp; done))) (by kernel_rfl) ?_
         refine H.lf (f := oc2) 29 (Sum.inl ([AV.ptr 1 0 0, AV.ptr 2 0 0, AV.i IntKind.i64 (wr IntKind.i64 (i + 1))], 1, [AObj.ro nl n [Col.ci IntKind.i64 x0, Col.ci IntKind.i64 x1, Col.ci IntKind.i64 x2, Col.ci IntKind.i64 x3], AObj.own 51 6 [AV.i IntKind.i64 l, AV.i IntKind.i64 c, AV.i IntKind.i64 f, AV.i IntKind.i64 e, AV.i IntKind.i64 d, AV.sl 0 0 n (some cap)], AObj.own 48 5 [AV.i IntKind.i64 bl, AV.i IntKind.i64 bc, AV.i IntKind.i64 bf, AV.i IntKind.i64 be, AV.i IntKind.i64 bd]])) (by kernel_rfl) ?_
         first | exact ag10 hmi h0 (by omega) | exact rfl
   ·
    refine H.lf (f := oc2) 52 (Sum.inr (Sum.inl (AV.b true))) (by kernel_rfl) ?_
    first | exact ag10 hmi h0 (by omega) | exact rfl
  ·
   refine H.lf (f := oc2) 55 (Sum.inr (Sum.inl (AV.b true))) (by kernel_rfl) ?_
   first | exact ag10 hmi h0 (by omega) | exact rfl
theorem law10 (M : Mem) (hM : M = memL 1 [.ro nl n [.ci .i64 x0, .ci .i64 x1, .ci .i64 x2, .ci .i64 x3]]) : H (ev S2 5 10 (ar8 l c f e d n cap) M) (fun x => x.1 = .b true) (fun _ _ => False) := by
  subst hM
  have e0 : (lawE S2 (fi10 false) (ar8 l c f e d n cap) (memL 1 [.ro nl n [.ci .i64 x0, .ci .i64 x1, .ci .i64 x2, .ci .i64 x3]])).runV oc =
    bif2 (decide ((n : Int) > 300)) (some (.inl (.b true))) (some (.inr ([0, 1, 0, 1, 1, 1], 3, [.ptr 1 0 0, .ptr 2 0 0, iv 0], 1, ob10 l c f e d nl n cap x0 x1 x2 x3 l c f e d))) := by kernel_rfl
  refine law1 (fi := fi10 false) (by kernel_rfl) (by kernel_rfl) (by kernel_rfl) rfl [0, 1, 0, 1, 1, 1] 3 1 rfl (by kernel_rfl) (Inv10 l c f e d nl n cap x0 x1 x2 x3) ?_ step10
  refine lawE_H e0 ?_
  rw [bif2_eq]
  split
  · exact ⟨_, rfl, rfl⟩
  · exact ⟨_, rfl, rfl, rfl, 40, by omega, l, c, f, e, d, 0, by omega, by omega, rfl, rfl⟩
end
end Go.Proofs.TabA
