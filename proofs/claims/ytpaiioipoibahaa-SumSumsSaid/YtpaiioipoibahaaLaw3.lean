/- The law's loop, round by round, and the arithmetic that it asks for, for all inputs of the law. -/
import Derived.Test.YtpaiioipoibahaaCrcC
set_option linter.all false
set_option linter.deprecated false
set_option maxRecDepth 1000000
set_option maxHeartbeats 4000000
namespace Go.Proofs.TabA
open Go Go.Eng
attribute [local irreducible] cA cB tk crN itN
section
variable {nl : Bool} {n cap : Nat} {xs xn : List Int} {hd : List (Bool × Nat × Nat)} {Y : Nat → List Int}
abbrev ob3 (nl : Bool) (n : Nat) (xs xn : List Int) (hd : List (Bool × Nat × Nat)) (Y : Nat → List Int) : List AObj := [.ro nl n [.ci .u32 xs, .cl hd (fun j => [.ci .u8 (Y j)]), .ci .i64 xn]]
def Inv3 (nl : Bool) (n cap : Nat) (xs xn : List Int) (hd : List (Bool × Nat × Nat)) (Y : Nat → List Int) (m : Nat) (s : St3) : Prop := ∃ i : Nat, i ≤ 15 ∧ m = 15 - i ∧ s = ([.sl 0 0 n (some cap), iv i], 1, ob3 nl n xs xn hd Y)
theorem ag3 {m i : Nat} (hmi : m = 15 - i) (h : i < 15) : OkL (fun s' => ∃ m', m' < m ∧ Inv3 nl n cap xs xn hd Y m' s') (fun _ => False) (.inl ([.sl 0 0 n (some cap), iv (wr .i64 ((i : Int) + 1))], 1, ob3 nl n xs xn hd Y)) := by
  have hlt : 15 - (i + 1) < m := by omega
  exact ⟨_, hlt, i + 1, by omega, rfl, by rw [wrN (by omega)]⟩
theorem step3 (m : Nat) (s : St3) (hi : Inv3 nl n cap xs xn hd Y m s) :
    H (lawL S3 (fi3 false) 1 [1,0,1,0] 1 [.sl 0 0 n (some cap)] s) (OkS (fun s' => ∃ m', m' < m ∧ Inv3 nl n cap xs xn hd Y m' s') (OkY (fun y : AV × Mem => y.1 = .b true) (fun _ => False))) (fun _ _ => False) := by
  obtain ⟨i, hi, hmi, rfl⟩ := hi
  refine lawL_Q ?_
  refine H.sd 1 (fun b => (b == true)) ((↑i : Int) < (↑n : Int)) (by kernel_rfl) (fun h1 => ?_) (fun h1 => ?_)
  ·
   refine H.sd 3 (fun b => b) ((↑i : Int) < 15) (by kernel_rfl) (fun h2 => ?_) (fun h2 => ?_)
   ·
    refine H.kd 2 (fun b => b) ((↑i : Int) < (↑n : Int)) (by (first | assumption | omega | exact c0 (by assumption) | exact c1 | exact tkAll | (simp; done))) (by kernel_rfl) ?_
    refine H.kl 1 (fun b => b) (0 + Int.toNat (↑i : Int)) (n) (by (first | assumption | omega | exact c0 (by assumption) | exact c1 | exact tkAll | (simp; done))) (by kernel_rfl) ?_
    refine H.sd 1 (fun b => b) ((↑(Prod.fst (Prod.snd (List.getD hd (0 + Int.toNat (↑i : Int)) (true, 0, 0)))) : Int) > 3000) (by kernel_rfl) (fun h3 => ?_) (fun h3 => ?_)
    ·
     refine H.lf (f := oc2) 1 (Sum.inr (Sum.inl (AV.b true))) (by kernel_rfl) ?_
     first | exact ag3 hmi (by omega) | exact rfl
    ·
     refine H.kd 2 (fun b => b) ((↑i : Int) < (↑n : Int)) (by (first | assumption | omega | exact c0 (by assumption) | exact c1 | exact tkAll | (simp; done))) (by kernel_rfl) ?_
     refine H.kl 1 (fun b => b) (0 + Int.toNat (↑i : Int)) (n) (by (first | assumption | omega | exact c0 (by assumption) | exact c1 | exact tkAll | (simp; done))) (by kernel_rfl) ?_
     refine H.kd 1 (fun b => b) (0 + Prod.fst (Prod.snd (List.getD hd (0 + Int.toNat (↑i : Int)) (true, 0, 0))) ≤ Prod.fst (Prod.snd (List.getD hd (0 + Int.toNat (↑i : Int)) (true, 0, 0))) ∧ Prod.fst (Prod.snd (List.getD hd (0 + Int.toNat (↑i : Int)) (true, 0, 0))) ≤ 3000) (by (first | assumption | omega | exact c0 (by assumption) | exact c1 | exact tkAll | (simp; done))) (by kernel_rfl) ?_
     refine H.sd 0 (fun b => b) (Prod.fst (Prod.snd (List.getD hd (0 + Int.toNat (↑i : Int)) (true, 0, 0))) = 0) (by kernel_rfl) (fun h4 => ?_) (fun h4 => ?_)
     ·
      refine H.kd 6 (fun b => b) ((↑i : Int) < (↑n : Int)) (by (first | assumption | omega | exact c0 (by assumption) | exact c1 | exact tkAll | (simp; done))) (by kernel_rfl) ?_
      refine H.kl 3 (fun b => b) (0 + Int.toNat (↑i : Int)) (n) (by (first | assumption | omega | exact c0 (by assumption) | exact c1 | exact tkAll | (simp; done))) (by kernel_rfl) ?_
      refine H.kd 9 (fun b => b) ((↑i : Int) < (↑n : Int)) (by (first | assumption | omega | exact c0 (by assumption) | exact c1 | exact tkAll | (simp; done))) (by kernel_rfl) ?_
      refine H.kl 3 (fun b => b) (0 + Int.toNat (↑i : Int)) (n) (by (first | assumption | omega | exact c0 (by assumption) | exact c1 | exact tkAll | (simp; done))) (by kernel_rfl) ?_
      refine H.kd 5 (fun b => b) ((↑i : Int) < (↑n : Int)) (by (first | assumption | omega | exact c0 (by assumption) | exact c1 | exact tkAll | (simp; done))) (by kernel_rfl) ?_
      refine H.kl 3 (fun b => b) (0 + Int.toNat (↑i : Int)) (n) (by (first | assumption | omega | exact c0 (by assumption) | exact c1 | exact tkAll | (simp; done))) (by kernel_rfl) ?_
      refine H.kd 2 (fun b => b) (0 + Prod.fst (Prod.snd (List.getD hd (0 + Int.toNat (↑i : Int)) (true, 0, 0))) ≤ Prod.fst (Prod.snd (List.getD hd (0 + Int.toNat (↑i : Int)) (true, 0, 0))) ∧ Prod.fst (Prod.snd (List.getD hd (0 + Int.toNat (↑i : Int)) (true, 0, 0))) ≤ 3000) (by (first | assumption | omega | exact c0 (by assumption) | exact c1 | exact tkAll | (simp; done))) (by kernel_rfl) ?_
      refine H.ke 5 (fun b => ((!b) == false)) (cA [] 0 0 (List.getD xs (0 + Int.toNat (↑i : Int)) 0)) (cB (Y (0 + Int.toNat (↑i : Int))) 0 (List.getD hd (0 + Int.toNat (↑i : Int)) (true, 0, 0)).2.1 (List.getD xs (0 + Int.toNat (↑i : Int)) 0)) (by (first | assumption | omega | exact c0 (by assumption) | exact c1 | exact tkAll | (simp; done))) (by kernel_rfl) ?_
      refine H.ke 1 (fun b => ((!b) == false)) (cA [] 0 0 (List.getD xs (0 + Int.toNat (↑i : Int)) 0)) (cB (Y (0 + Int.toNat (↑i : Int))) 0 (List.getD hd (0 + Int.toNat (↑i : Int)) (true, 0, 0)).2.1 (List.getD xs (0 + Int.toNat (↑i : Int)) 0)) (by (first | assumption | omega | exact c0 (by assumption) | exact c1 | exact tkAll | (simp; done))) (by kernel_rfl) ?_
      refine H.ke 1 (fun b => ((!b) == false)) (cA [] 0 0 (List.getD xs (0 + Int.toNat (↑i : Int)) 0)) (cB (Y (0 + Int.toNat (↑i : Int))) 0 (List.getD hd (0 + Int.toNat (↑i : Int)) (true, 0, 0)).2.1 (List.getD xs (0 + Int.toNat (↑i : Int)) 0)) (by (first | assumption | omega | exact c0 (by assumption) | exact c1 | exact tkAll | (simp; done))) (by kernel_rfl) ?_
      refine H.ke 1 (fun b => ((!b) == false)) (cA [] 0 0 (List.getD xs (0 + Int.toNat (↑i : Int)) 0)) (cB (Y (0 + Int.toNat (↑i : Int))) 0 (List.getD hd (0 + Int.toNat (↑i : Int)) (true, 0, 0)).2.1 (List.getD xs (0 + Int.toNat (↑i : Int)) 0)) (by (first | assumption | omega | exact c0 (by assumption) | exact c1 | exact tkAll | (simp; done))) (by kernel_rfl) ?_
      refine H.kd 2 (fun b => b) ((↑i : Int) < (↑n : Int)) (by (first | assumption | omega | exact c0 (by assumption) | exact c1 | exact tkAll | (simp; done))) (by kernel_rfl) ?_
      refine H.ke 1 (fun b => ((!b) == false)) (cA [] 0 0 (List.getD xs (0 + Int.toNat (↑i : Int)) 0)) (cB (Y (0 + Int.toNat (↑i : Int))) 0 (List.getD hd (0 + Int.toNat (↑i : Int)) (true, 0, 0)).2.1 (List.getD xs (0 + Int.toNat (↑i : Int)) 0)) (by (first | assumption | omega | exact c0 (by assumption) | exact c1 | exact tkAll | (simp; done))) (by kernel_rfl) ?_
      refine H.ke 2 (fun b => ((!b) == false)) (cA [] 0 0 (List.getD xs (0 + Int.toNat (↑i : Int)) 0)) (cB (Y (0 + Int.toNat (↑i : Int))) 0 (List.getD hd (0 + Int.toNat (↑i : Int)) (true, 0, 0)).2.1 (List.getD xs (0 + Int.toNat (↑i : Int)) 0)) (by (first | assumption | omega | exact c0 (by assumption) | exact c1 | exact tkAll | (simp; done))) (by kernel_rfl) ?_
      refine H.kl 0 (fun b => b) (0 + Int.toNat (↑i : Int)) (n) (by (first | assumption | omega | exact c0 (by assumption) | exact c1 | exact tkAll | (simp; done))) (by kernel_rfl) ?_
      refine H.ke 3 (fun b => ((!b) == false)) (cA [] 0 0 (List.getD xs (0 + Int.toNat (↑i : Int)) 0)) (cB (Y (0 + Int.toNat (↑i : Int))) 0 (List.getD hd (0 + Int.toNat (↑i : Int)) (true, 0, 0)).2.1 (List.getD xs (0 + Int.toNat (↑i : Int)) 0)) (by (first | assumption | omega | exact c0 (by assumption) | exact c1 | exact tkAll | (simp; done))) (by kernel_rfl) ?_
      refine H.kd 1 (fun b => b) (Prod.fst (Prod.snd (List.getD hd (0 + Int.toNat (↑i : Int)) (true, 0, 0))) = 0) (by (first | assumption | omega | exact c0 (by assumption) | exact c1 | exact tkAll | (simp; done))) (by kernel_rfl) ?_
      refine H.lf (f := oc2) 6 (Sum.inl ([AV.sl 0 0 n (some cap), AV.i IntKind.i64 (wr IntKind.i64 ((↑i : Int) + 1))], 1, [AObj.ro nl n [Col.ci IntKind.u32 xs, Col.cl hd fun j => [Col.ci IntKind.u8 (Y j)], Col.ci IntKind.i64 xn]])) (by kernel_rfl) ?_
      first | exact ag3 hmi (by omega) | exact rfl
     ·
      refine H.kd 6 (fun b => b) ((↑i : Int) < (↑n : Int)) (by (first | assumption | omega | exact c0 (by assumption) | exact c1 | exact tkAll | (simp; done))) (by kernel_rfl) ?_
      refine H.kl 3 (fun b => b) (0 + Int.toNat (↑i : Int)) (n) (by (first | assumption | omega | exact c0 (by assumption) | exact c1 | exact tkAll | (simp; done))) (by kernel_rfl) ?_
      refine H.kd 3 (fun b => b) (0 + Prod.fst (Prod.snd (List.getD hd (0 + Int.toNat (↑i : Int)) (true, 0, 0))) ≤ Prod.fst (Prod.snd (List.getD hd (0 + Int.toNat (↑i : Int)) (true, 0, 0))) ∧ Prod.fst (Prod.snd (List.getD hd (0 + Int.toNat (↑i : Int)) (true, 0, 0))) ≤ 3000) (by (first | assumption | omega | exact c0 (by assumption) | exact c1 | exact tkAll | (simp; done))) (by kernel_rfl) ?_
      refine H.kd 6 (fun b => b) ((↑i : Int) < (↑n : Int)) (by (first | assumption | omega | exact c0 (by assumption) | exact c1 | exact tkAll | (simp; done))) (by kernel_rfl) ?_
      refine H.kl 3 (fun b => b) (0 + Int.toNat (↑i : Int)) (n) (by (first | assumption | omega | exact c0 (by assumption) | exact c1 | exact tkAll | (simp; done))) (by kernel_rfl) ?_
      refine H.kd 5 (fun b => b) ((↑i : Int) < (↑n : Int)) (by (first | assumption | omega | exact c0 (by assumption) | exact c1 | exact tkAll | (simp; done))) (by kernel_rfl) ?_
      refine H.kl 3 (fun b => b) (0 + Int.toNat (↑i : Int)) (n) (by (first | assumption | omega | exact c0 (by assumption) | exact c1 | exact tkAll | (simp; done))) (by kernel_rfl) ?_
      refine H.kd 2 (fun b => b) (0 + Prod.fst (Prod.snd (List.getD hd (0 + Int.toNat (↑i : Int)) (true, 0, 0))) ≤ Prod.fst (Prod.snd (List.getD hd (0 + Int.toNat (↑i : Int)) (true, 0, 0))) ∧ Prod.fst (Prod.snd (List.getD hd (0 + Int.toNat (↑i : Int)) (true, 0, 0))) ≤ 3000) (by (first | assumption | omega | exact c0 (by assumption) | exact c1 | exact tkAll | (simp; done))) (by kernel_rfl) ?_
      refine H.ke 5 (fun b => ((!b) == false)) (cA (tk (Y (0 + Int.toNat (↑i : Int))) 0 (List.getD hd (0 + Int.toNat (↑i : Int)) (true, 0, 0)).2.1) 0 (List.getD hd (0 + Int.toNat (↑i : Int)) (true, 0, 0)).2.1 (List.getD xs (0 + Int.toNat (↑i : Int)) 0)) (cB (Y (0 + Int.toNat (↑i : Int))) 0 (List.getD hd (0 + Int.toNat (↑i : Int)) (true, 0, 0)).2.1 (List.getD xs (0 + Int.toNat (↑i : Int)) 0)) (by (first | assumption | omega | exact c0 (by assumption) | exact c1 | exact tkAll | (simp; done))) (by kernel_rfl) ?_
      refine H.ke 1 (fun b => ((!b) == false)) (cA (tk (Y (0 + Int.toNat (↑i : Int))) 0 (List.getD hd (0 + Int.toNat (↑i : Int)) (true, 0, 0)).2.1) 0 (List.getD hd (0 + Int.toNat (↑i : Int)) (true, 0, 0)).2.1 (List.getD xs (0 + Int.toNat (↑i : Int)) 0)) (cB (Y (0 + Int.toNat (↑i : Int))) 0 (List.getD hd (0 + Int.toNat (↑i : Int)) (true, 0, 0)).2.1 (List.getD xs (0 + Int.toNat (↑i : Int)) 0)) (by (first | assumption | omega | exact c0 (by assumption) | exact c1 | exact tkAll | (simp; done))) (by kernel_rfl) ?_
      refine H.ke 1 (fun b => ((!b) == false)) (cA (tk (Y (0 + Int.toNat (↑i : Int))) 0 (List.getD hd (0 + Int.toNat (↑i : Int)) (true, 0, 0)).2.1) 0 (List.getD hd (0 + Int.toNat (↑i : Int)) (true, 0, 0)).2.1 (List.getD xs (0 + Int.toNat (↑i : Int)) 0)) (cB (Y (0 + Int.toNat (↑i : Int))) 0 (List.getD hd (0 + Int.toNat (↑i : Int)) (true, 0, 0)).2.1 (List.getD xs (0 + Int.toNat (↑i : Int)) 0)) (by (first | assumption | omega | exact c0 (by assumption) | exact c1 | exact tkAll | (simp; done))) (by kernel_rfl) ?_
      refine H.ke 1 (fun b => ((!b) == false)) (cA (tk (Y (0 + Int.toNat (↑i : Int))) 0 (List.getD hd (0 + Int.toNat (↑i : Int)) (true, 0, 0)).2.1) 0 (List.getD hd (0 + Int.toNat (↑i : Int)) (true, 0, 0)).2.1 (List.getD xs (0 + Int.toNat (↑i : Int)) 0)) (cB (Y (0 + Int.toNat (↑i : Int))) 0 (List.getD hd (0 + Int.toNat (↑i : Int)) (true, 0, 0)).2.1 (List.getD xs (0 + Int.toNat (↑i : Int)) 0)) (by (first | assumption | omega | exact c0 (by assumption) | exact c1 | exact tkAll | (simp; done))) (by kernel_rfl) ?_
      refine H.kd 2 (fun b => b) ((↑i : Int) < (↑n : Int)) (by (first | assumption | omega | exact c0 (by assumption) | exact c1 | exact tkAll | (simp; done))) (by kernel_rfl) ?_
      refine H.ke 1 (fun b => ((!b) == false)) (cA (tk (Y (0 + Int.toNat (↑i : Int))) 0 (List.getD hd (0 + Int.toNat (↑i : Int)) (true, 0, 0)).2.1) 0 (List.getD hd (0 + Int.toNat (↑i : Int)) (true, 0, 0)).2.1 (List.getD xs (0 + Int.toNat (↑i : Int)) 0)) (cB (Y (0 + Int.toNat (↑i : Int))) 0 (List.getD hd (0 + Int.toNat (↑i : Int)) (true, 0, 0)).2.1 (List.getD xs (0 + Int.toNat (↑i : Int)) 0)) (by (first | assumption | omega | exact c0 (by assumption) | exact c1 | exact tkAll | (simp; done))) (by kernel_rfl) ?_
      refine H.ke 2 (fun b => ((!b) == false)) (cA (tk (Y (0 + Int.toNat (↑i : Int))) 0 (List.getD hd (0 + Int.toNat (↑i : Int)) (true, 0, 0)).2.1) 0 (List.getD hd (0 + Int.toNat (↑i : Int)) (true, 0, 0)).2.1 (List.getD xs (0 + Int.toNat (↑i : Int)) 0)) (cB (Y (0 + Int.toNat (↑i : Int))) 0 (List.getD hd (0 + Int.toNat (↑i : Int)) (true, 0, 0)).2.1 (List.getD xs (0 + Int.toNat (↑i : Int)) 0)) (by (first | assumption | omega | exact c0 (by assumption) | exact c1 | exact tkAll | (simp; done))) (by kernel_rfl) ?_
      refine H.kl 0 (fun b => b) (0 + Int.toNat (↑i : Int)) (n) (by (first | assumption | omega | exact c0 (by assumption) | exact c1 | exact tkAll | (simp; done))) (by kernel_rfl) ?_
      refine H.ke 3 (fun b => ((!b) == false)) (cA (tk (Y (0 + Int.toNat (↑i : Int))) 0 (List.getD hd (0 + Int.toNat (↑i : Int)) (true, 0, 0)).2.1) 0 (List.getD hd (0 + Int.toNat (↑i : Int)) (true, 0, 0)).2.1 (List.getD xs (0 + Int.toNat (↑i : Int)) 0)) (cB (Y (0 + Int.toNat (↑i : Int))) 0 (List.getD hd (0 + Int.toNat (↑i : Int)) (true, 0, 0)).2.1 (List.getD xs (0 + Int.toNat (↑i : Int)) 0)) (by (first | assumption | omega | exact c0 (by assumption) | exact c1 | exact tkAll | (simp; done))) (by kernel_rfl) ?_
      refine H.kd 1 (fun b => b) (Prod.fst (Prod.snd (List.getD hd (0 + Int.toNat (↑i : Int)) (true, 0, 0))) = Prod.fst (Prod.snd (List.getD hd (0 + Int.toNat (↑i : Int)) (true, 0, 0))) ∧ 0 + Prod.fst (Prod.snd (List.getD hd (0 + Int.toNat (↑i : Int)) (true, 0, 0))) ≤ Prod.fst (Prod.snd (List.getD hd (0 + Int.toNat (↑i : Int)) (true, 0, 0))) ∧ 0 + Prod.fst (Prod.snd (List.getD hd (0 + Int.toNat (↑i : Int)) (true, 0, 0))) ≤ Prod.fst (Prod.snd (List.getD hd (0 + Int.toNat (↑i : Int)) (true, 0, 0))) ∧ Prod.fst (Prod.snd (List.getD hd (0 + Int.toNat (↑i : Int)) (true, 0, 0))) ≤ 3000) (by (first | assumption | omega | exact c0 (by assumption) | exact c1 | exact tkAll | (simp; done))) (by kernel_rfl) ?_
      refine H.kd 0 (fun b => b) (∀ (i_1 : Nat), i_1 < Prod.fst (Prod.snd (List.getD hd (0 + Int.toNat (↑i : Int)) (true, 0, 0))) → List.getD (tk (Y (0 + Int.toNat (↑i : Int))) 0 (Prod.fst (Prod.snd (List.getD hd (0 + Int.toNat (↑i : Int)) (true, 0, 0))))) (0 + i_1) 0 = List.getD (Y (0 + Int.toNat (↑i : Int))) (0 + i_1) 0) (by (first | assumption | omega | exact c0 (by assumption) | exact c1 | exact tkAll | (simp; done))) (by kernel_rfl) ?_
      refine H.lf (f := oc2) 6 (Sum.inl ([AV.sl 0 0 n (some cap), AV.i IntKind.i64 (wr IntKind.i64 ((↑i : Int) + 1))], 1, [AObj.ro nl n [Col.ci IntKind.u32 xs, Col.cl hd fun j => [Col.ci IntKind.u8 (Y j)], Col.ci IntKind.i64 xn]])) (by kernel_rfl) ?_
      first | exact ag3 hmi (by omega) | exact rfl
   ·
    refine H.lf (f := oc2) 0 (Sum.inr (Sum.inl (AV.b true))) (by kernel_rfl) ?_
    first | exact ag3 hmi (by omega) | exact rfl
  ·
   refine H.lf (f := oc2) 3 (Sum.inr (Sum.inl (AV.b true))) (by kernel_rfl) ?_
   first | exact ag3 hmi (by omega) | exact rfl
theorem law3 : H (ev S3 5 3 [.sl 0 0 n (some cap)] (memL 1 (ob3 nl n xs xn hd Y))) (fun x => x.1 = .b true) (fun _ _ => False) := by
  refine law1 (fi := fi3 false) (by kernel_rfl) (by kernel_rfl) (by kernel_rfl) rfl [0, 1, 0, 1] 1 1 rfl (by kernel_rfl) (Inv3 nl n cap xs xn hd Y) ?_ step3
  refine lawE_Q ?_
  refine H.lf (f := oc) 0 (Sum.inr ([0, 1, 0, 1], 1, [.sl 0 0 n (some cap), iv 0], 1, ob3 nl n xs xn hd Y)) (by kernel_rfl) ?_
  exact ⟨rfl, rfl, 15, by omega, 0, by omega, rfl, rfl⟩
end
end Go.Proofs.TabA
