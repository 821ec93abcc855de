/- A law walked through by the evaluator, for all columns that its argument may have. -/
import Derived.Test.YtpaiioipoibahaaBpA
import Derived.Test.YtpaiioipoibahaaArgD
set_option linter.all false
set_option linter.deprecated false
set_option maxRecDepth 1000000
set_option maxHeartbeats 4000000
namespace Go.Proofs.TabA
open Go Go.Eng
section
variable {l c f e d : Int} {nl : Bool} {n cap : Nat} {x0 x1 x2 x3 : List Int}
def Inv7A (l c f e d : Int) (nl : Bool) (n cap : Nat) (x0 x1 x2 x3 : List Int) (m : Nat) (s : St3) : Prop := ∃ i : Nat, i ≤ 10 ∧ m = 10 - i ∧ s = ([.ptr 1 0 0, iv i, .top, .top, .top], 1, [.ro nl n [.ci .i64 x0, .ci .i64 x1, .ci .i64 x2, .ci .i64 x3], .own 51 6 [iv l, iv c, iv f, iv e, iv d, .sl 0 0 n (some cap)]])
def Inv7B (l c f e d : Int) (nl : Bool) (n cap : Nat) (x0 x1 x2 x3 : List Int) (m : Nat) (s : St3) : Prop := ∃ (i : Int) (j : Nat), j ≤ 40 ∧ m = 40 - j ∧ s = ([.ptr 1 0 0, iv i, .ptr 2 0 0, .ptr 3 0 0, iv ((j + 1 : Nat) : Int)], 1, [.ro nl n [.ci .i64 x0, .ci .i64 x1, .ci .i64 x2, .ci .i64 x3], .own 51 6 [iv l, iv c, iv f, iv e, iv d, .sl 0 0 n (some cap)], .own 48 5 [iv (goL l c f e d j), iv c, iv f, iv e, iv (goD e d j)], .own 48 5 [iv (goL l c f e d j), iv c, iv f, iv e, iv (goD e d j)]])
theorem law7 : H (ev S2 5 7 [.agg [iv l, iv c, iv f, iv e, iv d, .sl 0 0 n (some cap)]] (memL 1 [.ro nl n [.ci .i64 x0, .ci .i64 x1, .ci .i64 x2, .ci .i64 x3]])) (fun x => x.1 = .b true) F0 := by
  cases hm : mayB l c f e d with
  | false =>
    refine law1 (fi := fi7 false) (by kernel_rfl) (by kernel_rfl) (by kernel_rfl) rfl [0, 1, 0, 1, 1] 2 1 rfl (by kernel_rfl) (fun _ _ => False) ?_ (fun _ _ h => h.elim)
    refine lawE_Q ?_
    refine H.kb 2 (fun b => (!b)) (b := (mayB l c f e d)) (d := false) (by (first | assumption | omega)) (by kernel_rfl) ?_
    refine H.lf (f := oc) 1 (Sum.inl (AV.b true)) (by kernel_rfl) ?_
    exact rfl
  | true =>
    refine lawSeq (fi := fi7 false) (by kernel_rfl) (by kernel_rfl) (by kernel_rfl) rfl [0, 1, 0, 1, 1] 2 [0, 1, 0, 1, 1, 1, 1] 4 1 rfl (by kernel_rfl) (by kernel_rfl) (Inv7A l c f e d nl n cap x0 x1 x2 x3) (Inv7B l c f e d nl n cap x0 x1 x2 x3) ?_ ?_ ?_
    · refine lawE_Q ?_
      refine H.kb 2 (fun b => (!b)) (b := (mayB l c f e d)) (d := true) (by (first | assumption | omega)) (by kernel_rfl) ?_
      refine H.lf (f := oc) 0 (Sum.inr ([0, 1, 0, 1, 1], 2, [AV.ptr 1 0 0, AV.i IntKind.i64 0, AV.top, AV.top, AV.top], 1, [AObj.ro nl n [Col.ci IntKind.i64 x0, Col.ci IntKind.i64 x1, Col.ci IntKind.i64 x2, Col.ci IntKind.i64 x3], AObj.own 51 6 [AV.i IntKind.i64 l, AV.i IntKind.i64 c, AV.i IntKind.i64 f, AV.i IntKind.i64 e, AV.i IntKind.i64 d, AV.sl 0 0 n (some cap)]])) (by kernel_rfl) ?_
      exact .inl ⟨rfl, rfl, 10, by omega, 0, by omega, rfl, rfl⟩
    · rintro m _ ⟨i, hi, hmm, rfl⟩
      refine lawL_Q ?_
      have ag : ∀ {G : Stop → Prop}, i < 10 → OkL (fun s' => ∃ m', m' < m ∧ Inv7A l c f e d nl n cap x0 x1 x2 x3 m' s') G (.inl ([.ptr 1 0 0, iv (wr .i64 ((i : Int) + 1)), .top, .top, .top], 1, [.ro nl n [.ci .i64 x0, .ci .i64 x1, .ci .i64 x2, .ci .i64 x3], .own 51 6 [iv l, iv c, iv f, iv e, iv d, .sl 0 0 n (some cap)]])) := fun h => by
        have hlt : 10 - (i + 1) < m := by omega
        exact ⟨_, hlt, i + 1, by omega, rfl, by rw [wr64 (by omega) (by omega)]; rfl⟩
      have ex : ∀ {I : St3 → Prop} (k : Int), OkL I (fun t => t.1 = [0, 1, 0, 1, 1, 1, 1] ∧ t.2.1 = 4 ∧ ∃ m, m < 1048576 ∧ Inv7B l c f e d nl n cap x0 x1 x2 x3 m t.2.2) (.inr (.inr ([0, 1, 0, 1, 1, 1, 1], 4, [.ptr 1 0 0, iv k, .ptr 2 0 0, .ptr 3 0 0, iv 1], 1, [.ro nl n [.ci .i64 x0, .ci .i64 x1, .ci .i64 x2, .ci .i64 x3], .own 51 6 [iv l, iv c, iv f, iv e, iv d, .sl 0 0 n (some cap)], .own 48 5 [iv l, iv c, iv f, iv e, iv d], .own 48 5 [iv l, iv c, iv f, iv e, iv d]]))) := fun k => by
        obtain ⟨z1, z2⟩ := go0 hm
        have e1 : goL l c f e d ((0 : Nat) : Int) = l := z1
        have e2 : goD e d ((0 : Nat) : Int) = d := z2
        exact ⟨rfl, rfl, 40, by omega, k, 0, by omega, rfl, by rw [e1, e2]; rfl⟩
      refine H.sd 2 (fun b => (b == true)) ((↑i : Int) < (↑n : Int)) (by kernel_rfl) (fun h1 => ?_) (fun h1 => ?_)
      ·
       refine H.sd 3 (fun b => b) ((↑i : Int) < 10) (by kernel_rfl) (fun h2 => ?_) (fun h2 => ?_)
       ·
        refine H.kd 7 (fun b => b) ((↑i : Int) < (↑n : Int)) (by (first | assumption | omega | with_reducible exact wib | with_reducible exact wib2 | with_reducible exact goMayw (by assumption) | with_reducible exact parts_eq (by assumption) | with_reducible exact parts_le (by assumption) | with_reducible exact parts_ge (by assumption))) (by kernel_rfl) ?_
        refine H.kl 4 (fun b => b) (0 + Int.toNat (↑i : Int)) (n) (by (first | assumption | omega | with_reducible exact wib | with_reducible exact wib2 | with_reducible exact goMayw (by assumption) | with_reducible exact parts_eq (by assumption) | with_reducible exact parts_le (by assumption) | with_reducible exact parts_ge (by assumption))) (by kernel_rfl) ?_
        refine H.kd 9 (fun b => b) ((↑i : Int) < (↑n : Int)) (by (first | assumption | omega | with_reducible exact wib | with_reducible exact wib2 | with_reducible exact goMayw (by assumption) | with_reducible exact parts_eq (by assumption) | with_reducible exact parts_le (by assumption) | with_reducible exact parts_ge (by assumption))) (by kernel_rfl) ?_
        refine H.kl 4 (fun b => b) (0 + Int.toNat (↑i : Int)) (n) (by (first | assumption | omega | with_reducible exact wib | with_reducible exact wib2 | with_reducible exact goMayw (by assumption) | with_reducible exact parts_eq (by assumption) | with_reducible exact parts_le (by assumption) | with_reducible exact parts_ge (by assumption))) (by kernel_rfl) ?_
        refine H.kb 5 (fun b => b) (b := (mayB l c f e d)) (d := true) (by (first | assumption | omega | with_reducible exact wib | with_reducible exact wib2 | with_reducible exact goMayw (by assumption) | with_reducible exact parts_eq (by assumption) | with_reducible exact parts_le (by assumption) | with_reducible exact parts_ge (by assumption))) (by kernel_rfl) ?_
        refine H.kb 0 (fun b => b) (b := (inB (wi (List.getD x1 (0 + Int.toNat (↑i : Int)) 0) 549755813888) 1099511627776)) (d := true) (by (first | assumption | omega | with_reducible exact wib | with_reducible exact wib2 | with_reducible exact goMayw (by assumption) | with_reducible exact parts_eq (by assumption) | with_reducible exact parts_le (by assumption) | with_reducible exact parts_ge (by assumption))) (by kernel_rfl) ?_
        refine H.kb 12 (fun b => b) (b := (mayB (goL l c f e d (wi (List.getD x1 (0 + Int.toNat (↑i : Int)) 0) 549755813888)) c f e (goD e d (wi (List.getD x1 (0 + Int.toNat (↑i : Int)) 0) 549755813888)))) (d := true) (by (first | assumption | omega | with_reducible exact wib | with_reducible exact wib2 | with_reducible exact goMayw (by assumption) | with_reducible exact parts_eq (by assumption) | with_reducible exact parts_le (by assumption) | with_reducible exact parts_ge (by assumption))) (by kernel_rfl) ?_
        refine H.kb 0 (fun b => b) (b := (inB (wi (List.getD x2 (0 + Int.toNat (↑i : Int)) 0) 549755813888) 1099511627776)) (d := true) (by (first | assumption | omega | with_reducible exact wib | with_reducible exact wib2 | with_reducible exact goMayw (by assumption) | with_reducible exact parts_eq (by assumption) | with_reducible exact parts_le (by assumption) | with_reducible exact parts_ge (by assumption))) (by kernel_rfl) ?_
        refine H.kb 14 (fun b => b) (b := (mayB l c f e d)) (d := true) (by (first | assumption | omega | with_reducible exact wib | with_reducible exact wib2 | with_reducible exact goMayw (by assumption) | with_reducible exact parts_eq (by assumption) | with_reducible exact parts_le (by assumption) | with_reducible exact parts_ge (by assumption))) (by kernel_rfl) ?_
        refine H.kb 0 (fun b => b) (b := (inB (wr IntKind.i64 (wi (List.getD x1 (0 + Int.toNat (↑i : Int)) 0) 549755813888 + wi (List.getD x2 (0 + Int.toNat (↑i : Int)) 0) 549755813888)) 1099511627776)) (d := true) (by (first | assumption | omega | with_reducible exact wib | with_reducible exact wib2 | with_reducible exact goMayw (by assumption) | with_reducible exact parts_eq (by assumption) | with_reducible exact parts_le (by assumption) | with_reducible exact parts_ge (by assumption))) (by kernel_rfl) ?_
        refine H.kb 36 (fun b => ((!b) == false)) (b := (goL (goL l c f e d (wi (List.getD x1 (0 + Int.toNat (↑i : Int)) 0) 549755813888)) c f e (goD e d (wi (List.getD x1 (0 + Int.toNat (↑i : Int)) 0) 549755813888)) (wi (List.getD x2 (0 + Int.toNat (↑i : Int)) 0) 549755813888) == goL l c f e d (wr IntKind.i64 (wi (List.getD x1 (0 + Int.toNat (↑i : Int)) 0) 549755813888 + wi (List.getD x2 (0 + Int.toNat (↑i : Int)) 0) 549755813888)) && (c == c && (f == f && (e == e && (goD e (goD e d (wi (List.getD x1 (0 + Int.toNat (↑i : Int)) 0) 549755813888)) (wi (List.getD x2 (0 + Int.toNat (↑i : Int)) 0) 549755813888) == goD e d (wr IntKind.i64 (wi (List.getD x1 (0 + Int.toNat (↑i : Int)) 0) 549755813888 + wi (List.getD x2 (0 + Int.toNat (↑i : Int)) 0) 549755813888)) && true)))))) (d := true) (by (first | assumption | omega | with_reducible exact wib | with_reducible exact wib2 | with_reducible exact goMayw (by assumption) | with_reducible exact parts_eq (by assumption) | with_reducible exact parts_le (by assumption) | with_reducible exact parts_ge (by assumption))) (by kernel_rfl) ?_
        refine H.nd 8 (fun b => (b == false)) (goL l c f e d (wr IntKind.i64 (wi (List.getD x1 (0 + Int.toNat (↑i : Int)) 0) 549755813888 + wi (List.getD x2 (0 + Int.toNat (↑i : Int)) 0) 549755813888)) > c) (by (first | assumption | omega | with_reducible exact wib | with_reducible exact wib2 | with_reducible exact goMayw (by assumption) | with_reducible exact parts_eq (by assumption) | with_reducible exact parts_le (by assumption) | with_reducible exact parts_ge (by assumption))) (by kernel_rfl) ?_
        refine H.nd 10 (fun b => b) (goL l c f e d (wr IntKind.i64 (wi (List.getD x1 (0 + Int.toNat (↑i : Int)) 0) 549755813888 + wi (List.getD x2 (0 + Int.toNat (↑i : Int)) 0) 549755813888)) < l) (by (first | assumption | omega | with_reducible exact wib | with_reducible exact wib2 | with_reducible exact goMayw (by assumption) | with_reducible exact parts_eq (by assumption) | with_reducible exact parts_le (by assumption) | with_reducible exact parts_ge (by assumption))) (by kernel_rfl) ?_
        refine H.lf (f := oc2) 2 (Sum.inl ([AV.ptr 1 0 0, AV.i IntKind.i64 (wr IntKind.i64 ((↑i : Int) + 1)), AV.top, AV.top, AV.top], 1, [AObj.ro nl n [Col.ci IntKind.i64 x0, Col.ci IntKind.i64 x1, Col.ci IntKind.i64 x2, Col.ci IntKind.i64 x3], AObj.own 51 6 [AV.i IntKind.i64 l, AV.i IntKind.i64 c, AV.i IntKind.i64 f, AV.i IntKind.i64 e, AV.i IntKind.i64 d, AV.sl 0 0 n (some cap)]])) (by kernel_rfl) ?_
        first | exact ag (by omega) | exact ex _
       ·
        refine H.lf (f := oc2) 25 (Sum.inr (Sum.inr ([0, 1, 0, 1, 1, 1, 1], 4, [AV.ptr 1 0 0, AV.i IntKind.i64 (↑i : Int), AV.ptr 2 0 0, AV.ptr 3 0 0, AV.i IntKind.i64 1], 1, [AObj.ro nl n [Col.ci IntKind.i64 x0, Col.ci IntKind.i64 x1, Col.ci IntKind.i64 x2, Col.ci IntKind.i64 x3], AObj.own 51 6 [AV.i IntKind.i64 l, AV.i IntKind.i64 c, AV.i IntKind.i64 f, AV.i IntKind.i64 e, AV.i IntKind.i64 d, AV.sl 0 0 n (some cap)], AObj.own 48 5 [AV.i IntKind.i64 l, AV.i IntKind.i64 c, AV.i IntKind.i64 f, AV.i IntKind.i64 e, AV.i IntKind.i64 d], AObj.own 48 5 [AV.i IntKind.i64 l, AV.i IntKind.i64 c, AV.i IntKind.i64 f, AV.i IntKind.i64 e, AV.i IntKind.i64 d]]))) (by kernel_rfl) ?_
        first | exact ag (by omega) | exact ex _
      ·
       refine H.lf (f := oc2) 28 (Sum.inr (Sum.inr ([0, 1, 0, 1, 1, 1, 1], 4, [AV.ptr 1 0 0, AV.i IntKind.i64 (↑i : Int), AV.ptr 2 0 0, AV.ptr 3 0 0, AV.i IntKind.i64 1], 1, [AObj.ro nl n [Col.ci IntKind.i64 x0, Col.ci IntKind.i64 x1, Col.ci IntKind.i64 x2, Col.ci IntKind.i64 x3], AObj.own 51 6 [AV.i IntKind.i64 l, AV.i IntKind.i64 c, AV.i IntKind.i64 f, AV.i IntKind.i64 e, AV.i IntKind.i64 d, AV.sl 0 0 n (some cap)], AObj.own 48 5 [AV.i IntKind.i64 l, AV.i IntKind.i64 c, AV.i IntKind.i64 f, AV.i IntKind.i64 e, AV.i IntKind.i64 d], AObj.own 48 5 [AV.i IntKind.i64 l, AV.i IntKind.i64 c, AV.i IntKind.i64 f, AV.i IntKind.i64 e, AV.i IntKind.i64 d]]))) (by kernel_rfl) ?_
       first | exact ag (by omega) | exact ex _
    · rintro m _ ⟨i, j, hj, hmm, rfl⟩
      refine lawL_Q ?_
      have hX : mayB (goL l c f e d j) c f e (goD e d j) = true := goMay hm (inT.2 ⟨by omega, by omega⟩)
      obtain ⟨hgo, hgd⟩ := go_two hm (n := (j : Int)) (k := 1) (by omega) (by omega)
      rw [show (j : Int) + 1 = ((j + 1 : Nat) : Int) by omega] at hgo hgd
      have ag : ∀ {G : Stop → Prop}, j < 40 → OkL (fun s' => ∃ m', m' < m ∧ Inv7B l c f e d nl n cap x0 x1 x2 x3 m' s') G (.inl ([.ptr 1 0 0, iv i, .ptr 2 0 0, .ptr 3 0 0, iv (wr .i64 (((j + 1 : Nat) : Int) + 1))], 1, [.ro nl n [.ci .i64 x0, .ci .i64 x1, .ci .i64 x2, .ci .i64 x3], .own 51 6 [iv l, iv c, iv f, iv e, iv d, .sl 0 0 n (some cap)], .own 48 5 [iv (goL (goL l c f e d j) c f e (goD e d j) 1), iv c, iv f, iv e, iv (goD e (goD e d j) 1)], .own 48 5 [iv (goL l c f e d ((j + 1 : Nat) : Int)), iv c, iv f, iv e, iv (goD e d ((j + 1 : Nat) : Int))]])) := fun h => by
        have hlt : 40 - (j + 1) < m := by omega
        exact ⟨_, hlt, i, j + 1, by omega, rfl, by rw [wr64 (by omega) (by omega), hgo, hgd]; rfl⟩
      generalize hXe : goL l c f e d (j : Int) = X at *
      generalize hYe : goD e d (j : Int) = Y at *
      generalize hje : j + 1 = J at *
      refine H.sd 1 (fun b => b) ((↑J : Int) ≤ 40) (by kernel_rfl) (fun h1 => ?_) (fun h1 => ?_)
      ·
       refine H.kb 0 (fun b => b) (b := (mayB X c f e Y)) (d := true) (by (first | assumption | omega | with_reducible exact inb1 | with_reducible exact inbj (by assumption) | with_reducible exact eq5 hgo hgd | with_reducible exact eq5 rfl rfl)) (by kernel_rfl) ?_
       refine H.kb 14 (fun b => b) (b := (mayB l c f e d)) (d := true) (by (first | assumption | omega | with_reducible exact inb1 | with_reducible exact inbj (by assumption) | with_reducible exact eq5 hgo hgd | with_reducible exact eq5 rfl rfl)) (by kernel_rfl) ?_
       refine H.kb 0 (fun b => b) (b := (inB (↑J : Int) 1099511627776)) (d := true) (by (first | assumption | omega | with_reducible exact inb1 | with_reducible exact inbj (by assumption) | with_reducible exact eq5 hgo hgd | with_reducible exact eq5 rfl rfl)) (by kernel_rfl) ?_
       refine H.kb 30 (fun b => (!b)) (b := (goL X c f e Y 1 == goL l c f e d (↑J : Int) && (c == c && (f == f && (e == e && (goD e Y 1 == goD e d (↑J : Int) && true)))))) (d := true) (by (first | assumption | omega | with_reducible exact inb1 | with_reducible exact inbj (by assumption) | with_reducible exact eq5 hgo hgd | with_reducible exact eq5 rfl rfl)) (by kernel_rfl) ?_
       refine H.lf (f := oc2) 19 (Sum.inl ([AV.ptr 1 0 0, AV.i IntKind.i64 i, AV.ptr 2 0 0, AV.ptr 3 0 0, AV.i IntKind.i64 (wr IntKind.i64 ((↑J : Int) + 1))], 1, [AObj.ro nl n [Col.ci IntKind.i64 x0, Col.ci IntKind.i64 x1, Col.ci IntKind.i64 x2, Col.ci IntKind.i64 x3], AObj.own 51 6 [AV.i IntKind.i64 l, AV.i IntKind.i64 c, AV.i IntKind.i64 f, AV.i IntKind.i64 e, AV.i IntKind.i64 d, AV.sl 0 0 n (some cap)], AObj.own 48 5 [AV.i IntKind.i64 (goL X c f e Y 1), AV.i IntKind.i64 c, AV.i IntKind.i64 f, AV.i IntKind.i64 e, AV.i IntKind.i64 (goD e Y 1)], AObj.own 48 5 [AV.i IntKind.i64 (goL l c f e d (↑J : Int)), AV.i IntKind.i64 c, AV.i IntKind.i64 f, AV.i IntKind.i64 e, AV.i IntKind.i64 (goD e d (↑J : Int))]])) (by kernel_rfl) ?_
       first | exact ag (by omega) | exact rfl
      ·
       refine H.kb 6 (fun b => (b == true)) (b := (X == X && (c == c && (f == f && (e == e && (Y == Y && true)))))) (d := true) (by (first | assumption | omega | with_reducible exact inb1 | with_reducible exact inbj (by assumption) | with_reducible exact eq5 hgo hgd | with_reducible exact eq5 rfl rfl)) (by kernel_rfl) ?_
       refine H.lf (f := oc2) 53 (Sum.inr (Sum.inl (AV.b true))) (by kernel_rfl) ?_
       first | exact ag (by omega) | exact rfl
end
end Go.Proofs.TabA
