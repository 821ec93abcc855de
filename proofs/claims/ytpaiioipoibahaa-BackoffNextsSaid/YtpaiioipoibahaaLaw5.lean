/- The law's loop, round by round, and the arithmetic that it asks for, for all inputs of the law. -/
import Derived.Test.YtpaiioipoibahaaArgD
import Derived.Test.YtpaiioipoibahaaBkC
set_option linter.all false
set_option linter.deprecated false
set_option maxRecDepth 1000000
set_option maxHeartbeats 4000000
namespace Go.Proofs.TabA
open Go Go.Eng
noncomputable def wN (l : List Int) : Nat → Int
  | 0 => 0
  | k + 1 => if l.getD k 0 > wN l k then l.getD k 0 else wN l k
theorem wN_mx {l : List Int} {n : Nat} (h : bkB l n = true) (k : Nat) (hk : k < n) : wN l (k + 1) = mxL l k := by
  obtain ⟨_, _, h3⟩ := bkT.1 h
  induction k with
  | zero =>
    show (if l.getD 0 0 > 0 then l.getD 0 0 else 0) = l.getD 0 0
    rw [if_pos]
    have := (h3 0 hk).1
    omega
  | succ k ih =>
    show (if l.getD (k + 1) 0 > wN l (k + 1) then l.getD (k + 1) 0 else wN l (k + 1)) = (if l.getD (k + 1) 0 > mxL l k then l.getD (k + 1) 0 else mxL l k)
    rw [ih (by omega)]
attribute [local irreducible] bkB tq mxL nxV
section
variable {nl nl2 : Bool} {n cap n2 cap2 : Nat} {l q : List Int}
def InvB5 (l : List Int) (n : Nat) (IN : AV) (ob : List AObj) (m : Nat) (s : St3) : Prop := ∃ (j : Nat) (a1 a2 a3 a4 : AV), j ≤ 20 ∧ m = 20 - j ∧ s = ([.ptr 2 0 0, .b (bkB l n), IN, a1, a2, a3, a4, iv j], 2, ob)
theorem agB5 {IN : AV} {ob : List AObj} {m j : Nat} {a1 a2 a3 a4 : AV} {G : Stop → Prop} (hmj : m = 20 - j) (h : j < 20) : OkL (fun s' => ∃ m', m' < m ∧ InvB5 l n IN ob m' s') G (.inl ([.ptr 2 0 0, .b (bkB l n), IN, a1, a2, a3, a4, iv (wr .i64 ((j : Int) + 1))], 2, ob)) := by
  have hlt : 20 - (j + 1) < m := by omega
  exact ⟨_, hlt, j + 1, _, _, _, _, by omega, rfl, by rw [wrM (by omega)]⟩
theorem toB5 {IN : AV} {ob : List AObj} {bs : Nat} {a1 a2 a3 a4 : AV} {I : St3 → Prop} : OkL I (fun t => t.1 = [0, 1, 0, 1, 1, 1, 1, 1, 1, 1, 1, 1, 1] ∧ t.2.1 = bs ∧ ∃ m, m < 1048576 ∧ InvB5 l n IN ob m t.2.2) (.inr (.inr ([0, 1, 0, 1, 1, 1, 1, 1, 1, 1, 1, 1, 1], bs, [.ptr 2 0 0, .b (bkB l n), IN, a1, a2, a3, a4, iv 0], 2, ob))) :=
  ⟨rfl, rfl, 20, by omega, 0, _, _, _, _, by omega, rfl, rfl⟩
def InvA5 (l : List Int) (n : Nat) (IN : AV) (ob : List AObj) (m : Nat) (s : St3) : Prop := ∃ a : AV, s = ([.ptr 2 0 0, .b (bkB l n), IN, iv 0, iv 1, iv 0, iv 0, a], 2, ob)
def InvW5 (l : List Int) (n : Nat) (IN : AV) (ob : List AObj) (m : Nat) (s : St3) : Prop := ∃ (k : Nat) (a : AV), k ≤ n ∧ m = n - k ∧ s = ([.ptr 2 0 0, .b (bkB l n), IN, iv (mxL (tq l n) (n - 1)), iv 0, iv (wN l k), iv k, a], 2, ob)
theorem agW5 {IN : AV} {ob : List AObj} {m k : Nat} {a : AV} {G : Stop → Prop} (hsz : n ≤ 2000) (hmk : m = n - k) (h : k < n) : OkL (fun s' => ∃ m', m' < m ∧ InvW5 l n IN ob m' s') G (.inl ([.ptr 2 0 0, .b (bkB l n), IN, iv (mxL (tq l n) (n - 1)), iv 0, iv (if l.getD (0 + Int.toNat (k : Int)) 0 > wN l k then l.getD (0 + Int.toNat (k : Int)) 0 else wN l k), iv (wr .i64 ((k : Int) + 1)), a], 2, ob)) := by
  have hlt : n - (k + 1) < m := by omega
  have e : 0 + Int.toNat (k : Int) = k := by omega
  refine ⟨_, hlt, k + 1, a, by omega, rfl, ?_⟩
  rw [wrM (by omega), e]
  rfl
theorem sA51 (hsz : n ≤ 2000) (hn : n = 0) (hb : bkB l n = false) (m : Nat) (s : St3) (hi : InvA5 l n (.v (.slice none 0 0)) [.ro nl n [.ci .i64 l], .ro nl2 n2 [.ci .i64 q], .own 35 2 [.sl 0 0 n (some cap), .sl 1 0 n2 (some cap2)]] m s) : H (lawL S8 (fi5 false) 2 [1,1,1,1,1,1,1,1,0,1,0] 3 [.agg [.sl 0 0 n (some cap), .sl 1 0 n2 (some cap2)]] s) (OkS (fun s' => ∃ m', m' < m ∧ InvA5 l n (.v (.slice none 0 0)) [.ro nl n [.ci .i64 l], .ro nl2 n2 [.ci .i64 q], .own 35 2 [.sl 0 0 n (some cap), .sl 1 0 n2 (some cap2)]] m' s') (OkT (fun t => t.1 = [0, 1, 0, 1, 1, 1, 1, 1, 1, 1, 1, 1, 1] ∧ t.2.1 = 3 ∧ ∃ m, m < 1048576 ∧ InvB5 l n (.v (.slice none 0 0)) [.ro nl n [.ci .i64 l], .ro nl2 n2 [.ci .i64 q], .own 35 2 [.sl 0 0 n (some cap), .sl 1 0 n2 (some cap2)]] m t.2.2))) F0 := by
  obtain ⟨a, rfl⟩ := hi
  refine lawL_Q ?_
  refine H.nd 2 (fun b => (b == true)) (0 < (↑n : Int)) (by (first | assumption | omega)) (by kernel_rfl) ?_
  refine H.kb 4 (fun b => ((!(b == false)) == false)) (b := (bkB l n)) (d := false) (by (first | assumption | omega)) (by kernel_rfl) ?_
  refine H.kb 2 (fun b => ((!b) == true)) (b := (bkB l n)) (d := false) (by (first | assumption | omega)) (by kernel_rfl) ?_
  refine H.lf (f := oc2) 13 (Sum.inr (Sum.inr ([0, 1, 0, 1, 1, 1, 1, 1, 1, 1, 1, 1, 1], 3, [AV.ptr 2 0 0, AV.b (bkB l n), AV.v (Value.slice none 0 0), AV.i IntKind.i64 0, AV.i IntKind.i64 1, AV.i IntKind.i64 0, AV.i IntKind.i64 0, AV.i IntKind.i64 0], 2, [AObj.ro nl n [Col.ci IntKind.i64 l], AObj.ro nl2 n2 [Col.ci IntKind.i64 q], AObj.own 35 2 [AV.sl 0 0 n (some cap), AV.sl 1 0 n2 (some cap2)]]))) (by kernel_rfl) ?_
  exact toB5
theorem sB51 (hsz : n ≤ 2000) (hn : n = 0) (hb : bkB l n = false) (m : Nat) (s : St3) (hi : InvB5 l n (.v (.slice none 0 0)) [.ro nl n [.ci .i64 l], .ro nl2 n2 [.ci .i64 q], .own 35 2 [.sl 0 0 n (some cap), .sl 1 0 n2 (some cap2)]] m s) : H (lawL S8 (fi5 false) 2 [1,1,1,1,1,1,1,1,1,1,0,1,0] 3 [.agg [.sl 0 0 n (some cap), .sl 1 0 n2 (some cap2)]] s) (OkS (fun s' => ∃ m', m' < m ∧ InvB5 l n (.v (.slice none 0 0)) [.ro nl n [.ci .i64 l], .ro nl2 n2 [.ci .i64 q], .own 35 2 [.sl 0 0 n (some cap), .sl 1 0 n2 (some cap2)]] m' s') (OkT (fun _ => False))) F0 := by
  obtain ⟨j, a1, a2, a3, a4, hj, hmj, rfl⟩ := hi
  refine lawL_Q ?_
  refine H.sd 2 (fun b => (b == true)) ((↑j : Int) < (↑n2 : Int)) (by kernel_rfl) (fun h1 => ?_) (fun h1 => ?_)
  ·
   refine H.sd 3 (fun b => b) ((↑j : Int) < 20) (by kernel_rfl) (fun h2 => ?_) (fun h2 => ?_)
   ·
    refine H.kb 0 (fun b => (b == true)) (b := (bkB l n)) (d := false) (by (first | assumption | omega | exact ⟨by assumption, by omega, by omega⟩ | exact ⟨by omega, by assumption, by omega, by omega⟩ | (rw [hb]; simp; done) | (rw [hbq]; simp; done) | exact nx_tq (by omega) (by omega) | exact fun i hi => tq_get _ _ _ hi)) (by kernel_rfl) ?_
    refine H.kd 17 (fun b => b) ((↑j : Int) < (↑n2 : Int)) (by (first | assumption | omega | exact ⟨by assumption, by omega, by omega⟩ | exact ⟨by omega, by assumption, by omega, by omega⟩ | (rw [hb]; simp; done) | (rw [hbq]; simp; done) | exact nx_tq (by omega) (by omega) | exact fun i hi => tq_get _ _ _ hi)) (by kernel_rfl) ?_
    refine H.kl 0 (fun b => b) (0 + Int.toNat (↑j : Int)) (n2) (by (first | assumption | omega | exact ⟨by assumption, by omega, by omega⟩ | exact ⟨by omega, by assumption, by omega, by omega⟩ | (rw [hb]; simp; done) | (rw [hbq]; simp; done) | exact nx_tq (by omega) (by omega) | exact fun i hi => tq_get _ _ _ hi)) (by kernel_rfl) ?_
    refine H.lf (f := oc2) 11 (Sum.inl ([AV.ptr 2 0 0, AV.b (bkB l n), AV.v (Value.slice none 0 0), a1, a2, a3, a4, AV.i IntKind.i64 (wr IntKind.i64 ((↑j : Int) + 1))], 2, [AObj.ro nl n [Col.ci IntKind.i64 l], AObj.ro nl2 n2 [Col.ci IntKind.i64 q], AObj.own 35 2 [AV.sl 0 0 n (some cap), AV.sl 1 0 n2 (some cap2)]])) (by kernel_rfl) ?_
    first | exact agB5 hmj (by omega) | exact rfl
   ·
    refine H.kd 2 (fun b => b) (n = 0) (by (first | assumption | omega | exact ⟨by assumption, by omega, by omega⟩ | exact ⟨by omega, by assumption, by omega, by omega⟩ | (rw [hb]; simp; done) | (rw [hbq]; simp; done) | exact nx_tq (by omega) (by omega) | exact fun i hi => tq_get _ _ _ hi)) (by kernel_rfl) ?_
    refine H.lf (f := oc2) 4 (Sum.inr (Sum.inl (AV.b true))) (by kernel_rfl) ?_
    first | exact agB5 hmj (by omega) | exact rfl
  ·
   refine H.kd 5 (fun b => b) (n = 0) (by (first | assumption | omega | exact ⟨by assumption, by omega, by omega⟩ | exact ⟨by omega, by assumption, by omega, by omega⟩ | (rw [hb]; simp; done) | (rw [hbq]; simp; done) | exact nx_tq (by omega) (by omega) | exact fun i hi => tq_get _ _ _ hi)) (by kernel_rfl) ?_
   refine H.lf (f := oc2) 4 (Sum.inr (Sum.inl (AV.b true))) (by kernel_rfl) ?_
   first | exact agB5 hmj (by omega) | exact rfl
theorem sA52 (hsz : n ≤ 2000) (hn : 0 < n) (hb : bkB l n = true) (hbq : bkB (tq l n) n = true) (hn6 : n ≤ 16) (m : Nat) (s : St3) (hi : InvW5 l n (.sl 3 0 n none) [.ro nl n [.ci .i64 l], .ro nl2 n2 [.ci .i64 q], .own 35 2 [.sl 0 0 n (some cap), .sl 1 0 n2 (some cap2)], .vec 3 n [.ci .i64 (tq l n)]] m s) : H (lawL S8 (fi5 false) 2 [1,1,1,1,1,1,1,1,0,1,0] 4 [.agg [.sl 0 0 n (some cap), .sl 1 0 n2 (some cap2)]] s) (OkS (fun s' => ∃ m', m' < m ∧ InvW5 l n (.sl 3 0 n none) [.ro nl n [.ci .i64 l], .ro nl2 n2 [.ci .i64 q], .own 35 2 [.sl 0 0 n (some cap), .sl 1 0 n2 (some cap2)], .vec 3 n [.ci .i64 (tq l n)]] m' s') (OkT (fun t => t.1 = [0, 1, 0, 1, 1, 1, 1, 1, 1, 1, 1, 1, 1] ∧ t.2.1 = 4 ∧ ∃ m, m < 1048576 ∧ InvB5 l n (.sl 3 0 n none) [.ro nl n [.ci .i64 l], .ro nl2 n2 [.ci .i64 q], .own 35 2 [.sl 0 0 n (some cap), .sl 1 0 n2 (some cap2)], .vec 3 n [.ci .i64 (tq l n)]] m t.2.2))) F0 := by
  obtain ⟨k, a, hk, hmk, rfl⟩ := hi
  have hend : ¬ (k : Int) < (n : Int) → mxL (tq l n) (n - 1) = wN l k := by
    intro h
    obtain rfl : k = n := by omega
    rw [mx_tq (by omega), show k = (k - 1) + 1 by omega, wN_mx hb (k - 1) (by omega), Nat.add_sub_cancel]
  refine lawL_Q ?_
  refine H.sd 2 (fun b => (b == true)) ((↑k : Int) < (↑n : Int)) (by kernel_rfl) (fun h1 => ?_) (fun h1 => ?_)
  ·
   refine H.kb 1 (fun b => b) (b := (bkB l n)) (d := true) (by (first | assumption | omega | exact hend (by assumption))) (by kernel_rfl) ?_
   refine H.kd 3 (fun b => b) ((↑k : Int) < (↑n : Int)) (by (first | assumption | omega | exact hend (by assumption))) (by kernel_rfl) ?_
   refine H.kl 0 (fun b => b) (0 + Int.toNat (↑k : Int)) (n) (by (first | assumption | omega | exact hend (by assumption))) (by kernel_rfl) ?_
   refine H.lf (f := oc2) 1 (Sum.inl ([AV.ptr 2 0 0, AV.b (bkB l n), AV.sl 3 0 n none, AV.i IntKind.i64 (mxL (tq l n) (n - 1)), AV.i IntKind.i64 0, AV.i IntKind.i64 (if List.getD l (0 + Int.toNat (↑k : Int)) 0 > (wN l k) then List.getD l (0 + Int.toNat (↑k : Int)) 0 else (wN l k)), AV.i IntKind.i64 (wr IntKind.i64 ((↑k : Int) + 1)), a], 2, [AObj.ro nl n [Col.ci IntKind.i64 l], AObj.ro nl2 n2 [Col.ci IntKind.i64 q], AObj.own 35 2 [AV.sl 0 0 n (some cap), AV.sl 1 0 n2 (some cap2)], AObj.vec 3 n [Col.ci IntKind.i64 (tq l n)]])) (by kernel_rfl) ?_
   first | exact agW5 hsz hmk (by omega) | exact toB5
  ·
   refine H.kb 4 (fun b => ((!(b == true)) == false)) (b := (bkB l n)) (d := true) (by (first | assumption | omega | exact hend (by assumption))) (by kernel_rfl) ?_
   refine H.kb 2 (fun b => ((!b) == true)) (b := (bkB l n)) (d := true) (by (first | assumption | omega | exact hend (by assumption))) (by kernel_rfl) ?_
   refine H.ke 10 (fun b => (!b)) (mxL (tq l n) (n - 1)) ((wN l k)) (by (first | assumption | omega | exact hend (by assumption))) (by kernel_rfl) ?_
   refine H.lf (f := oc2) 0 (Sum.inr (Sum.inr ([0, 1, 0, 1, 1, 1, 1, 1, 1, 1, 1, 1, 1], 4, [AV.ptr 2 0 0, AV.b (bkB l n), AV.sl 3 0 n none, AV.i IntKind.i64 (mxL (tq l n) (n - 1)), AV.i IntKind.i64 0, AV.i IntKind.i64 (wN l k), AV.i IntKind.i64 (↑k : Int), AV.i IntKind.i64 0], 2, [AObj.ro nl n [Col.ci IntKind.i64 l], AObj.ro nl2 n2 [Col.ci IntKind.i64 q], AObj.own 35 2 [AV.sl 0 0 n (some cap), AV.sl 1 0 n2 (some cap2)], AObj.vec 3 n [Col.ci IntKind.i64 (tq l n)]]))) (by kernel_rfl) ?_
   first | exact agW5 hsz hmk (by omega) | exact toB5
theorem sB52 (hsz : n ≤ 2000) (hn : 0 < n) (hb : bkB l n = true) (hbq : bkB (tq l n) n = true) (hn6 : n ≤ 16) (m : Nat) (s : St3) (hi : InvB5 l n (.sl 3 0 n none) [.ro nl n [.ci .i64 l], .ro nl2 n2 [.ci .i64 q], .own 35 2 [.sl 0 0 n (some cap), .sl 1 0 n2 (some cap2)], .vec 3 n [.ci .i64 (tq l n)]] m s) : H (lawL S8 (fi5 false) 2 [1,1,1,1,1,1,1,1,1,1,0,1,0] 4 [.agg [.sl 0 0 n (some cap), .sl 1 0 n2 (some cap2)]] s) (OkS (fun s' => ∃ m', m' < m ∧ InvB5 l n (.sl 3 0 n none) [.ro nl n [.ci .i64 l], .ro nl2 n2 [.ci .i64 q], .own 35 2 [.sl 0 0 n (some cap), .sl 1 0 n2 (some cap2)], .vec 3 n [.ci .i64 (tq l n)]] m' s') (OkT (fun _ => False))) F0 := by
  obtain ⟨j, a1, a2, a3, a4, hj, hmj, rfl⟩ := hi
  refine lawL_Q ?_
  refine H.sd 2 (fun b => (b == true)) ((↑j : Int) < (↑n2 : Int)) (by kernel_rfl) (fun h1 => ?_) (fun h1 => ?_)
  ·
   refine H.sd 3 (fun b => b) ((↑j : Int) < 20) (by kernel_rfl) (fun h2 => ?_) (fun h2 => ?_)
   ·
    refine H.kb 0 (fun b => (b == true)) (b := (bkB l n)) (d := true) (by (first | assumption | omega | exact ⟨by assumption, by omega, by omega⟩ | exact ⟨by omega, by assumption, by omega, by omega⟩ | (rw [hb]; simp; done) | (rw [hbq]; simp; done) | exact nx_tq (by omega) (by omega) | exact fun i hi => tq_get _ _ _ hi)) (by kernel_rfl) ?_
    refine H.kd 6 (fun b => b) ((↑j : Int) < (↑n2 : Int)) (by (first | assumption | omega | exact ⟨by assumption, by omega, by omega⟩ | exact ⟨by omega, by assumption, by omega, by omega⟩ | (rw [hb]; simp; done) | (rw [hbq]; simp; done) | exact nx_tq (by omega) (by omega) | exact fun i hi => tq_get _ _ _ hi)) (by kernel_rfl) ?_
    refine H.kl 1 (fun b => b) (0 + Int.toNat (↑j : Int)) (n2) (by (first | assumption | omega | exact ⟨by assumption, by omega, by omega⟩ | exact ⟨by omega, by assumption, by omega, by omega⟩ | (rw [hb]; simp; done) | (rw [hbq]; simp; done) | exact nx_tq (by omega) (by omega) | exact fun i hi => tq_get _ _ _ hi)) (by kernel_rfl) ?_
    refine H.sd 3 (fun b => (b == true)) (List.getD q (0 + Int.toNat (↑j : Int)) 0 ≥ 1) (by kernel_rfl) (fun h3 => ?_) (fun h3 => ?_)
    ·
     refine H.kd 6 (fun b => b) ((↑j : Int) < (↑n2 : Int)) (by (first | assumption | omega | exact ⟨by assumption, by omega, by omega⟩ | exact ⟨by omega, by assumption, by omega, by omega⟩ | (rw [hb]; simp; done) | (rw [hbq]; simp; done) | exact nx_tq (by omega) (by omega) | exact fun i hi => tq_get _ _ _ hi)) (by kernel_rfl) ?_
     refine H.kl 1 (fun b => b) (0 + Int.toNat (↑j : Int)) (n2) (by (first | assumption | omega | exact ⟨by assumption, by omega, by omega⟩ | exact ⟨by omega, by assumption, by omega, by omega⟩ | (rw [hb]; simp; done) | (rw [hbq]; simp; done) | exact nx_tq (by omega) (by omega) | exact fun i hi => tq_get _ _ _ hi)) (by kernel_rfl) ?_
     refine H.sd 3 (fun b => b) (List.getD q (0 + Int.toNat (↑j : Int)) 0 ≤ 1048576) (by kernel_rfl) (fun h4 => ?_) (fun h4 => ?_)
     ·
      refine H.kd 10 (fun b => b) ((↑j : Int) < (↑n2 : Int)) (by (first | assumption | omega | exact ⟨by assumption, by omega, by omega⟩ | exact ⟨by omega, by assumption, by omega, by omega⟩ | (rw [hb]; simp; done) | (rw [hbq]; simp; done) | exact nx_tq (by omega) (by omega) | exact fun i hi => tq_get _ _ _ hi)) (by kernel_rfl) ?_
      refine H.kl 1 (fun b => b) (0 + Int.toNat (↑j : Int)) (n2) (by (first | assumption | omega | exact ⟨by assumption, by omega, by omega⟩ | exact ⟨by omega, by assumption, by omega, by omega⟩ | (rw [hb]; simp; done) | (rw [hbq]; simp; done) | exact nx_tq (by omega) (by omega) | exact fun i hi => tq_get _ _ _ hi)) (by kernel_rfl) ?_
      refine H.kd 4 (fun b => b) (n ≤ n ∧ bkB l n = true ∧ 1 ≤ List.getD q (0 + Int.toNat (↑j : Int)) 0 ∧ List.getD q (0 + Int.toNat (↑j : Int)) 0 ≤ 1048576) (by (first | assumption | omega | exact ⟨by assumption, by omega, by omega⟩ | exact ⟨by omega, by assumption, by omega, by omega⟩ | (rw [hb]; simp; done) | (rw [hbq]; simp; done) | exact nx_tq (by omega) (by omega) | exact fun i hi => tq_get _ _ _ hi)) (by kernel_rfl) ?_
      refine H.kd 4 (fun b => b) ((↑j : Int) < (↑n2 : Int)) (by (first | assumption | omega | exact ⟨by assumption, by omega, by omega⟩ | exact ⟨by omega, by assumption, by omega, by omega⟩ | (rw [hb]; simp; done) | (rw [hbq]; simp; done) | exact nx_tq (by omega) (by omega) | exact fun i hi => tq_get _ _ _ hi)) (by kernel_rfl) ?_
      refine H.kl 0 (fun b => b) (0 + Int.toNat (↑j : Int)) (n2) (by (first | assumption | omega | exact ⟨by assumption, by omega, by omega⟩ | exact ⟨by omega, by assumption, by omega, by omega⟩ | (rw [hb]; simp; done) | (rw [hbq]; simp; done) | exact nx_tq (by omega) (by omega) | exact fun i hi => tq_get _ _ _ hi)) (by kernel_rfl) ?_
      refine H.kd 1 (fun b => b) (n ≤ n) (by (first | assumption | omega | exact ⟨by assumption, by omega, by omega⟩ | exact ⟨by omega, by assumption, by omega, by omega⟩ | (rw [hb]; simp; done) | (rw [hbq]; simp; done) | exact nx_tq (by omega) (by omega) | exact fun i hi => tq_get _ _ _ hi)) (by kernel_rfl) ?_
      refine H.kd 0 (fun b => b) (bkB (tq l n) n = true ∧ 1 ≤ List.getD q (0 + Int.toNat (↑j : Int)) 0 ∧ List.getD q (0 + Int.toNat (↑j : Int)) 0 ≤ 1048576) (by (first | assumption | omega | exact ⟨by assumption, by omega, by omega⟩ | exact ⟨by omega, by assumption, by omega, by omega⟩ | (rw [hb]; simp; done) | (rw [hbq]; simp; done) | exact nx_tq (by omega) (by omega) | exact fun i hi => tq_get _ _ _ hi)) (by kernel_rfl) ?_
      refine H.ke 8 (fun b => (!b)) (nxV (tq l n) n (List.getD q (0 + Int.toNat (↑j : Int)) 0)) (nxV l n (List.getD q (0 + Int.toNat (↑j : Int)) 0)) (by (first | assumption | omega | exact ⟨by assumption, by omega, by omega⟩ | exact ⟨by omega, by assumption, by omega, by omega⟩ | (rw [hb]; simp; done) | (rw [hbq]; simp; done) | exact nx_tq (by omega) (by omega) | exact fun i hi => tq_get _ _ _ hi)) (by kernel_rfl) ?_
      refine H.lf (f := oc2) 1 (Sum.inl ([AV.ptr 2 0 0, AV.b (bkB l n), AV.sl 3 0 n none, a1, a2, a3, a4, AV.i IntKind.i64 (wr IntKind.i64 ((↑j : Int) + 1))], 2, [AObj.ro nl n [Col.ci IntKind.i64 l], AObj.ro nl2 n2 [Col.ci IntKind.i64 q], AObj.own 35 2 [AV.sl 0 0 n (some cap), AV.sl 1 0 n2 (some cap2)], AObj.vec 3 n [Col.ci IntKind.i64 (tq l n)]])) (by kernel_rfl) ?_
      first | exact agB5 hmj (by omega) | exact rfl
     ·
      refine H.kd 3 (fun b => b) ((↑j : Int) < (↑n2 : Int)) (by (first | assumption | omega | exact ⟨by assumption, by omega, by omega⟩ | exact ⟨by omega, by assumption, by omega, by omega⟩ | (rw [hb]; simp; done) | (rw [hbq]; simp; done) | exact nx_tq (by omega) (by omega) | exact fun i hi => tq_get _ _ _ hi)) (by kernel_rfl) ?_
      refine H.kl 0 (fun b => b) (0 + Int.toNat (↑j : Int)) (n2) (by (first | assumption | omega | exact ⟨by assumption, by omega, by omega⟩ | exact ⟨by omega, by assumption, by omega, by omega⟩ | (rw [hb]; simp; done) | (rw [hbq]; simp; done) | exact nx_tq (by omega) (by omega) | exact fun i hi => tq_get _ _ _ hi)) (by kernel_rfl) ?_
      refine H.kd 1 (fun b => b) (n ≤ n) (by (first | assumption | omega | exact ⟨by assumption, by omega, by omega⟩ | exact ⟨by omega, by assumption, by omega, by omega⟩ | (rw [hb]; simp; done) | (rw [hbq]; simp; done) | exact nx_tq (by omega) (by omega) | exact fun i hi => tq_get _ _ _ hi)) (by kernel_rfl) ?_
      refine H.nd 0 (fun b => b) (bkB (tq l n) n = true ∧ 1 ≤ List.getD q (0 + Int.toNat (↑j : Int)) 0 ∧ List.getD q (0 + Int.toNat (↑j : Int)) 0 ≤ 1048576) (by (first | assumption | omega | exact ⟨by assumption, by omega, by omega⟩ | exact ⟨by omega, by assumption, by omega, by omega⟩ | (rw [hb]; simp; done) | (rw [hbq]; simp; done) | exact nx_tq (by omega) (by omega) | exact fun i hi => tq_get _ _ _ hi)) (by kernel_rfl) ?_
      refine H.lf (f := oc2) 10 (Sum.inl ([AV.ptr 2 0 0, AV.b (bkB l n), AV.sl 3 0 n none, a1, a2, a3, a4, AV.i IntKind.i64 (wr IntKind.i64 ((↑j : Int) + 1))], 2, [AObj.ro nl n [Col.ci IntKind.i64 l], AObj.ro nl2 n2 [Col.ci IntKind.i64 q], AObj.own 35 2 [AV.sl 0 0 n (some cap), AV.sl 1 0 n2 (some cap2)], AObj.vec 3 n [Col.ci IntKind.i64 (tq l n)]])) (by kernel_rfl) ?_
      first | exact agB5 hmj (by omega) | exact rfl
    ·
     refine H.kd 10 (fun b => b) ((↑j : Int) < (↑n2 : Int)) (by (first | assumption | omega | exact ⟨by assumption, by omega, by omega⟩ | exact ⟨by omega, by assumption, by omega, by omega⟩ | (rw [hb]; simp; done) | (rw [hbq]; simp; done) | exact nx_tq (by omega) (by omega) | exact fun i hi => tq_get _ _ _ hi)) (by kernel_rfl) ?_
     refine H.kl 0 (fun b => b) (0 + Int.toNat (↑j : Int)) (n2) (by (first | assumption | omega | exact ⟨by assumption, by omega, by omega⟩ | exact ⟨by omega, by assumption, by omega, by omega⟩ | (rw [hb]; simp; done) | (rw [hbq]; simp; done) | exact nx_tq (by omega) (by omega) | exact fun i hi => tq_get _ _ _ hi)) (by kernel_rfl) ?_
     refine H.kd 1 (fun b => b) (n ≤ n) (by (first | assumption | omega | exact ⟨by assumption, by omega, by omega⟩ | exact ⟨by omega, by assumption, by omega, by omega⟩ | (rw [hb]; simp; done) | (rw [hbq]; simp; done) | exact nx_tq (by omega) (by omega) | exact fun i hi => tq_get _ _ _ hi)) (by kernel_rfl) ?_
     refine H.nd 0 (fun b => b) (bkB (tq l n) n = true ∧ 1 ≤ List.getD q (0 + Int.toNat (↑j : Int)) 0 ∧ List.getD q (0 + Int.toNat (↑j : Int)) 0 ≤ 1048576) (by (first | assumption | omega | exact ⟨by assumption, by omega, by omega⟩ | exact ⟨by omega, by assumption, by omega, by omega⟩ | (rw [hb]; simp; done) | (rw [hbq]; simp; done) | exact nx_tq (by omega) (by omega) | exact fun i hi => tq_get _ _ _ hi)) (by kernel_rfl) ?_
     refine H.lf (f := oc2) 10 (Sum.inl ([AV.ptr 2 0 0, AV.b (bkB l n), AV.sl 3 0 n none, a1, a2, a3, a4, AV.i IntKind.i64 (wr IntKind.i64 ((↑j : Int) + 1))], 2, [AObj.ro nl n [Col.ci IntKind.i64 l], AObj.ro nl2 n2 [Col.ci IntKind.i64 q], AObj.own 35 2 [AV.sl 0 0 n (some cap), AV.sl 1 0 n2 (some cap2)], AObj.vec 3 n [Col.ci IntKind.i64 (tq l n)]])) (by kernel_rfl) ?_
     first | exact agB5 hmj (by omega) | exact rfl
   ·
    refine H.kd 2 (fun b => b) (n = n ∧ n ≤ n ∧ n ≤ n ∧ n ≤ 2000) (by (first | assumption | omega | exact ⟨by assumption, by omega, by omega⟩ | exact ⟨by omega, by assumption, by omega, by omega⟩ | (rw [hb]; simp; done) | (rw [hbq]; simp; done) | exact nx_tq (by omega) (by omega) | exact fun i hi => tq_get _ _ _ hi)) (by kernel_rfl) ?_
    refine H.kd 0 (fun b => b) (∀ (i : Nat), i < n → List.getD (tq l n) i 0 = List.getD l i 0) (by (first | assumption | omega | exact ⟨by assumption, by omega, by omega⟩ | exact ⟨by omega, by assumption, by omega, by omega⟩ | (rw [hb]; simp; done) | (rw [hbq]; simp; done) | exact nx_tq (by omega) (by omega) | exact fun i hi => tq_get _ _ _ hi)) (by kernel_rfl) ?_
    refine H.lf (f := oc2) 4 (Sum.inr (Sum.inl (AV.b true))) (by kernel_rfl) ?_
    first | exact agB5 hmj (by omega) | exact rfl
  ·
   refine H.kd 5 (fun b => b) (n = n ∧ n ≤ n ∧ n ≤ n ∧ n ≤ 2000) (by (first | assumption | omega | exact ⟨by assumption, by omega, by omega⟩ | exact ⟨by omega, by assumption, by omega, by omega⟩ | (rw [hb]; simp; done) | (rw [hbq]; simp; done) | exact nx_tq (by omega) (by omega) | exact fun i hi => tq_get _ _ _ hi)) (by kernel_rfl) ?_
   refine H.kd 0 (fun b => b) (∀ (i : Nat), i < n → List.getD (tq l n) i 0 = List.getD l i 0) (by (first | assumption | omega | exact ⟨by assumption, by omega, by omega⟩ | exact ⟨by omega, by assumption, by omega, by omega⟩ | (rw [hb]; simp; done) | (rw [hbq]; simp; done) | exact nx_tq (by omega) (by omega) | exact fun i hi => tq_get _ _ _ hi)) (by kernel_rfl) ?_
   refine H.lf (f := oc2) 4 (Sum.inr (Sum.inl (AV.b true))) (by kernel_rfl) ?_
   first | exact agB5 hmj (by omega) | exact rfl
theorem sA53 (hsz : n ≤ 2000) (hn : 0 < n) (hb : bkB l n = false) (hbq : bkB (tq l n) n = false) (m : Nat) (s : St3) (hi : InvA5 l n (.sl 3 0 n none) [.ro nl n [.ci .i64 l], .ro nl2 n2 [.ci .i64 q], .own 35 2 [.sl 0 0 n (some cap), .sl 1 0 n2 (some cap2)], .vec 3 n [.ci .i64 (tq l n)]] m s) : H (lawL S8 (fi5 false) 2 [1,1,1,1,1,1,1,1,0,1,0] 4 [.agg [.sl 0 0 n (some cap), .sl 1 0 n2 (some cap2)]] s) (OkS (fun s' => ∃ m', m' < m ∧ InvA5 l n (.sl 3 0 n none) [.ro nl n [.ci .i64 l], .ro nl2 n2 [.ci .i64 q], .own 35 2 [.sl 0 0 n (some cap), .sl 1 0 n2 (some cap2)], .vec 3 n [.ci .i64 (tq l n)]] m' s') (OkT (fun t => t.1 = [0, 1, 0, 1, 1, 1, 1, 1, 1, 1, 1, 1, 1] ∧ t.2.1 = 4 ∧ ∃ m, m < 1048576 ∧ InvB5 l n (.sl 3 0 n none) [.ro nl n [.ci .i64 l], .ro nl2 n2 [.ci .i64 q], .own 35 2 [.sl 0 0 n (some cap), .sl 1 0 n2 (some cap2)], .vec 3 n [.ci .i64 (tq l n)]] m t.2.2))) F0 := by
  obtain ⟨a, rfl⟩ := hi
  refine lawL_Q ?_
  refine H.kd 2 (fun b => (b == true)) (0 < (↑n : Int)) (by (first | assumption | omega)) (by kernel_rfl) ?_
  refine H.kb 1 (fun b => b) (b := (bkB l n)) (d := false) (by (first | assumption | omega)) (by kernel_rfl) ?_
  refine H.kb 2 (fun b => ((!(b == false)) == false)) (b := (bkB l n)) (d := false) (by (first | assumption | omega)) (by kernel_rfl) ?_
  refine H.kb 2 (fun b => ((!b) == true)) (b := (bkB l n)) (d := false) (by (first | assumption | omega)) (by kernel_rfl) ?_
  refine H.lf (f := oc2) 13 (Sum.inr (Sum.inr ([0, 1, 0, 1, 1, 1, 1, 1, 1, 1, 1, 1, 1], 4, [AV.ptr 2 0 0, AV.b (bkB l n), AV.sl 3 0 n none, AV.i IntKind.i64 0, AV.i IntKind.i64 1, AV.i IntKind.i64 0, AV.i IntKind.i64 0, AV.i IntKind.i64 0], 2, [AObj.ro nl n [Col.ci IntKind.i64 l], AObj.ro nl2 n2 [Col.ci IntKind.i64 q], AObj.own 35 2 [AV.sl 0 0 n (some cap), AV.sl 1 0 n2 (some cap2)], AObj.vec 3 n [Col.ci IntKind.i64 (tq l n)]]))) (by kernel_rfl) ?_
  exact toB5
theorem sB53 (hsz : n ≤ 2000) (hn : 0 < n) (hb : bkB l n = false) (hbq : bkB (tq l n) n = false) (m : Nat) (s : St3) (hi : InvB5 l n (.sl 3 0 n none) [.ro nl n [.ci .i64 l], .ro nl2 n2 [.ci .i64 q], .own 35 2 [.sl 0 0 n (some cap), .sl 1 0 n2 (some cap2)], .vec 3 n [.ci .i64 (tq l n)]] m s) : H (lawL S8 (fi5 false) 2 [1,1,1,1,1,1,1,1,1,1,0,1,0] 4 [.agg [.sl 0 0 n (some cap), .sl 1 0 n2 (some cap2)]] s) (OkS (fun s' => ∃ m', m' < m ∧ InvB5 l n (.sl 3 0 n none) [.ro nl n [.ci .i64 l], .ro nl2 n2 [.ci .i64 q], .own 35 2 [.sl 0 0 n (some cap), .sl 1 0 n2 (some cap2)], .vec 3 n [.ci .i64 (tq l n)]] m' s') (OkT (fun _ => False))) F0 := by
  obtain ⟨j, a1, a2, a3, a4, hj, hmj, rfl⟩ := hi
  refine lawL_Q ?_
  refine H.sd 2 (fun b => (b == true)) ((↑j : Int) < (↑n2 : Int)) (by kernel_rfl) (fun h1 => ?_) (fun h1 => ?_)
  ·
   refine H.sd 3 (fun b => b) ((↑j : Int) < 20) (by kernel_rfl) (fun h2 => ?_) (fun h2 => ?_)
   ·
    refine H.kb 0 (fun b => (b == true)) (b := (bkB l n)) (d := false) (by (first | assumption | omega | exact ⟨by assumption, by omega, by omega⟩ | exact ⟨by omega, by assumption, by omega, by omega⟩ | (rw [hb]; simp; done) | (rw [hbq]; simp; done) | exact nx_tq (by omega) (by omega) | exact fun i hi => tq_get _ _ _ hi)) (by kernel_rfl) ?_
    refine H.kd 17 (fun b => b) ((↑j : Int) < (↑n2 : Int)) (by (first | assumption | omega | exact ⟨by assumption, by omega, by omega⟩ | exact ⟨by omega, by assumption, by omega, by omega⟩ | (rw [hb]; simp; done) | (rw [hbq]; simp; done) | exact nx_tq (by omega) (by omega) | exact fun i hi => tq_get _ _ _ hi)) (by kernel_rfl) ?_
    refine H.kl 0 (fun b => b) (0 + Int.toNat (↑j : Int)) (n2) (by (first | assumption | omega | exact ⟨by assumption, by omega, by omega⟩ | exact ⟨by omega, by assumption, by omega, by omega⟩ | (rw [hb]; simp; done) | (rw [hbq]; simp; done) | exact nx_tq (by omega) (by omega) | exact fun i hi => tq_get _ _ _ hi)) (by kernel_rfl) ?_
    refine H.kd 1 (fun b => b) (n ≤ n) (by (first | assumption | omega | exact ⟨by assumption, by omega, by omega⟩ | exact ⟨by omega, by assumption, by omega, by omega⟩ | (rw [hb]; simp; done) | (rw [hbq]; simp; done) | exact nx_tq (by omega) (by omega) | exact fun i hi => tq_get _ _ _ hi)) (by kernel_rfl) ?_
    refine H.nd 0 (fun b => b) (bkB (tq l n) n = true ∧ 1 ≤ List.getD q (0 + Int.toNat (↑j : Int)) 0 ∧ List.getD q (0 + Int.toNat (↑j : Int)) 0 ≤ 1048576) (by (first | assumption | omega | exact ⟨by assumption, by omega, by omega⟩ | exact ⟨by omega, by assumption, by omega, by omega⟩ | (rw [hb]; simp; done) | (rw [hbq]; simp; done) | exact nx_tq (by omega) (by omega) | exact fun i hi => tq_get _ _ _ hi)) (by kernel_rfl) ?_
    refine H.lf (f := oc2) 10 (Sum.inl ([AV.ptr 2 0 0, AV.b (bkB l n), AV.sl 3 0 n none, a1, a2, a3, a4, AV.i IntKind.i64 (wr IntKind.i64 ((↑j : Int) + 1))], 2, [AObj.ro nl n [Col.ci IntKind.i64 l], AObj.ro nl2 n2 [Col.ci IntKind.i64 q], AObj.own 35 2 [AV.sl 0 0 n (some cap), AV.sl 1 0 n2 (some cap2)], AObj.vec 3 n [Col.ci IntKind.i64 (tq l n)]])) (by kernel_rfl) ?_
    first | exact agB5 hmj (by omega) | exact rfl
   ·
    refine H.kd 2 (fun b => b) (n = n ∧ n ≤ n ∧ n ≤ n ∧ n ≤ 2000) (by (first | assumption | omega | exact ⟨by assumption, by omega, by omega⟩ | exact ⟨by omega, by assumption, by omega, by omega⟩ | (rw [hb]; simp; done) | (rw [hbq]; simp; done) | exact nx_tq (by omega) (by omega) | exact fun i hi => tq_get _ _ _ hi)) (by kernel_rfl) ?_
    refine H.kd 0 (fun b => b) (∀ (i : Nat), i < n → List.getD (tq l n) i 0 = List.getD l i 0) (by (first | assumption | omega | exact ⟨by assumption, by omega, by omega⟩ | exact ⟨by omega, by assumption, by omega, by omega⟩ | (rw [hb]; simp; done) | (rw [hbq]; simp; done) | exact nx_tq (by omega) (by omega) | exact fun i hi => tq_get _ _ _ hi)) (by kernel_rfl) ?_
    refine H.lf (f := oc2) 4 (Sum.inr (Sum.inl (AV.b true))) (by kernel_rfl) ?_
    first | exact agB5 hmj (by omega) | exact rfl
  ·
   refine H.kd 5 (fun b => b) (n = n ∧ n ≤ n ∧ n ≤ n ∧ n ≤ 2000) (by (first | assumption | omega | exact ⟨by assumption, by omega, by omega⟩ | exact ⟨by omega, by assumption, by omega, by omega⟩ | (rw [hb]; simp; done) | (rw [hbq]; simp; done) | exact nx_tq (by omega) (by omega) | exact fun i hi => tq_get _ _ _ hi)) (by kernel_rfl) ?_
   refine H.kd 0 (fun b => b) (∀ (i : Nat), i < n → List.getD (tq l n) i 0 = List.getD l i 0) (by (first | assumption | omega | exact ⟨by assumption, by omega, by omega⟩ | exact ⟨by omega, by assumption, by omega, by omega⟩ | (rw [hb]; simp; done) | (rw [hbq]; simp; done) | exact nx_tq (by omega) (by omega) | exact fun i hi => tq_get _ _ _ hi)) (by kernel_rfl) ?_
   refine H.lf (f := oc2) 4 (Sum.inr (Sum.inl (AV.b true))) (by kernel_rfl) ?_
   first | exact agB5 hmj (by omega) | exact rfl
theorem law5 (M : Mem) (hM : M = memL 2 [.ro nl n [.ci .i64 l], .ro nl2 n2 [.ci .i64 q]]) : H (ev S8 5 5 [.agg [.sl 0 0 n (some cap), .sl 1 0 n2 (some cap2)]] M) (fun x => x.1 = .b true) F0 := by
  subst hM
  by_cases hsz : n ≤ 2000
  · by_cases hn : n = 0
    · have hb : bkB l n = false := by cases e : bkB l n with | false => rfl | true => have := (bkT.1 e).1; omega
      refine lawSeq (fi := fi5 false) (by kernel_rfl) (by kernel_rfl) (by kernel_rfl) rfl [0, 1, 0, 1, 1, 1, 1, 1, 1, 1, 1] 3 [0, 1, 0, 1, 1, 1, 1, 1, 1, 1, 1, 1, 1] 3 2 rfl (by kernel_rfl) (by kernel_rfl) (InvA5 l n (.v (.slice none 0 0)) [.ro nl n [.ci .i64 l], .ro nl2 n2 [.ci .i64 q], .own 35 2 [.sl 0 0 n (some cap), .sl 1 0 n2 (some cap2)]]) (InvB5 l n (.v (.slice none 0 0)) [.ro nl n [.ci .i64 l], .ro nl2 n2 [.ci .i64 q], .own 35 2 [.sl 0 0 n (some cap), .sl 1 0 n2 (some cap2)]]) ?_ (sA51 hsz hn hb) (sB51 hsz hn hb)
      refine lawE_Q ?_
      refine H.nd 3 (fun b => b) ((n : Int) > 2000) (by omega) (by kernel_rfl) ?_
      refine H.kd 2 (fun b => b) (n ≤ n) (Nat.le_refl _) (by kernel_rfl) ?_
      refine H.kd 3 (fun b => b) (n ≤ n ∧ n ≤ 2000) ⟨Nat.le_refl _, hsz⟩ (by kernel_rfl) ?_
      refine H.kd 0 (fun b => b) (n = 0) hn (by kernel_rfl) ?_
      refine H.kb 5 (fun b => ((!(b == false)) == false)) (b := (bkB l n)) (d := false) hb (by kernel_rfl) ?_
      refine H.kb 2 (fun b => ((!b) == true)) (b := (bkB l n)) (d := false) hb (by kernel_rfl) ?_
      refine H.lf (f := oc) 8 (Sum.inr ([0, 1, 0, 1, 1, 1, 1, 1, 1, 1, 1], 3, [.ptr 2 0 0, .b (bkB l n), .v (.slice none 0 0), iv 0, iv 1, iv 0, iv 0, .top], 2, [.ro nl n [.ci .i64 l], .ro nl2 n2 [.ci .i64 q], .own 35 2 [.sl 0 0 n (some cap), .sl 1 0 n2 (some cap2)]])) (by kernel_rfl) ?_
      exact .inl ⟨rfl, rfl, 0, by omega, _, rfl⟩
    · cases hb : bkB l n with
      | true =>
        have hbq : bkB (tq l n) n = true := by rw [bk_tq]; exact hb
        refine lawSeq (fi := fi5 false) (by kernel_rfl) (by kernel_rfl) (by kernel_rfl) rfl [0, 1, 0, 1, 1, 1, 1, 1, 1, 1, 1] 4 [0, 1, 0, 1, 1, 1, 1, 1, 1, 1, 1, 1, 1] 4 2 rfl (by kernel_rfl) (by kernel_rfl) (InvW5 l n (.sl 3 0 n none) [.ro nl n [.ci .i64 l], .ro nl2 n2 [.ci .i64 q], .own 35 2 [.sl 0 0 n (some cap), .sl 1 0 n2 (some cap2)], .vec 3 n [.ci .i64 (tq l n)]]) (InvB5 l n (.sl 3 0 n none) [.ro nl n [.ci .i64 l], .ro nl2 n2 [.ci .i64 q], .own 35 2 [.sl 0 0 n (some cap), .sl 1 0 n2 (some cap2)], .vec 3 n [.ci .i64 (tq l n)]]) ?_ (sA52 hsz (by omega) hb hbq (bkT.1 hb).2.1) (sB52 hsz (by omega) hb hbq (bkT.1 hb).2.1)
        refine lawE_Q ?_
        refine H.nd 3 (fun b => b) ((n : Int) > 2000) (by omega) (by kernel_rfl) ?_
        refine H.kd 2 (fun b => b) (n ≤ n) (Nat.le_refl _) (by kernel_rfl) ?_
        refine H.kd 3 (fun b => b) (n ≤ n ∧ n ≤ 2000) ⟨Nat.le_refl _, hsz⟩ (by kernel_rfl) ?_
        refine H.nd 0 (fun b => b) (n = 0) hn (by kernel_rfl) ?_
        refine H.kd 2 (fun b => b) (n ≤ n) (Nat.le_refl _) (by kernel_rfl) ?_
        refine H.kb 0 (fun b => b) (b := (bkB (tq l n) n)) (d := true) hbq (by kernel_rfl) ?_
        refine H.kb 3 (fun b => ((!(b == true)) == false)) (b := (bkB l n)) (d := true) hb (by kernel_rfl) ?_
        refine H.kb 2 (fun b => ((!b) == true)) (b := (bkB l n)) (d := true) hb (by kernel_rfl) ?_
        refine H.kd 6 (fun b => b) (n ≤ n) (Nat.le_refl _) (by kernel_rfl) ?_
        refine H.kb 0 (fun b => b) (b := (bkB (tq l n) n)) (d := true) hbq (by kernel_rfl) ?_
        refine H.lf (f := oc) 1 (Sum.inr ([0, 1, 0, 1, 1, 1, 1, 1, 1, 1, 1], 4, [.ptr 2 0 0, .b (bkB l n), .sl 3 0 n none, iv (mxL (tq l n) (n - 1)), iv 0, iv 0, iv 0, .top], 2, [.ro nl n [.ci .i64 l], .ro nl2 n2 [.ci .i64 q], .own 35 2 [.sl 0 0 n (some cap), .sl 1 0 n2 (some cap2)], .vec 3 n [.ci .i64 (tq l n)]])) (by kernel_rfl) ?_
        exact .inl ⟨rfl, rfl, n, by omega, 0, _, by omega, rfl, rfl⟩
      | false =>
        have hbq : bkB (tq l n) n = false := by rw [bk_tq]; exact hb
        refine lawSeq (fi := fi5 false) (by kernel_rfl) (by kernel_rfl) (by kernel_rfl) rfl [0, 1, 0, 1, 1, 1, 1, 1, 1, 1, 1] 4 [0, 1, 0, 1, 1, 1, 1, 1, 1, 1, 1, 1, 1] 4 2 rfl (by kernel_rfl) (by kernel_rfl) (InvA5 l n (.sl 3 0 n none) [.ro nl n [.ci .i64 l], .ro nl2 n2 [.ci .i64 q], .own 35 2 [.sl 0 0 n (some cap), .sl 1 0 n2 (some cap2)], .vec 3 n [.ci .i64 (tq l n)]]) (InvB5 l n (.sl 3 0 n none) [.ro nl n [.ci .i64 l], .ro nl2 n2 [.ci .i64 q], .own 35 2 [.sl 0 0 n (some cap), .sl 1 0 n2 (some cap2)], .vec 3 n [.ci .i64 (tq l n)]]) ?_ (sA53 hsz (by omega) hb hbq) (sB53 hsz (by omega) hb hbq)
        refine lawE_Q ?_
        refine H.nd 3 (fun b => b) ((n : Int) > 2000) (by omega) (by kernel_rfl) ?_
        refine H.kd 2 (fun b => b) (n ≤ n) (Nat.le_refl _) (by kernel_rfl) ?_
        refine H.kd 3 (fun b => b) (n ≤ n ∧ n ≤ 2000) ⟨Nat.le_refl _, hsz⟩ (by kernel_rfl) ?_
        refine H.nd 0 (fun b => b) (n = 0) hn (by kernel_rfl) ?_
        refine H.kd 2 (fun b => b) (n ≤ n) (Nat.le_refl _) (by kernel_rfl) ?_
        refine H.kb 0 (fun b => b) (b := (bkB (tq l n) n)) (d := false) hbq (by kernel_rfl) ?_
        refine H.kb 3 (fun b => ((!(b == false)) == false)) (b := (bkB l n)) (d := false) hb (by kernel_rfl) ?_
        refine H.kb 2 (fun b => ((!b) == true)) (b := (bkB l n)) (d := false) hb (by kernel_rfl) ?_
        refine H.kd 7 (fun b => b) (n ≤ n) (Nat.le_refl _) (by kernel_rfl) ?_
        refine H.kb 0 (fun b => b) (b := (bkB (tq l n) n)) (d := false) hbq (by kernel_rfl) ?_
        refine H.lf (f := oc) 1 (Sum.inr ([0, 1, 0, 1, 1, 1, 1, 1, 1, 1, 1], 4, [.ptr 2 0 0, .b (bkB l n), .sl 3 0 n none, iv 0, iv 1, iv 0, iv 0, .top], 2, [.ro nl n [.ci .i64 l], .ro nl2 n2 [.ci .i64 q], .own 35 2 [.sl 0 0 n (some cap), .sl 1 0 n2 (some cap2)], .vec 3 n [.ci .i64 (tq l n)]])) (by kernel_rfl) ?_
        exact .inl ⟨rfl, rfl, 0, by omega, _, rfl⟩
  · refine lawSeq (fi := fi5 false) (by kernel_rfl) (by kernel_rfl) (by kernel_rfl) rfl [0, 1, 0, 1, 1, 1, 1, 1, 1, 1, 1] 3 [0, 1, 0, 1, 1, 1, 1, 1, 1, 1, 1, 1, 1] 3 2 rfl (by kernel_rfl) (by kernel_rfl) (fun _ _ => False) (fun _ _ => False) ?_ (fun _ _ h => h.elim) (fun _ _ h => h.elim)
    refine lawE_Q ?_
    refine H.kd 3 (fun b => b) ((n : Int) > 2000) (by omega) (by kernel_rfl) ?_
    exact H.lf (f := oc) 1 (Sum.inl (AV.b true)) (by kernel_rfl) rfl
end
end Go.Proofs.TabA
