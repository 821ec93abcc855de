/- Lemmas about the evaluator of the code. -/
import Derived.Test.YtcmnaaopgffjdaaPgpU
import Derived.Test.YtcmnaaopgffjdaaEngMd
set_option linter.all false
set_option linter.deprecated false
set_option maxRecDepth 1000000
set_option maxHeartbeats 4000000
namespace Go.Proofs.TabU
open Go Go.Eng
theorem t28 {el : Nat} {nl : Bool} {n : Nat} {cap cap2 : Option Nat} {l : List ByteArray} {Q : An → Prop} (hl : okL l n) (hq : Q (.b true, [])) : H (ev Sn 5 12 [.sl 0 0 n cap, .sl 1 0 n cap2] (memL 2 [.vec el n [.cs l], .ro nl n [.cs l]])) (fun x => Q (resV 2 x)) F0 := by
  have h0 := hl.2.1
  refine fn1 (fi := fi12 false) (by kernel_rfl) (by kernel_rfl) (by kernel_rfl) rfl [0, 1, 0, 1, 1] 2 2 rfl (by kernel_rfl) (fun mm st => ∃ i : Nat, i ≤ n ∧ mm = n - i ∧ st = ([.sl 0 0 n cap, .sl 1 0 n cap2, iv i], 2, [.vec el n [.cs l], .ro nl n [.cs l]])) ?_ ?_
  · refine pE_Q (k := 2) ?_
    refine H.ke 1 (fun b => (!b)) ((↑n : Int)) ((↑n : Int)) rfl (by kernel_rfl) ?_
    refine H.lf (f := pE 2) 0 (Sum.inr ([0, 1, 0, 1, 1], 2, [AV.sl 0 0 n cap, AV.sl 1 0 n cap2, AV.i IntKind.i64 0], 2, [.vec el n [.cs l], .ro nl n [.cs l]])) (by kernel_rfl) ?_
    exact ⟨rfl, rfl, n, by omega, 0, by omega, rfl, rfl⟩
  · intro mm st hi
    obtain ⟨i, hi, rfl, rfl⟩ := hi
    refine pL_Q (k := 2) ?_
    refine H.sd 1 (fun b => b) ((↑i : Int) < (↑n : Int)) (by kernel_rfl) (fun h1 => ?_) (fun h1 => ?_)
    · refine H.kd 5 (fun b => b) ((↑i : Int) < (↑n : Int)) h1 (by kernel_rfl) ?_
      refine H.kl 1 (fun b => b) (0 + Int.toNat (↑i : Int)) (n) (by omega) (by kernel_rfl) ?_
      refine H.kd 5 (fun b => b) ((↑i : Int) < (↑n : Int)) h1 (by kernel_rfl) ?_
      refine H.kl 1 (fun b => b) (0 + Int.toNat (↑i : Int)) (n) (by omega) (by kernel_rfl) ?_
      refine H.kb 3 (fun b => (!b)) (b := ByteArray.toList (List.getD l (0 + Int.toNat (↑i : Int)) ByteArray.empty) == ByteArray.toList (List.getD l (0 + Int.toNat (↑i : Int)) ByteArray.empty)) (d := true) (beq_self_eq_true _) (by kernel_rfl) ?_
      refine H.lf (f := pL 2) 1 (Sum.inl ([AV.sl 0 0 n cap, AV.sl 1 0 n cap2, iv (wr .i64 ((↑i : Int) + 1))], 2, [.vec el n [.cs l], .ro nl n [.cs l]])) (by kernel_rfl) ?_
      have hlt2 : n - (i + 1) < n - i := by omega
      exact ⟨_, hlt2, i + 1, by omega, rfl, by rw [wrN' (by omega)]⟩
    · exact H.lf (f := pL 2) 0 (Sum.inr (Sum.inl (AV.b true, []))) (by kernel_rfl) hq
theorem t28n {nl : Bool} {m r : Nat} {cap : Option Nat} {l : List ByteArray} {Q : An → Prop} (hq : Q (.b true, [])) : H (ev Sn 5 12 [.v (.slice none 0 0), .sl 0 r 0 cap] (memL 1 [.ro nl m [.cs l]])) (fun x => Q (resV 1 x)) F0 := by
  refine fn1 (fi := fi12 false) (by kernel_rfl) (by kernel_rfl) (by kernel_rfl) rfl [0, 1, 0, 1, 1] 1 1 rfl (by kernel_rfl) (fun mm st => st = ([.v (.slice none 0 0), .sl 0 r 0 cap, iv 0], 1, [.ro nl m [.cs l]])) ?_ ?_
  · refine pE_Q (k := 1) ?_
    refine H.lf (f := pE 1) 50 (Sum.inr ([0, 1, 0, 1, 1], 1, [.v (.slice none 0 0), .sl 0 r 0 cap, AV.i IntKind.i64 0], 1, [.ro nl m [.cs l]])) (by kernel_rfl) ?_
    exact ⟨rfl, rfl, 0, by omega, rfl⟩
  · intro mm st hi
    subst hi
    refine pL_Q (k := 1) ?_
    exact H.lf (f := pL 1) 50 (Sum.inr (Sum.inl (.b true, []))) (by kernel_rfl) hq
theorem t28v {el : Nat} {el2 : Nat} {n : Nat} {cap cap2 : Option Nat} {l : List ByteArray} {Q : An → Prop} (hl : okL l n) (hq : Q (.b true, [])) : H (ev Sn 5 12 [.sl 0 0 n cap, .sl 1 0 n cap2] (memL 2 [.vec el n [.cs l], .vec el2 n [.cs l]])) (fun x => Q (resV 2 x)) F0 := by
  have h0 := hl.2.1
  refine fn1 (fi := fi12 false) (by kernel_rfl) (by kernel_rfl) (by kernel_rfl) rfl [0, 1, 0, 1, 1] 2 2 rfl (by kernel_rfl) (fun mm st => ∃ i : Nat, i ≤ n ∧ mm = n - i ∧ st = ([.sl 0 0 n cap, .sl 1 0 n cap2, iv i], 2, [.vec el n [.cs l], .vec el2 n [.cs l]])) ?_ ?_
  · refine pE_Q (k := 2) ?_
    refine H.ke 1 (fun b => (!b)) ((↑n : Int)) ((↑n : Int)) rfl (by kernel_rfl) ?_
    refine H.lf (f := pE 2) 0 (Sum.inr ([0, 1, 0, 1, 1], 2, [AV.sl 0 0 n cap, AV.sl 1 0 n cap2, AV.i IntKind.i64 0], 2, [.vec el n [.cs l], .vec el2 n [.cs l]])) (by kernel_rfl) ?_
    exact ⟨rfl, rfl, n, by omega, 0, by omega, rfl, rfl⟩
  · intro mm st hi
    obtain ⟨i, hi, rfl, rfl⟩ := hi
    refine pL_Q (k := 2) ?_
    refine H.sd 1 (fun b => b) ((↑i : Int) < (↑n : Int)) (by kernel_rfl) (fun h1 => ?_) (fun h1 => ?_)
    · refine H.kd 5 (fun b => b) ((↑i : Int) < (↑n : Int)) h1 (by kernel_rfl) ?_
      refine H.kl 1 (fun b => b) (0 + Int.toNat (↑i : Int)) (n) (by omega) (by kernel_rfl) ?_
      refine H.kd 5 (fun b => b) ((↑i : Int) < (↑n : Int)) h1 (by kernel_rfl) ?_
      refine H.kl 1 (fun b => b) (0 + Int.toNat (↑i : Int)) (n) (by omega) (by kernel_rfl) ?_
      refine H.kb 3 (fun b => (!b)) (b := ByteArray.toList (List.getD l (0 + Int.toNat (↑i : Int)) ByteArray.empty) == ByteArray.toList (List.getD l (0 + Int.toNat (↑i : Int)) ByteArray.empty)) (d := true) (beq_self_eq_true _) (by kernel_rfl) ?_
      refine H.lf (f := pL 2) 1 (Sum.inl ([AV.sl 0 0 n cap, AV.sl 1 0 n cap2, iv (wr .i64 ((↑i : Int) + 1))], 2, [.vec el n [.cs l], .vec el2 n [.cs l]])) (by kernel_rfl) ?_
      have hlt2 : n - (i + 1) < n - i := by omega
      exact ⟨_, hlt2, i + 1, by omega, rfl, by rw [wrN' (by omega)]⟩
    · exact H.lf (f := pL 2) 0 (Sum.inr (Sum.inl (AV.b true, []))) (by kernel_rfl) hq
theorem t28z {Q : An → Prop} (hq : Q (.b true, [])) : H (ev Sn 5 12 [.v (.slice none 0 0), .v (.slice none 0 0)] (memL 0 [])) (fun x => Q (resV 0 x)) F0 := by
  refine fn1 (fi := fi12 false) (by kernel_rfl) (by kernel_rfl) (by kernel_rfl) rfl [0, 1, 0, 1, 1] 0 0 rfl (by kernel_rfl) (fun mm st => st = ([.v (.slice none 0 0), .v (.slice none 0 0), iv 0], 0, [])) ?_ ?_
  · refine pE_Q (k := 0) ?_
    refine H.lf (f := pE 0) 50 (Sum.inr ([0, 1, 0, 1, 1], 0, [.v (.slice none 0 0), .v (.slice none 0 0), AV.i IntKind.i64 0], 0, [])) (by kernel_rfl) ?_
    exact ⟨rfl, rfl, 0, by omega, rfl⟩
  · intro mm st hi
    subst hi
    refine pL_Q (k := 0) ?_
    exact H.lf (f := pL 0) 50 (Sum.inr (Sum.inl (.b true, []))) (by kernel_rfl) hq
noncomputable def k28 : List AV → List AObj → T An
  | [.sl 0 r n _, .sl 1 r2 n2 _], [.vec _ m [.cs l], .ro _ m2 [.cs l2]] => .br (decide (atP r m n l ∧ atP r2 m2 n2 l2 ∧ l = l2)) (.ret (.b true, [])) .fail
  | [.sl 0 r n _, .sl 1 r2 n2 _], [.vec _ m [.cs l], .vec _ m2 [.cs l2]] => .br (decide (atP r m n l ∧ atP r2 m2 n2 l2 ∧ l = l2)) (.ret (.b true, [])) .fail
  | [.v (.slice none 0 0), .sl 0 _ n _], [.ro _ _ [.cs _]] => .br (Nat.beq n 0) (.ret (.b true, [])) .fail
  | [.v (.slice none 0 0), .v (.slice none 0 0)], [] => .ret (.b true, [])
  | _, _ => .fail
theorem v28 : Vw Sn 12 k28 := by
  intro args objs Q h
  unfold k28 at h
  split at h
  · obtain ⟨h3, hq⟩ := br_ok h
    obtain ⟨⟨rfl, rfl, hl⟩, ⟨rfl, rfl, hl2⟩, rfl⟩ := of_decide_eq_true h3
    have e := hl.1.symm.trans hl2.1
    subst e
    exact t28 hl hq
  · obtain ⟨h3, hq⟩ := br_ok h
    obtain ⟨⟨rfl, rfl, hl⟩, ⟨rfl, rfl, hl2⟩, rfl⟩ := of_decide_eq_true h3
    have e := hl.1.symm.trans hl2.1
    subst e
    exact t28v hl hq
  · obtain ⟨h3, hq⟩ := br_ok h
    have e := Nat.eq_of_beq_eq_true h3
    subst e
    exact t28n hq
  · exact t28z h
  · exact h.elim
theorem okL_w {l : List ByteArray} {n : Nat} (h : okW l n) (h2 : ¬ ((twO l : Nat) : Int) > 10000) : okL l n := okL_of h.1 (by omega)
noncomputable def g19 : List AV → Mem → T (AV × Mem) := evFunD Try.prog (ttOf tts) 1048576 1048576 (ev S31 8) Dp (fi8 false)
theorem s19 {N : NB} {R : Sp} (hR : SOk Try.prog N R) : SOk Try.prog N (fun f => bif2 (Nat.beq f 8) (some g19) (R f)) :=
  sOk_defer tok (evFun_ok tok (s31 N) (fok false) hmix 8) hmix dp_ok (fiOk8 false) hR
noncomputable def Sb3 : Sp := fun f => bif2 (Nat.beq f 14) (some (treeS g18)) (bif2 (Nat.beq f 26) (some (viewS k23)) (bif2 (Nat.beq f 7) (some (viewS k11)) (bif2 (Nat.beq f 9) (some (viewST k9)) (bif2 (Nat.beq f 12) (some (viewS k28)) (bif2 (Nat.beq f 8) (some g19) (Sn f))))))
theorem sb3 (N : NB) : SOk Try.prog N Sb3 :=
  s18 (sOk_view tok (fok false) hmix (sn _) (sOk_view tok (fok false) hmix (sn _) (sOk_viewT tok (fok false) hmix (s27 _) (sOk_view tok (fok false) hmix (sn _) (s19 (sn _)) v28) v9) v11) v23)

end Go.Proofs.TabU
