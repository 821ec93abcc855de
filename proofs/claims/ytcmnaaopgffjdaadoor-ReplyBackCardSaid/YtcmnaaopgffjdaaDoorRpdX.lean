/- Lemmas about the evaluator of the code. -/
import Derived.Test.YtcmnaaopgffjdaaDoorRpcX
set_option linter.all false
set_option linter.deprecated false
set_option maxRecDepth 1000000
set_option maxHeartbeats 4000000
namespace Go.Proofs.TabX
open Go Go.Eng
abbrev atP (r m n : Nat) (l : List ByteArray) : Prop := r = 0 ∧ m = n ∧ okL l n
theorem drop_end {l : List ByteArray} {i n : Nat} (hl : okL l n) (h : n ≤ i) : l.drop i = [] := List.drop_eq_nil_of_le (by rw [hl.1]; exact h)
theorem drop_at {l : List ByteArray} {i n : Nat} (hl : okL l n) (h : (i : Int) < n) : l.drop i = l.getD (0 + Int.toNat (i : Int)) ByteArray.empty :: l.drop (i + 1) := by
  have e : 0 + Int.toNat (i : Int) = i := by omega
  rw [e]
  exact drop_cons (by rw [hl.1]; omega)
noncomputable def k51 : List AV → List AObj → T An
  | [.sl 0 r n _, .fn (.func f) []], [.ro _ m [.cs l]] => .br (Nat.beq f 37) (.br (decide (atP r m n l)) (.ret (iv (fxO l), [])) .fail) .fail
  | [.sl 0 r n _, .fn (.func f) []], [.vec _ m [.cs l]] => .br (Nat.beq f 37) (.br (decide (atP r m n l)) (.ret (iv (fxO l), [])) .fail) .fail
  | _, _ => .fail
noncomputable def S38 : Sp := fun f => bif2 (Nat.beq f 38) (some (viewS k38)) (Sn f)
theorem s38 (N : NB) : SOk Tryd.prog N S38 := sOk_view tok (fok false) hmix (sn _) (sn _) v38
theorem t51r {nl : Bool} {n : Nat} {cap : Option Nat} {l : List ByteArray} {Q : An → Prop} (hl : okL l n) (hq : Q (iv (fxO l), [])) : H (ev S38 5 51 [.sl 0 0 n cap, .fn (.func 37) []] (memL 1 [.ro nl n [.cs l]])) (fun x => Q (resV 1 x)) F0 := by
  refine fn1 (fi := fi51 false) (by kernel_rfl) (by kernel_rfl) (by kernel_rfl) rfl [0, 1, 0, 1] 1 1 rfl (by kernel_rfl) (fun mm st => ∃ i : Nat, i ≤ n ∧ mm = n - i ∧ fxV (l.drop i) i = fxO l ∧ st = ([.sl 0 0 n cap, .fn (.func 37) [], iv n, iv i], 1, [.ro nl n [.cs l]])) ?_ ?_
  · refine pE_Q (k := 1) ?_
    refine H.lf (f := pE 1) 0 (Sum.inr ([0, 1, 0, 1], 1, [.sl 0 0 n cap, .fn (.func 37) [], iv n, iv 0], 1, [.ro nl n [.cs l]])) (by kernel_rfl) ?_
    have h1 := hl.2.1
    exact ⟨rfl, rfl, n, by omega, 0, by omega, rfl, (fxO_eq l).symm, rfl⟩
  · intro mm st hi
    obtain ⟨i, hi, rfl, hp, rfl⟩ := hi
    have h0 := hl.2.1
    refine pL_Q (k := 1) ?_
    refine H.sd 1 (fun b => b) ((↑i : Int) < (↑n : Int)) (by kernel_rfl) (fun h1 => ?_) (fun h1 => ?_)
    · refine H.kd 2 (fun b => b) ((↑i : Int) < (↑n : Int)) h1 (by kernel_rfl) ?_
      refine H.kl 0 (fun b => b) (0 + Int.toNat (↑i : Int)) (n) (by omega) (by kernel_rfl) ?_
      refine H.kb 2 (fun b => b) (b := Nat.ble (ByteArray.size (List.getD l (0 + Int.toNat (↑i : Int)) ByteArray.empty)) 10000) (d := true) (Nat.ble_eq_true_of_le (hl.2.2 _)) (by kernel_rfl) ?_
      rw [drop_at hl h1] at hp
      unfold fxV at hp
      refine H.sb 1 (fun b => (!b)) (wdO (List.getD l (0 + Int.toNat (↑i : Int)) ByteArray.empty)) (by kernel_rfl) (fun h3 => ?_) (fun h3 => ?_)
      · refine H.lf (f := pL 1) 1 (Sum.inl ([.sl 0 0 n cap, .fn (.func 37) [], iv n, iv (wr .i64 ((i : Int) + 1))], 1, [.ro nl n [.cs l]])) (by kernel_rfl) ?_
        rw [if_pos h3] at hp
        have hlt2 : n - (i + 1) < n - i := by omega
        exact ⟨_, hlt2, i + 1, by omega, rfl, hp, by rw [wrN' (by omega)]⟩
      · rw [h3, if_neg (by decide)] at hp
        exact H.lf (f := pL 1) 0 (Sum.inr (Sum.inl (iv i, []))) (by kernel_rfl) (show Q _ from by rw [show iv (i : Int) = iv (fxO l) by rw [← hp]]; exact hq)
    · rw [drop_end hl (by omega)] at hp
      exact H.lf (f := pL 1) 0 (Sum.inr (Sum.inl (iv (-1), []))) (by kernel_rfl) (show Q _ from by rw [show iv (-1) = iv (fxO l) by rw [← hp]; rfl]; exact hq)
theorem t51v {el : Nat} {n : Nat} {cap : Option Nat} {l : List ByteArray} {Q : An → Prop} (hl : okL l n) (hq : Q (iv (fxO l), [])) : H (ev S38 5 51 [.sl 0 0 n cap, .fn (.func 37) []] (memL 1 [.vec el n [.cs l]])) (fun x => Q (resV 1 x)) F0 := by
  refine fn1 (fi := fi51 false) (by kernel_rfl) (by kernel_rfl) (by kernel_rfl) rfl [0, 1, 0, 1] 1 1 rfl (by kernel_rfl) (fun mm st => ∃ i : Nat, i ≤ n ∧ mm = n - i ∧ fxV (l.drop i) i = fxO l ∧ st = ([.sl 0 0 n cap, .fn (.func 37) [], iv n, iv i], 1, [.vec el n [.cs l]])) ?_ ?_
  · refine pE_Q (k := 1) ?_
    refine H.lf (f := pE 1) 0 (Sum.inr ([0, 1, 0, 1], 1, [.sl 0 0 n cap, .fn (.func 37) [], iv n, iv 0], 1, [.vec el n [.cs l]])) (by kernel_rfl) ?_
    have h1 := hl.2.1
    exact ⟨rfl, rfl, n, by omega, 0, by omega, rfl, (fxO_eq l).symm, rfl⟩
  · intro mm st hi
    obtain ⟨i, hi, rfl, hp, rfl⟩ := hi
    have h0 := hl.2.1
    refine pL_Q (k := 1) ?_
    refine H.sd 1 (fun b => b) ((↑i : Int) < (↑n : Int)) (by kernel_rfl) (fun h1 => ?_) (fun h1 => ?_)
    · refine H.kd 2 (fun b => b) ((↑i : Int) < (↑n : Int)) h1 (by kernel_rfl) ?_
      refine H.kl 0 (fun b => b) (0 + Int.toNat (↑i : Int)) (n) (by omega) (by kernel_rfl) ?_
      refine H.kb 2 (fun b => b) (b := Nat.ble (ByteArray.size (List.getD l (0 + Int.toNat (↑i : Int)) ByteArray.empty)) 10000) (d := true) (Nat.ble_eq_true_of_le (hl.2.2 _)) (by kernel_rfl) ?_
      rw [drop_at hl h1] at hp
      unfold fxV at hp
      refine H.sb 1 (fun b => (!b)) (wdO (List.getD l (0 + Int.toNat (↑i : Int)) ByteArray.empty)) (by kernel_rfl) (fun h3 => ?_) (fun h3 => ?_)
      · refine H.lf (f := pL 1) 1 (Sum.inl ([.sl 0 0 n cap, .fn (.func 37) [], iv n, iv (wr .i64 ((i : Int) + 1))], 1, [.vec el n [.cs l]])) (by kernel_rfl) ?_
        rw [if_pos h3] at hp
        have hlt2 : n - (i + 1) < n - i := by omega
        exact ⟨_, hlt2, i + 1, by omega, rfl, hp, by rw [wrN' (by omega)]⟩
      · rw [h3, if_neg (by decide)] at hp
        exact H.lf (f := pL 1) 0 (Sum.inr (Sum.inl (iv i, []))) (by kernel_rfl) (show Q _ from by rw [show iv (i : Int) = iv (fxO l) by rw [← hp]]; exact hq)
    · rw [drop_end hl (by omega)] at hp
      exact H.lf (f := pL 1) 0 (Sum.inr (Sum.inl (iv (-1), []))) (by kernel_rfl) (show Q _ from by rw [show iv (-1) = iv (fxO l) by rw [← hp]; rfl]; exact hq)
theorem v51 : Vw S38 51 k51 := by
  intro args objs Q h
  unfold k51 at h
  split at h
  · obtain ⟨h1, h2⟩ := br_ok h
    obtain ⟨h3, hq⟩ := br_ok h2
    obtain ⟨rfl, rfl, hl⟩ := of_decide_eq_true h3
    obtain rfl := Nat.eq_of_beq_eq_true h1
    exact t51r hl hq
  · obtain ⟨h1, h2⟩ := br_ok h
    obtain ⟨h3, hq⟩ := br_ok h2
    obtain ⟨rfl, rfl, hl⟩ := of_decide_eq_true h3
    obtain rfl := Nat.eq_of_beq_eq_true h1
    exact t51v hl hq
  · exact h.elim
noncomputable def S51 : Sp := fun f => bif2 (Nat.beq f 51) (some (viewS k51)) (Sn f)
theorem s51 (N : NB) : SOk Tryd.prog N S51 := sOk_view tok (fok false) hmix (s38 _) (sn _) v51
/-! ## Whether a reply may be -/
noncomputable def k24 : List AV → List AObj → T An
  | [.agg [.i .i64 c, .sl 0 r n _]], [.ro _ m [.cs l]] => .br (decide (atP r m n l)) (.ret (.b (mayO c l n), [])) .fail
  | [.agg [.i .i64 c, .sl 0 r n _]], [.vec _ m [.cs l]] => .br (decide (atP r m n l)) (.ret (.b (mayO c l n), [])) .fail
  | [.agg [.i .i64 c, .v (.slice none 0 0)]], [] => .ret (.b false, [])
  | _, _ => .fail
theorem may_c {c : Int} {l : List ByteArray} {n : Nat} (h : ¬ c ≥ 200) : false = mayO c l n := by rw [mayO_eq, decide_eq_false (p := 200 ≤ c) h]; rfl
theorem may_d {c : Int} {l : List ByteArray} {n : Nat} (h : ¬ c ≤ 599) : false = mayO c l n := by rw [mayO_eq, decide_eq_false (p := c ≤ 599) h, Bool.and_false]; rfl
theorem may_n {c : Int} {l : List ByteArray} {n : Nat} (h : ¬ (n : Int) ≥ 1) : false = mayO c l n := by rw [mayO_eq, decide_eq_false (p := 1 ≤ n) (by omega), Bool.false_and, Bool.and_false]; rfl
theorem may_m {c : Int} {l : List ByteArray} {n : Nat} (h : ¬ (n : Int) ≤ 16) : false = mayO c l n := by rw [mayO_eq, decide_eq_false (p := n ≤ 16) (by omega), Bool.and_false, Bool.and_false]; rfl
theorem may_a {c : Int} {l : List ByteArray} {n : Nat} (h1 : c ≥ 200) (h2 : c ≤ 599) (h3 : (n : Int) ≥ 1) (h4 : (n : Int) ≤ 16) : alV l = mayO c l n := by
  rw [mayO_eq, decide_eq_true (p := 200 ≤ c) h1, decide_eq_true (p := c ≤ 599) h2, decide_eq_true (p := 1 ≤ n) (by omega), decide_eq_true (p := n ≤ 16) (by omega)]; rfl
theorem may_x {c : Int} {l : List ByteArray} {n : Nat} (h1 : c ≥ 200) (h2 : c ≤ 599) (h3 : (n : Int) ≥ 1) (h4 : (n : Int) ≤ 16) : (!decide (fxO l ≥ 0)) = mayO c l n := by
  rw [← may_a h1 h2 h3 h4, fxO_eq]
  have := fxV_ge l 0
  rw [show decide (fxV l 0 ≥ 0) = decide (0 ≤ fxV l 0) from rfl, this, Bool.not_not]
theorem t24r {nl : Bool} {n : Nat} {cap : Option Nat} {l : List ByteArray} {c : Int} {Q : An → Prop} (hl : okL l n) (hq : Q (.b (mayO c l n), [])) : H (ev S51 5 24 [.agg [iv c, .sl 0 0 n cap]] (memL 1 [.ro nl n [.cs l]])) (fun x => Q (resV 1 x)) F0 := by
  refine fn0 (fi := fi24 false) (by kernel_rfl) (by kernel_rfl) (by kernel_rfl) 1 rfl ?_
  refine pE_Q (k := 1) ?_
  refine H.sd 3 (fun b => (b == true)) (c ≥ 200) (by kernel_rfl) (fun h1 => ?_) (fun h1 => ?_)
  · refine H.sd 5 (fun b => (b == true)) (c ≤ 599) (by kernel_rfl) (fun h2 => ?_) (fun h2 => ?_)
    · refine H.sd 6 (fun b => (b == true)) ((↑n : Int) ≥ 1) (by kernel_rfl) (fun h3 => ?_) (fun h3 => ?_)
      · refine H.sd 6 (fun b => (b == true)) ((↑n : Int) ≤ 16) (by kernel_rfl) (fun h4 => ?_) (fun h4 => ?_)
        · refine H.kd 6 (fun b => b) (atP 0 n n l) ⟨rfl, rfl, hl⟩ (by kernel_rfl) ?_
          exact H.lf (f := pE 1) 5 (Sum.inl (AV.b !decide (fxO l ≥ 0), [])) (by kernel_rfl) (show Q _ from by rw [may_x h1 h2 h3 h4]; exact hq)
        · exact H.lf (f := pE 1) 5 (Sum.inl (AV.b false, [])) (by kernel_rfl) (show Q _ from by rw [may_m h4]; exact hq)
      · exact H.lf (f := pE 1) 10 (Sum.inl (AV.b false, [])) (by kernel_rfl) (show Q _ from by rw [may_n h3]; exact hq)
    · exact H.lf (f := pE 1) 15 (Sum.inl (AV.b false, [])) (by kernel_rfl) (show Q _ from by rw [may_d h2]; exact hq)
  · exact H.lf (f := pE 1) 19 (Sum.inl (AV.b false, [])) (by kernel_rfl) (show Q _ from by rw [may_c h1]; exact hq)
theorem t24v {el : Nat} {n : Nat} {cap : Option Nat} {l : List ByteArray} {c : Int} {Q : An → Prop} (hl : okL l n) (hq : Q (.b (mayO c l n), [])) : H (ev S51 5 24 [.agg [iv c, .sl 0 0 n cap]] (memL 1 [.vec el n [.cs l]])) (fun x => Q (resV 1 x)) F0 := by
  refine fn0 (fi := fi24 false) (by kernel_rfl) (by kernel_rfl) (by kernel_rfl) 1 rfl ?_
  refine pE_Q (k := 1) ?_
  refine H.sd 3 (fun b => (b == true)) (c ≥ 200) (by kernel_rfl) (fun h1 => ?_) (fun h1 => ?_)
  · refine H.sd 5 (fun b => (b == true)) (c ≤ 599) (by kernel_rfl) (fun h2 => ?_) (fun h2 => ?_)
    · refine H.sd 6 (fun b => (b == true)) ((↑n : Int) ≥ 1) (by kernel_rfl) (fun h3 => ?_) (fun h3 => ?_)
      · refine H.sd 6 (fun b => (b == true)) ((↑n : Int) ≤ 16) (by kernel_rfl) (fun h4 => ?_) (fun h4 => ?_)
        · refine H.kd 6 (fun b => b) (atP 0 n n l) ⟨rfl, rfl, hl⟩ (by kernel_rfl) ?_
          exact H.lf (f := pE 1) 5 (Sum.inl (AV.b !decide (fxO l ≥ 0), [])) (by kernel_rfl) (show Q _ from by rw [may_x h1 h2 h3 h4]; exact hq)
        · exact H.lf (f := pE 1) 5 (Sum.inl (AV.b false, [])) (by kernel_rfl) (show Q _ from by rw [may_m h4]; exact hq)
      · exact H.lf (f := pE 1) 10 (Sum.inl (AV.b false, [])) (by kernel_rfl) (show Q _ from by rw [may_n h3]; exact hq)
    · exact H.lf (f := pE 1) 15 (Sum.inl (AV.b false, [])) (by kernel_rfl) (show Q _ from by rw [may_d h2]; exact hq)
  · exact H.lf (f := pE 1) 19 (Sum.inl (AV.b false, [])) (by kernel_rfl) (show Q _ from by rw [may_c h1]; exact hq)
theorem t24n {c : Int} {Q : An → Prop} (hq : Q (.b false, [])) : H (ev S51 5 24 [.agg [iv c, .v (.slice none 0 0)]] (memL 0 [])) (fun x => Q (resV 0 x)) F0 := by
  refine fn0 (fi := fi24 false) (by kernel_rfl) (by kernel_rfl) (by kernel_rfl) 0 rfl ?_
  refine pE_Q (k := 0) ?_
  refine H.sd 3 (fun b => (b == true)) (c ≥ 200) (by kernel_rfl) (fun h1 => ?_) (fun h1 => ?_)
  · refine H.sd 5 (fun b => (b == true)) (c ≤ 599) (by kernel_rfl) (fun h2 => ?_) (fun h2 => ?_)
    · exact H.lf (f := pE 0) 30 (Sum.inl (AV.b false, [])) (by kernel_rfl) hq
    · exact H.lf (f := pE 0) 30 (Sum.inl (AV.b false, [])) (by kernel_rfl) hq
  · exact H.lf (f := pE 0) 30 (Sum.inl (AV.b false, [])) (by kernel_rfl) hq
theorem v24 : Vw S51 24 k24 := by
  intro args objs Q h
  unfold k24 at h
  split at h
  · obtain ⟨h3, hq⟩ := br_ok h
    obtain ⟨rfl, rfl, hl⟩ := of_decide_eq_true h3
    exact t24r hl hq
  · obtain ⟨h3, hq⟩ := br_ok h
    obtain ⟨rfl, rfl, hl⟩ := of_decide_eq_true h3
    exact t24v hl hq
  · exact t24n h
  · exact h.elim
noncomputable def S24 : Sp := fun f => bif2 (Nat.beq f 24) (some (viewS k24)) (Sn f)
theorem s24 (N : NB) : SOk Tryd.prog N S24 := sOk_view tok (fok false) hmix (s51 _) (sn _) v24
end Go.Proofs.TabX
