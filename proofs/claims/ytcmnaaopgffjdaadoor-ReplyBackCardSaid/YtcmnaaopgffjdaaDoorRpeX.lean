/- Lemmas about the evaluator of the code. -/
import Derived.Test.YtcmnaaopgffjdaaDoorRpdX
set_option linter.all false
set_option linter.deprecated false
set_option maxRecDepth 1000000
set_option maxHeartbeats 4000000
namespace Go.Proofs.TabX
open Go Go.Eng
/-! ## How much lines weigh -/
def okW (l : List ByteArray) (n : Nat) : Prop := l.length = n ∧ ∀ j, (l.getD j ByteArray.empty).size ≤ 140737488351232
noncomputable instance (l : List ByteArray) (n : Nat) : Decidable (okW l n) := Classical.propDecidable _
noncomputable def k23 : List AV → List AObj → T An
  | [.sl 0 r n _], [.ro _ m [.cs l]] => .br (decide (r = 0 ∧ m = n ∧ okW l n)) (.ret (iv (twO l), [])) .fail
  | _, _ => .fail
theorem t23 {nl : Bool} {n : Nat} {cap : Option Nat} {l : List ByteArray} {Q : An → Prop} (hl : okW l n) (hq : Q (iv (twO l), [])) : H (ev Sn 5 23 [.sl 0 0 n cap] (memL 1 [.ro nl n [.cs l]])) (fun x => Q (resV 1 x)) F0 := by
  refine fn1 (fi := fi23 false) (by kernel_rfl) (by kernel_rfl) (by kernel_rfl) rfl [0, 1, 0, 1, 1] 1 1 rfl (by kernel_rfl) (fun mm st => ∃ i a : Nat, i ≤ n ∧ n ≤ a ∧ twV a (l.drop i) = twO l ∧ mm = (if n < 1048576 then n - i else 0) ∧ st = ([.sl 0 0 n cap, iv a, iv i], 1, [.ro nl n [.cs l]])) ?_ ?_
  · refine pE_Q (k := 1) ?_
    refine H.lf (f := pE 1) 0 (Sum.inr ([0, 1, 0, 1, 1], 1, [AV.sl 0 0 n cap, AV.i IntKind.i64 (↑n : Int), AV.i IntKind.i64 0], 1, [AObj.ro nl n [Col.cs l]])) (by kernel_rfl) ?_
    refine ⟨rfl, rfl, _, ?_, 0, n, by omega, by omega, by rw [twO_eq, hl.1]; rfl, rfl, rfl⟩
    split <;> omega
  · intro mm st hi
    obtain ⟨i, a, hi, ha, hp, rfl, rfl⟩ := hi
    obtain ⟨A, hA⟩ : ∃ A : Int, A = (a : Int) := ⟨_, rfl⟩
    rw [← hA]
    have hs := hl.2 (0 + Int.toNat (i : Int))
    refine pL_Q (k := 1) ?_
    refine H.sd 1 (fun b => (b == true)) ((↑i : Int) < (↑n : Int)) (by kernel_rfl) (fun h1 => ?_) (fun h1 => ?_)
    · have hd : l.drop i = l.getD (0 + Int.toNat (i : Int)) ByteArray.empty :: l.drop (i + 1) := by
        have e : 0 + Int.toNat (i : Int) = i := by omega
        rw [e]
        exact drop_cons (by rw [hl.1]; omega)
      rw [hd] at hp
      refine H.sd 3 (fun b => b) (A < 1048576) (by kernel_rfl) (fun h2 => ?_) (fun h2 => ?_)
      · refine H.kd 2 (fun b => b) ((↑i : Int) < (↑n : Int)) h1 (by kernel_rfl) ?_
        refine H.kl 0 (fun b => b) (0 + Int.toNat (↑i : Int)) (n) (by omega) (by kernel_rfl) ?_
        refine H.lf (f := pL 1) 2 (Sum.inl ([AV.sl 0 0 n cap, iv (wr .i64 (A + (↑(ByteArray.size (List.getD l (0 + Int.toNat (↑i : Int)) ByteArray.empty)) : Int))), iv (wr .i64 ((↑i : Int) + 1))], 1, [AObj.ro nl n [Col.cs l]])) (by kernel_rfl) ?_
        generalize l.getD (0 + Int.toNat (i : Int)) ByteArray.empty = x at *
        unfold twV at hp
        rw [if_pos (by omega)] at hp
        have hn : n < 1048576 := by omega
        refine ⟨_, ?_, i + 1, a + x.size, by omega, by omega, hp, rfl, ?_⟩
        · rw [if_pos hn, if_pos hn]; omega
        · rw [wrN' (by omega), wr64 (by omega) (by omega), hA]; rfl
      · unfold twV at hp
        rw [if_neg (by omega)] at hp
        exact H.lf (f := pL 1) 0 (Sum.inr (Sum.inl (AV.i IntKind.i64 A, []))) (by kernel_rfl) (show Q _ from by rw [hA, hp]; exact hq)
    · have hd : l.drop i = [] := List.drop_eq_nil_of_le (by rw [hl.1]; omega)
      rw [hd] at hp
      unfold twV at hp
      exact H.lf (f := pL 1) 3 (Sum.inr (Sum.inl (AV.i IntKind.i64 A, []))) (by kernel_rfl) (show Q _ from by rw [hA, hp]; exact hq)
theorem v23 : Vw Sn 23 k23 := by
  intro args objs Q h
  unfold k23 at h
  split at h
  · obtain ⟨h3, hq⟩ := br_ok h
    obtain ⟨rfl, rfl, hl⟩ := of_decide_eq_true h3
    exact t23 hl hq
  · exact h.elim
/-! ## Copies -/
noncomputable def k11 : List AV → List AObj → T An
  | [.sl 0 r n _], [.ro _ m [.cs l]] => .br (decide (atP r m n l)) (.br (Nat.beq n 0) (.ret (.v (.slice none 0 0), [])) (.ret (.sl 1 0 n none, [.vec 9 n [.cs l]]))) .fail
  | _, _ => .fail
theorem take_at {l : List ByteArray} {i n : Nat} (hl : okL l n) (h : (i : Int) < n) : l.take i ++ [l.getD (0 + Int.toNat (i : Int)) ByteArray.empty] = l.take (i + 1) := by
  have e : 0 + Int.toNat (i : Int) = i := by omega
  have hlt : i < l.length := by rw [hl.1]; omega
  rw [e, List.getD_eq_getElem?_getD, List.getElem?_eq_getElem hlt]
  simp
theorem t11 {nl : Bool} {n : Nat} {cap : Option Nat} {l : List ByteArray} {Q : An → Prop} (hl : okL l n) (hq0 : n = 0 → Q (.v (.slice none 0 0), [])) (hq1 : n ≠ 0 → Q (.sl 1 0 n none, [.vec 9 n [.cs l]])) : H (ev Sn 5 11 [.sl 0 0 n cap] (memL 1 [.ro nl n [.cs l]])) (fun x => Q (resV 1 x)) F0 := by
  have h0 := hl.2.1
  refine fn1 (fi := fi11 false) (by kernel_rfl) (by kernel_rfl) (by kernel_rfl) rfl [0, 1, 0, 1, 1] 1 1 rfl (by kernel_rfl) (fun mm st => ∃ i : Nat, i ≤ n ∧ mm = n - i ∧
    ((i = 0 ∧ st = ([.sl 0 0 n cap, .v (.slice none 0 0), iv 0], 1, [.ro nl n [.cs l]])) ∨ (0 < i ∧ st = ([.sl 0 0 n cap, .sl 1 0 i none, iv i], 1, [.ro nl n [.cs l], .vec 9 i [.cs (l.take i)]])))) ?_ ?_
  · refine pE_Q (k := 1) ?_
    refine H.lf (f := pE 1) 0 (Sum.inr ([0, 1, 0, 1, 1], 1, [AV.sl 0 0 n cap, AV.v (Value.slice none 0 0), AV.i IntKind.i64 0], 1, [AObj.ro nl n [Col.cs l]])) (by kernel_rfl) ?_
    exact ⟨rfl, rfl, n, by omega, 0, by omega, rfl, .inl ⟨rfl, rfl⟩⟩
  · intro mm st hi
    obtain ⟨i, hi, rfl, ⟨rfl, rfl⟩ | ⟨hp, rfl⟩⟩ := hi
    · refine pL_Q (k := 1) ?_
      refine H.sd 1 (fun b => b) (((0 : Nat) : Int) < (↑n : Int)) (by kernel_rfl) (fun h1 => ?_) (fun h1 => ?_)
      · refine H.kd 2 (fun b => b) (((0 : Nat) : Int) < (↑n : Int)) h1 (by kernel_rfl) ?_
        refine H.kl 0 (fun b => b) (0 + Int.toNat ((0 : Nat) : Int)) (n) (by omega) (by kernel_rfl) ?_
        refine H.lf (f := pL 1) 10 (Sum.inl ([AV.sl 0 0 n cap, AV.sl 1 0 1 none, iv (wr .i64 (((0 : Nat) : Int) + 1))], 1, [AObj.ro nl n [Col.cs l], AObj.vec 9 1 [Col.cs [List.getD l (0 + Int.toNat ((0 : Nat) : Int)) ByteArray.empty]]])) (by kernel_rfl) ?_
        have hlt2 : n - 1 < n - 0 := by omega
        refine ⟨_, hlt2, 1, by omega, rfl, .inr ⟨by omega, ?_⟩⟩
        have := take_at hl h1
        rw [List.take_zero, List.nil_append] at this
        rw [this]; rfl
      · exact H.lf (f := pL 1) 0 (Sum.inr (Sum.inl (AV.v (Value.slice none 0 0), []))) (by kernel_rfl) (hq0 (by omega))
    · refine pL_Q (k := 1) ?_
      refine H.sd 1 (fun b => b) ((↑i : Int) < (↑n : Int)) (by kernel_rfl) (fun h1 => ?_) (fun h1 => ?_)
      · refine H.kd 2 (fun b => b) ((↑i : Int) < (↑n : Int)) h1 (by kernel_rfl) ?_
        refine H.kl 0 (fun b => b) (0 + Int.toNat (↑i : Int)) (n) (by omega) (by kernel_rfl) ?_
        refine H.kb 9 (fun b => b) (b := Nat.ble (0 + i) i) (d := true) (Nat.ble_eq_true_of_le (by omega)) (by kernel_rfl) ?_
        refine H.kb 0 (fun b => b) (b := Nat.blt 0 16 && Nat.ble ((i + 1) * 16) 140737488355328) (d := true) (by rw [Nat.ble_eq_true_of_le (by omega)]; rfl) (by kernel_rfl) ?_
        refine H.kb 0 (fun b => b) (b := Nat.beq (i + 1) (i + 1) && Nat.beq 1 1) (d := true) (by rw [Nat.beq_refl]; rfl) (by kernel_rfl) ?_
        refine H.lf (f := pL 1) 2 (Sum.inl ([AV.sl 0 0 n cap, AV.sl 1 0 (i + 1) none, iv (wr .i64 ((↑i : Int) + 1))], 1, [AObj.ro nl n [Col.cs l], AObj.vec 9 (i + 1) [Col.cs (List.take i (List.drop 0 (l.take i)) ++ [List.getD l (0 + Int.toNat (↑i : Int)) ByteArray.empty])]])) (by kernel_rfl) ?_
        have hlt2 : n - (i + 1) < n - i := by omega
        refine ⟨_, hlt2, i + 1, by omega, rfl, .inr ⟨by omega, ?_⟩⟩
        rw [List.drop_zero, List.take_take, Nat.min_self, take_at hl h1, wrN' (by omega)]
      · refine H.lf (f := pL 1) 1 (Sum.inr (Sum.inl (AV.sl 1 0 i none, [AObj.vec 9 i [Col.cs (l.take i)]]))) (by kernel_rfl) ?_
        have e : i = n := by omega
        subst e
        show Q _
        rw [List.take_of_length_le (by rw [hl.1]; exact Nat.le_refl _)]
        exact hq1 (by omega)
theorem v11 : Vw Sn 11 k11 := by
  intro args objs Q h
  unfold k11 at h
  split at h
  · obtain ⟨h3, hq⟩ := br_ok h
    obtain ⟨rfl, rfl, hl⟩ := of_decide_eq_true h3
    refine t11 hl (fun e => ?_) (fun e => ?_)
    · exact hq.1 (by rw [e]; rfl)
    · refine hq.2 ?_
      cases hh : Nat.beq _ 0 with
      | false => rfl
      | true => exact absurd (Nat.eq_of_beq_eq_true hh) e
  · exact h.elim
/-! ## The page's own -/
noncomputable def S27 : Sp := fun f => bif2 (Nat.beq f 27) (some (viewS k38)) (Sn f)
theorem s27 (N : NB) : SOk Tryd.prog N S27 := sOk_view tok (fok false) hmix (s40 _) (sn _) v27
noncomputable def k13 : List AV → List AObj → T An
  | [.agg [.i .i64 c, .sl 0 r n _]], [.ro _ m [.cs l]] => .br (decide (atP r m n l)) (.ret (.b (mayO c l n), [])) .fail
  | _, _ => .fail
theorem t13 {nl : Bool} {n : Nat} {cap : Option Nat} {l : List ByteArray} {c : Int} {Q : An → Prop} (hl : okL l n) (hq : Q (.b (mayO c l n), [])) : H (ev S27 5 13 [.agg [iv c, .sl 0 0 n cap]] (memL 1 [.ro nl n [.cs l]])) (fun x => Q (resV 1 x)) F0 := by
  have h0 := hl.2.1
  refine fn1 (fi := fi13 false) (by kernel_rfl) (by kernel_rfl) (by kernel_rfl) rfl [0, 1, 0, 1, 1] 2 1 rfl (by kernel_rfl) (fun mm st => ∃ i : Nat, i ≤ n ∧ mm = n - i ∧ alV (l.drop i) = mayO c l n ∧ st = ([.ptr 1 0 0, iv i], 1, [.ro nl n [.cs l], .own 37 2 [iv c, .sl 0 0 n cap]])) ?_ ?_
  · refine pE_Q (k := 1) ?_
    refine H.sd 3 (fun b => (b == false)) (c < 200) (by kernel_rfl) (fun h1 => ?_) (fun h1 => ?_)
    · exact H.lf (f := pE 1) 15 (Sum.inl (AV.b false, [])) (by kernel_rfl) (show Q _ from by rw [may_c (c := c) (l := l) (n := n) (by omega)]; exact hq)
    · refine H.sd 5 (fun b => (b == false)) (c > 599) (by kernel_rfl) (fun h2 => ?_) (fun h2 => ?_)
      · exact H.lf (f := pE 1) 11 (Sum.inl (AV.b false, [])) (by kernel_rfl) (show Q _ from by rw [may_d (c := c) (l := l) (n := n) (by omega)]; exact hq)
      · refine H.sd 6 (fun b => (b == false)) ((↑n : Int) < 1) (by kernel_rfl) (fun h3 => ?_) (fun h3 => ?_)
        · exact H.lf (f := pE 1) 6 (Sum.inl (AV.b false, [])) (by kernel_rfl) (show Q _ from by rw [may_n (c := c) (l := l) (n := n) (by omega)]; exact hq)
        · refine H.sd 6 (fun b => b) ((↑n : Int) > 16) (by kernel_rfl) (fun h4 => ?_) (fun h4 => ?_)
          · exact H.lf (f := pE 1) 1 (Sum.inl (AV.b false, [])) (by kernel_rfl) (show Q _ from by rw [may_m (c := c) (l := l) (n := n) (by omega)]; exact hq)
          · refine H.lf (f := pE 1) 0 (Sum.inr ([0, 1, 0, 1, 1], 2, [AV.ptr 1 0 0, AV.i IntKind.i64 0], 1, [AObj.ro nl n [Col.cs l], AObj.own 37 2 [AV.i IntKind.i64 c, AV.sl 0 0 n cap]])) (by kernel_rfl) ?_
            exact ⟨rfl, rfl, n, by omega, 0, by omega, rfl, may_a (by omega) (by omega) (by omega) (by omega), rfl⟩
  · intro mm st hi
    obtain ⟨i, hi, rfl, hp, rfl⟩ := hi
    refine pL_Q (k := 1) ?_
    refine H.sd 2 (fun b => b) ((↑i : Int) < (↑n : Int)) (by kernel_rfl) (fun h1 => ?_) (fun h1 => ?_)
    · refine H.kd 3 (fun b => b) ((↑i : Int) < (↑n : Int)) h1 (by kernel_rfl) ?_
      refine H.kl 0 (fun b => b) (0 + Int.toNat (↑i : Int)) (n) (by omega) (by kernel_rfl) ?_
      refine H.kb 1 (fun b => b) (b := Nat.ble (ByteArray.size (List.getD l (0 + Int.toNat (↑i : Int)) ByteArray.empty)) 10000) (d := true) (Nat.ble_eq_true_of_le (hl.2.2 _)) (by kernel_rfl) ?_
      rw [drop_at hl h1] at hp
      unfold alV at hp
      refine H.sb 1 (fun b => (!b)) (wdO (List.getD l (0 + Int.toNat (↑i : Int)) ByteArray.empty)) (by kernel_rfl) (fun h3 => ?_) (fun h3 => ?_)
      · refine H.lf (f := pL 1) 1 (Sum.inl ([.ptr 1 0 0, iv (wr .i64 ((i : Int) + 1))], 1, [.ro nl n [.cs l], .own 37 2 [iv c, .sl 0 0 n cap]])) (by kernel_rfl) ?_
        rw [h3, Bool.true_and] at hp
        have hlt2 : n - (i + 1) < n - i := by omega
        exact ⟨_, hlt2, i + 1, by omega, rfl, hp, by rw [wrN' (by omega)]⟩
      · rw [h3, Bool.false_and] at hp
        exact H.lf (f := pL 1) 1 (Sum.inr (Sum.inl (AV.b false, []))) (by kernel_rfl) (show Q _ from by rw [hp]; exact hq)
    · rw [drop_end hl (by omega)] at hp
      unfold alV at hp
      exact H.lf (f := pL 1) 1 (Sum.inr (Sum.inl (AV.b true, []))) (by kernel_rfl) (show Q _ from by rw [hp]; exact hq)
theorem v13 : Vw S27 13 k13 := by
  intro args objs Q h
  unfold k13 at h
  split at h
  · obtain ⟨h3, hq⟩ := br_ok h
    obtain ⟨rfl, rfl, hl⟩ := of_decide_eq_true h3
    exact t13 hl hq
  · exact h.elim
noncomputable def S21 : Sp := fun f => bif2 (Nat.beq f 21) (some (viewS k21)) (Sn f)
theorem s21 (N : NB) : SOk Tryd.prog N S21 := sOk_view tok (fok false) hmix (sn _) (sn _) v21
theorem itO_le {n : Int} (h : 0 ≤ n ∧ n < 9223372036854775808) : (itO n).size ≤ 20 := by
  rw [itO_eq]
  show (Lib.itoa n).toArray.size ≤ 20
  rw [List.size_toArray]
  unfold Lib.itoa
  rw [if_neg (by omega), Lib.decDigits_length]
  have := nd_le 18 n.toNat (by omega)
  omega
noncomputable def k14 : List AV → List AObj → T An
  | [.agg [.i .i64 c, .sl 0 r n _]], [.ro _ m [.cs l]] => .br (decide (atP r m n l ∧ 0 ≤ c ∧ c < 9223372036854775808)) (.ret (.s (bytO c l), [])) .fail
  | _, _ => .fail
theorem byt_step {c : Int} {l : List ByteArray} {i n : Nat} {s : ByteArray} {last : Bool} (hl : okL l n) (h : (i : Int) < n) (hlast : last = decide (i + 1 = n)) (hp : s ++ bytV c (l.drop i) = bytO c l) :
    (s ++ lineB c (l.getD (0 + Int.toNat (i : Int)) ByteArray.empty) last) ++ bytV c (l.drop (i + 1)) = bytO c l := by
  rw [← hp, drop_at hl h]
  unfold bytV
  have e : (l.drop (i + 1)).isEmpty = last := by
    rw [hlast]
    by_cases h2 : i + 1 = n
    · rw [decide_eq_true h2, List.drop_eq_nil_of_le (by rw [hl.1]; omega)]; rfl
    · rw [decide_eq_false h2]
      have : 0 < (l.drop (i + 1)).length := by rw [List.length_drop, hl.1]; omega
      cases hh : l.drop (i + 1) with
      | nil => rw [hh] at this; cases this
      | cons => rfl
  rw [e]
  cases hh : l.drop (i + 1) with
  | nil => unfold bytV; rw [ByteArray.append_assoc]
  | cons x t => rw [ByteArray.append_assoc]; rfl
theorem line_eq {s : ByteArray} {c : Int} {x : ByteArray} {last : Bool} (sg : ByteArray) (h : sg = if last then ⟨#[32]⟩ else ⟨#[45]⟩) : s ++ itO c ++ sg ++ x ++ ⟨#[13, 10]⟩ = s ++ lineB c x last := by
  unfold lineB
  rw [← h]
  simp only [ByteArray.append_assoc]
theorem t14 {nl : Bool} {n : Nat} {cap : Option Nat} {l : List ByteArray} {c : Int} {Q : An → Prop} (hl : okL l n) (hc : 0 ≤ c ∧ c < 9223372036854775808) (hq : Q (.s (bytO c l), [])) : H (ev S21 5 14 [.agg [iv c, .sl 0 0 n cap]] (memL 1 [.ro nl n [.cs l]])) (fun x => Q (resV 1 x)) F0 := by
  have h0 := hl.2.1
  have hic := itO_le hc
  refine fn1 (fi := fi14 false) (by kernel_rfl) (by kernel_rfl) (by kernel_rfl) rfl [0, 1, 0, 1, 1] 2 1 rfl (by kernel_rfl) (fun mm st => ∃ (i : Nat) (s : ByteArray), i ≤ n ∧ mm = n - i ∧ s ++ bytV c (l.drop i) = bytO c l ∧ s.size ≤ i * 10100 ∧ st = ([.ptr 1 0 0, .s s, iv i], 1, [.ro nl n [.cs l], .own 37 2 [iv c, .sl 0 0 n cap]])) ?_ ?_
  · refine pE_Q (k := 1) ?_
    refine H.lf (f := pE 1) 1 (Sum.inr ([0, 1, 0, 1, 1], 2, [AV.ptr 1 0 0, AV.s { data := #[] }, AV.i IntKind.i64 0], 1, [AObj.ro nl n [Col.cs l], AObj.own 37 2 [AV.i IntKind.i64 c, AV.sl 0 0 n cap]])) (by kernel_rfl) ?_
    exact ⟨rfl, rfl, n, by omega, 0, _, by omega, rfl, by rw [bytO_eq]; exact ByteArray.empty_append, by decide, rfl⟩
  · intro mm st hi
    obtain ⟨i, s, hi, rfl, hp, hs, rfl⟩ := hi
    have hx := hl.2.2 (0 + Int.toNat (i : Int))
    refine pL_Q (k := 1) ?_
    refine H.sd 2 (fun b => b) ((↑i : Int) < (↑n : Int)) (by kernel_rfl) (fun h1 => ?_) (fun h1 => ?_)
    · refine H.se 3 (fun b => b) ((↑i : Int)) (wr IntKind.i64 ((↑n : Int) - 1)) (by kernel_rfl) (fun h2 => ?_) (fun h2 => ?_)
      · refine H.kd 6 (fun b => b) (0 ≤ c ∧ c < 9223372036854775808) hc (by kernel_rfl) ?_
        refine H.kb 2 (fun b => b) (b := Nat.ble (ByteArray.size s + ByteArray.size (itO c)) 9223372036854775807) (d := true) (Nat.ble_eq_true_of_le (by first | omega | (simp only [emp, ba_size, z1, z2]; omega))) (by kernel_rfl) ?_
        refine H.kb 2 (fun b => b) (b := Nat.ble (ByteArray.size (s ++ itO c) + ByteArray.size ⟨#[32]⟩) 9223372036854775807) (d := true) (Nat.ble_eq_true_of_le (by first | omega | (simp only [emp, ba_size, z1, z2]; omega))) (by kernel_rfl) ?_
        refine H.kd 7 (fun b => b) ((↑i : Int) < (↑n : Int)) h1 (by kernel_rfl) ?_
        refine H.kl 1 (fun b => b) (0 + Int.toNat (↑i : Int)) (n) (by omega) (by kernel_rfl) ?_
        refine H.kb 3 (fun b => b) (b := Nat.ble (ByteArray.size (s ++ itO c ++ ⟨#[32]⟩) + ByteArray.size (List.getD l (0 + Int.toNat (↑i : Int)) ByteArray.empty)) 9223372036854775807) (d := true) (Nat.ble_eq_true_of_le (by first | omega | (simp only [emp, ba_size, z1, z2]; omega))) (by kernel_rfl) ?_
        refine H.kb 0 (fun b => b) (b := Nat.ble (ByteArray.size (s ++ itO c ++ ⟨#[32]⟩ ++ (List.getD l (0 + Int.toNat (↑i : Int)) ByteArray.empty)) + ByteArray.size ⟨#[13, 10]⟩) 9223372036854775807) (d := true) (Nat.ble_eq_true_of_le (by first | omega | (simp only [emp, ba_size, z1, z2]; omega))) (by kernel_rfl) ?_
        refine H.lf (f := pL 1) 1 (Sum.inl ([.ptr 1 0 0, .s (s ++ itO c ++ ⟨#[32]⟩ ++ (List.getD l (0 + Int.toNat (↑i : Int)) ByteArray.empty) ++ ⟨#[13, 10]⟩), iv (wr .i64 ((i : Int) + 1))], 1, [.ro nl n [.cs l], .own 37 2 [iv c, .sl 0 0 n cap]])) (by kernel_rfl) ?_
        have hlt2 : n - (i + 1) < n - i := by omega
        refine ⟨_, hlt2, i + 1, _, by omega, rfl, ?_, ?_, by rw [wrN' (by omega)]⟩
        · rw [line_eq (last := true) _ (by rfl)]
          rw [wr64 (by omega) (by omega)] at h2
          exact byt_step hl h1 ((decide_eq_true (by omega)).symm) hp
        · simp only [ba_size, z1, z2]; omega
      · refine H.kd 6 (fun b => b) (0 ≤ c ∧ c < 9223372036854775808) hc (by kernel_rfl) ?_
        refine H.kb 2 (fun b => b) (b := Nat.ble (ByteArray.size s + ByteArray.size (itO c)) 9223372036854775807) (d := true) (Nat.ble_eq_true_of_le (by first | omega | (simp only [emp, ba_size, z1, z2]; omega))) (by kernel_rfl) ?_
        refine H.kb 2 (fun b => b) (b := Nat.ble (ByteArray.size (s ++ itO c) + ByteArray.size ⟨#[45]⟩) 9223372036854775807) (d := true) (Nat.ble_eq_true_of_le (by first | omega | (simp only [emp, ba_size, z1, z2]; omega))) (by kernel_rfl) ?_
        refine H.kd 7 (fun b => b) ((↑i : Int) < (↑n : Int)) h1 (by kernel_rfl) ?_
        refine H.kl 1 (fun b => b) (0 + Int.toNat (↑i : Int)) (n) (by omega) (by kernel_rfl) ?_
        refine H.kb 3 (fun b => b) (b := Nat.ble (ByteArray.size (s ++ itO c ++ ⟨#[45]⟩) + ByteArray.size (List.getD l (0 + Int.toNat (↑i : Int)) ByteArray.empty)) 9223372036854775807) (d := true) (Nat.ble_eq_true_of_le (by first | omega | (simp only [emp, ba_size, z1, z2]; omega))) (by kernel_rfl) ?_
        refine H.kb 0 (fun b => b) (b := Nat.ble (ByteArray.size (s ++ itO c ++ ⟨#[45]⟩ ++ (List.getD l (0 + Int.toNat (↑i : Int)) ByteArray.empty)) + ByteArray.size ⟨#[13, 10]⟩) 9223372036854775807) (d := true) (Nat.ble_eq_true_of_le (by first | omega | (simp only [emp, ba_size, z1, z2]; omega))) (by kernel_rfl) ?_
        refine H.lf (f := pL 1) 1 (Sum.inl ([.ptr 1 0 0, .s (s ++ itO c ++ ⟨#[45]⟩ ++ (List.getD l (0 + Int.toNat (↑i : Int)) ByteArray.empty) ++ ⟨#[13, 10]⟩), iv (wr .i64 ((i : Int) + 1))], 1, [.ro nl n [.cs l], .own 37 2 [iv c, .sl 0 0 n cap]])) (by kernel_rfl) ?_
        have hlt2 : n - (i + 1) < n - i := by omega
        refine ⟨_, hlt2, i + 1, _, by omega, rfl, ?_, ?_, by rw [wrN' (by omega)]⟩
        · rw [line_eq (last := false) _ (by rfl)]
          rw [wr64 (by omega) (by omega)] at h2
          exact byt_step hl h1 ((decide_eq_false (by omega)).symm) hp
        · simp only [ba_size, z1, z2]; omega
    · refine H.lf (f := pL 1) 1 (Sum.inr (Sum.inl (AV.s s, []))) (by kernel_rfl) ?_
      rw [drop_end hl (by omega)] at hp
      unfold bytV at hp
      rw [ByteArray.append_empty] at hp
      show Q _
      rw [hp]; exact hq
theorem v14 : Vw S21 14 k14 := by
  intro args objs Q h
  unfold k14 at h
  split at h
  · obtain ⟨h3, hq⟩ := br_ok h
    obtain ⟨⟨rfl, rfl, hl⟩, hc⟩ := of_decide_eq_true h3
    exact t14 hl hc hq
  · exact h.elim
/-! ## The same lines -/
noncomputable def k28 : List AV → List AObj → T An
  | [.sl 0 r n _, .sl 1 r2 n2 _], [.vec _ m [.cs l], .ro _ m2 [.cs l2]] => .br (decide (atP r m n l ∧ atP r2 m2 n2 l2 ∧ l = l2)) (.ret (.b true, [])) .fail
  | [.v (.slice none 0 0), .sl 0 _ n _], [.ro _ _ [.cs _]] => .br (Nat.beq n 0) (.ret (.b true, [])) .fail
  | _, _ => .fail
theorem t28 {el : Nat} {nl : Bool} {n : Nat} {cap cap2 : Option Nat} {l : List ByteArray} {Q : An → Prop} (hl : okL l n) (hq : Q (.b true, [])) : H (ev Sn 5 28 [.sl 0 0 n cap, .sl 1 0 n cap2] (memL 2 [.vec el n [.cs l], .ro nl n [.cs l]])) (fun x => Q (resV 2 x)) F0 := by
  have h0 := hl.2.1
  refine fn1 (fi := fi28 false) (by kernel_rfl) (by kernel_rfl) (by kernel_rfl) rfl [0, 1, 0, 1, 1] 2 2 rfl (by kernel_rfl) (fun mm st => ∃ i : Nat, i ≤ n ∧ mm = n - i ∧ st = ([.sl 0 0 n cap, .sl 1 0 n cap2, iv i], 2, [.vec el n [.cs l], .ro nl n [.cs l]])) ?_ ?_
  · refine pE_Q (k := 2) ?_
    refine H.ke 1 (fun b => (!b)) ((↑n : Int)) ((↑n : Int)) rfl (by kernel_rfl) ?_
    refine H.lf (f := pE 2) 0 (Sum.inr ([0, 1, 0, 1, 1], 2, [AV.sl 0 0 n cap, AV.sl 1 0 n cap2, AV.i IntKind.i64 0], 2, [.vec el n [.cs l], .ro nl n [.cs l]])) (by kernel_rfl) ?_
    exact ⟨rfl, rfl, n, by omega, 0, by omega, rfl, rfl⟩
  · intro mm st hi
    obtain ⟨i, hi, rfl, rfl⟩ := hi
    refine pL_Q (k := 2) ?_
    refine H.sd 1 (fun b => b) ((↑i : Int) < (↑n : Int)) (by kernel_rfl) (fun h1 => ?_) (fun h1 => ?_)
    · refine H.kd 5 (fun b => b) ((↑i : Int) < (↑n : Int)) h1 (by kernel_rfl) ?_
      refine H.kl 1 (fun b => b) (0 + Int.toNat (↑i : Int)) (n) (by omega) (by kernel_rfl) ?_
      refine H.kd 5 (fun b => b) ((↑i : Int) < (↑n : Int)) h1 (by kernel_rfl) ?_
      refine H.kl 1 (fun b => b) (0 + Int.toNat (↑i : Int)) (n) (by omega) (by kernel_rfl) ?_
      refine H.kb 3 (fun b => (!b)) (b := ByteArray.toList (List.getD l (0 + Int.toNat (↑i : Int)) ByteArray.empty) == ByteArray.toList (List.getD l (0 + Int.toNat (↑i : Int)) ByteArray.empty)) (d := true) (beq_self_eq_true _) (by kernel_rfl) ?_
      refine H.lf (f := pL 2) 1 (Sum.inl ([AV.sl 0 0 n cap, AV.sl 1 0 n cap2, iv (wr .i64 ((↑i : Int) + 1))], 2, [.vec el n [.cs l], .ro nl n [.cs l]])) (by kernel_rfl) ?_
      have hlt2 : n - (i + 1) < n - i := by omega
      exact ⟨_, hlt2, i + 1, by omega, rfl, by rw [wrN' (by omega)]⟩
    · exact H.lf (f := pL 2) 0 (Sum.inr (Sum.inl (AV.b true, []))) (by kernel_rfl) hq
theorem t28n {nl : Bool} {m r : Nat} {cap : Option Nat} {l : List ByteArray} {Q : An → Prop} (hq : Q (.b true, [])) : H (ev Sn 5 28 [.v (.slice none 0 0), .sl 0 r 0 cap] (memL 1 [.ro nl m [.cs l]])) (fun x => Q (resV 1 x)) F0 := by
  refine fn1 (fi := fi28 false) (by kernel_rfl) (by kernel_rfl) (by kernel_rfl) rfl [0, 1, 0, 1, 1] 1 1 rfl (by kernel_rfl) (fun mm st => st = ([.v (.slice none 0 0), .sl 0 r 0 cap, iv 0], 1, [.ro nl m [.cs l]])) ?_ ?_
  · refine pE_Q (k := 1) ?_
    refine H.lf (f := pE 1) 50 (Sum.inr ([0, 1, 0, 1, 1], 1, [.v (.slice none 0 0), .sl 0 r 0 cap, AV.i IntKind.i64 0], 1, [.ro nl m [.cs l]])) (by kernel_rfl) ?_
    exact ⟨rfl, rfl, 0, by omega, rfl⟩
  · intro mm st hi
    subst hi
    refine pL_Q (k := 1) ?_
    exact H.lf (f := pL 1) 50 (Sum.inr (Sum.inl (.b true, []))) (by kernel_rfl) hq
theorem v28 : Vw Sn 28 k28 := by
  intro args objs Q h
  unfold k28 at h
  split at h
  · obtain ⟨h3, hq⟩ := br_ok h
    obtain ⟨⟨rfl, rfl, hl⟩, ⟨rfl, rfl, hl2⟩, rfl⟩ := of_decide_eq_true h3
    have e := hl.1.symm.trans hl2.1
    subst e
    exact t28 hl hq
  · obtain ⟨h3, hq⟩ := br_ok h
    have e := Nat.eq_of_beq_eq_true h3
    subst e
    exact t28n hq
  · exact h.elim
end Go.Proofs.TabX
