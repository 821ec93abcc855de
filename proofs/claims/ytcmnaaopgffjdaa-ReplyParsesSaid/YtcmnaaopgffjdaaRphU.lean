/- Lemmas about the evaluator of the code. -/
import Derived.Test.YtcmnaaopgffjdaaRpgU
set_option linter.all false
set_option linter.deprecated false
set_option maxRecDepth 1000000
set_option maxHeartbeats 4000000
namespace Go.Proofs.TabU
open Go Go.Eng
noncomputable def rdV : List ByteArray → Bool → Bool → Int → Int
  | [], _, opn, _ => if opn then 7 else 0
  | s :: t, first, opn, code => if lnO s && (first || (opn && lnC s == code)) then rdV t false (lnM s) (lnC s) else 1
noncomputable def rdE (l : List ByteArray) (n : Nat) : Int := opq (if n ≤ 16 then rdV l true true 0 else 1)
theorem rdE_eq (l : List ByteArray) (n : Nat) : rdE l n = if n ≤ 16 then rdV l true true 0 else 1 := opq_eq _
noncomputable def rdC (l : List ByteArray) (i : Nat) : Int := opq (lnC (l.getD (i - 1) ByteArray.empty))
theorem rdC_eq (l : List ByteArray) (i : Nat) : rdC l i = lnC (l.getD (i - 1) ByteArray.empty) := opq_eq _
noncomputable def rdT (l : List ByteArray) (i : Nat) : List ByteArray := opq ((l.take i).map lnT)
theorem rdT_eq (l : List ByteArray) (i : Nat) : rdT l i = (l.take i).map lnT := opq_eq _
theorem rdV_case (l : List ByteArray) (a b : Bool) (c : Int) : rdV l a b c = 0 ∨ rdV l a b c = 1 ∨ rdV l a b c = 7 := by
  induction l generalizing a b c with
  | nil => unfold rdV; split <;> simp
  | cons s t ih => unfold rdV; split; exact ih _ _ _; simp
noncomputable def k31 : List AV → List AObj → T An
  | [.sl 0 r n _], [.vec _ m [.cs l]] => .br (decide (r = 0 ∧ n ≤ m ∧ okL l m)) (.br (rdE (l.take n) n == 0) (.ret (.agg [iv (rdC (l.take n) n), .sl 1 0 n none], [.vec 9 n [.cs (rdT (l.take n) n)]])) (.br (rdE (l.take n) n == 7) (.pan (wrV 7) mem0) (.pan (wrV 1) mem0))) .fail
  | [.v (.slice none 0 0)], [] => .pan (wrV 7) mem0
  | _, _ => .fail
theorem t31 {el n m : Nat} {cap : Option Nat} {l l2 : List ByteArray} {Q : An → Prop} {Qp : AV → Prop} (hl : okL l n) (hm : n ≤ m) (hl2 : okL l2 m) (hL : l = l2.take n) (hq : rdE l n = 0 → Q (.agg [iv (rdC l n), .sl 1 0 n none], [.vec 9 n [.cs (rdT l n)]])) (hp7 : rdE l n = 7 → Qp (wrV 7)) (hp1 : rdE l n = 1 → Qp (wrV 1)) :
    H (ev S42 5 29 [.sl 0 0 n cap] (memL 1 [.vec el m [.cs l2]])) (fun x => Q (resV 1 x)) (fun x _ => plain0 x = true ∧ Qp x) := by
  have h0 := hl.2.1
  have hX : ∀ i : Nat, (i : Int) < n → l.getD (0 + Int.toNat (i : Int)) ByteArray.empty = l2.getD (0 + Int.toNat (i : Int)) ByteArray.empty := fun i h => by
    rw [hL, List.getD_eq_getElem?_getD, List.getD_eq_getElem?_getD, List.getElem?_take, if_pos (by omega)]
  refine fn1P (fi := fi29 false) (by kernel_rfl) (by kernel_rfl) (by kernel_rfl) rfl [0, 1, 0, 1, 1, 1] 2 1 rfl (by kernel_rfl) (fun mm st => ∃ i : Nat, i ≤ n ∧ n ≤ 16 ∧ mm = n - i ∧
    ((i = 0 ∧ rdV l true true 0 = rdE l n ∧ st = ([.ptr 1 0 0, .b true, .sl 0 0 n cap, iv n, iv 0], 1, [.vec el m [.cs l2], .own 26 2 [iv 0, .v (.slice none 0 0)]])) ∨
      (0 < i ∧ ∃ opn : Bool, rdV (l.drop i) false opn (rdC l i) = rdE l n ∧ st = ([.ptr 1 0 0, .b opn, .sl 0 0 n cap, iv n, iv i], 1, [.vec el m [.cs l2], .own 26 2 [iv (rdC l i), .sl 2 0 i none], .vec 9 i [.cs (rdT l i)]])))) ?_ ?_
  · refine pE_P (k := 1) ?_
    refine H.sd 3 (fun b => (!b)) ((↑n : Int) ≤ 16) (by kernel_rfl) (fun h1 => ?_) (fun h1 => ?_)
    · refine H.lf (f := pE 1) 0 (Sum.inr ([0, 1, 0, 1, 1, 1], 2, [.ptr 1 0 0, .b true, .sl 0 0 n cap, iv n, iv 0], 1, [.vec el m [.cs l2], .own 26 2 [iv 0, .v (.slice none 0 0)]])) (by kernel_rfl) ?_
      exact ⟨rfl, rfl, n, by omega, 0, by omega, by omega, rfl, .inl ⟨rfl, by rw [rdE_eq, if_pos (by omega)], rfl⟩⟩
    · exact H.pn 200 (wrV 1) (by kernel_rfl) fun _ => ⟨rfl, hp1 (by rw [rdE_eq, if_neg (by omega)])⟩
  · intro mm st hi
    obtain ⟨i, hi, hn16, rfl, ⟨rfl, hr, rfl⟩ | ⟨hi0, opn, hr, rfl⟩⟩ := hi
    · refine pL_P (k := 1) ?_
      refine H.sd 1 (fun b => b) ((0 : Int) < (↑n : Int)) (by kernel_rfl) (fun h1 => ?_) (fun h1 => ?_)
      · refine H.kd 2 (fun b => b) ((0 : Int) < (↑n : Int)) h1 (by kernel_rfl) ?_
        refine H.kl 0 (fun b => b) (0) (m) (by omega) (by kernel_rfl) ?_
        refine H.kb 1 (fun b => b) (b := Nat.ble (ByteArray.size (List.getD l2 0 ByteArray.empty)) 10000) (d := true) (Nat.ble_eq_true_of_le (hl2.2.2 _)) (by kernel_rfl) ?_
        have hd : l = (List.getD l2 0 ByteArray.empty) :: l.drop 1 := by
          have := drop_at (i := 0) hl h1
          rw [List.drop_zero, hX 0 h1] at this
          exact this
        rw [hd] at hr
        unfold rdV at hr
        rw [← hd, Bool.true_or, Bool.and_true] at hr
        refine H.sb 0 (fun b => b) (lnO (List.getD l2 0 ByteArray.empty)) (by kernel_rfl) (fun h2 => ?_) (fun h2 => ?_)
        · refine H.lf (f := pL 1) 31 (Sum.inl ([.ptr 1 0 0, .b (lnM (List.getD l2 0 ByteArray.empty)), .sl 0 0 n cap, iv n, iv 1], 1, [.vec el m [.cs l2], .own 26 2 [iv (lnC (List.getD l2 0 ByteArray.empty)), .sl 2 0 1 none], .vec 9 1 [.cs [lnT (List.getD l2 0 ByteArray.empty)]]])) (by kernel_rfl) ?_
          rw [if_pos h2] at hr
          have hlt2 : n - 1 < n - 0 := by omega
          have eC : rdC l 1 = lnC (List.getD l2 0 ByteArray.empty) := by rw [rdC_eq]; exact congrArg lnC (hX 0 h1)
          refine ⟨_, hlt2, 1, by omega, hn16, rfl, .inr ⟨by omega, lnM (List.getD l2 0 ByteArray.empty), by rw [eC]; exact hr, ?_⟩⟩
          have e : rdT l 1 = [lnT (List.getD l2 0 ByteArray.empty)] := by
            rw [rdT_eq, hd, List.take_succ_cons, List.take_zero]; rfl
          rw [e, eC]; rfl
        · rw [h2, if_neg (by decide)] at hr
          exact H.pn 200 (wrV 1) (by kernel_rfl) fun _ => ⟨rfl, hp1 hr.symm⟩
      · have e0 : l = [] := List.length_eq_zero_iff.1 (by rw [hl.1]; omega)
        rw [e0] at hr
        unfold rdV at hr
        rw [if_pos rfl, ← e0] at hr
        exact H.pn 200 (wrV 7) (by kernel_rfl) fun _ => ⟨rfl, hp7 hr.symm⟩
    · refine pL_P (k := 1) ?_
      refine H.sd 1 (fun b => b) ((↑i : Int) < (↑n : Int)) (by kernel_rfl) (fun h1 => ?_) (fun h1 => ?_)
      · refine H.kd 2 (fun b => b) ((↑i : Int) < (↑n : Int)) h1 (by kernel_rfl) ?_
        refine H.kl 0 (fun b => b) (0 + Int.toNat (↑i : Int)) (m) (by omega) (by kernel_rfl) ?_
        refine H.kb 1 (fun b => b) (b := Nat.ble (ByteArray.size (List.getD l2 (0 + Int.toNat (↑i : Int)) ByteArray.empty)) 10000) (d := true) (Nat.ble_eq_true_of_le (hl2.2.2 _)) (by kernel_rfl) ?_
        rw [drop_at hl h1, hX i h1] at hr
        unfold rdV at hr
        rw [Bool.false_or] at hr
        refine H.sb 0 (fun b => b) (lnO (List.getD l2 (0 + Int.toNat (↑i : Int)) ByteArray.empty)) (by kernel_rfl) (fun h2 => ?_) (fun h2 => ?_)
        · rw [h2, Bool.true_and] at hr
          refine H.ne 2 (fun b => (b == false)) ((↑i : Int)) (0) (by omega) (by kernel_rfl) ?_
          refine H.sb 1 (fun b => (b == true)) (opn) (by kernel_rfl) (fun h3 => ?_) (fun h3 => ?_)
          · rw [h3, Bool.true_and] at hr
            refine H.se 9 (fun b => (!b)) (lnC (List.getD l2 (0 + Int.toNat (↑i : Int)) ByteArray.empty)) (rdC l i) (by kernel_rfl) (fun h4 => ?_) (fun h4 => ?_)
            · rw [if_pos (beq_iff_eq.2 h4)] at hr
              refine H.kb 10 (fun b => b) (b := Nat.ble (0 + i) i) (d := true) (Nat.ble_eq_true_of_le (by omega)) (by kernel_rfl) ?_
              refine H.kb 0 (fun b => b) (b := Nat.blt 0 16 && Nat.ble ((i + 1) * 16) 140737488355328) (d := true) (by rw [Nat.ble_eq_true_of_le (by omega)]; rfl) (by kernel_rfl) ?_
              refine H.kb 0 (fun b => b) (b := Nat.beq (i + 1) (i + 1) && Nat.beq 1 1) (d := true) (by rw [Nat.beq_refl]; rfl) (by kernel_rfl) ?_
              refine H.lf (f := pL 1) 10 (Sum.inl ([.ptr 1 0 0, .b (lnM (List.getD l2 (0 + Int.toNat (↑i : Int)) ByteArray.empty)), .sl 0 0 n cap, iv n, iv (wr .i64 ((i : Int) + 1))], 1, [.vec el m [.cs l2], .own 26 2 [iv (lnC (List.getD l2 (0 + Int.toNat (↑i : Int)) ByteArray.empty)), .sl 2 0 (i + 1) none], .vec 9 (i + 1) [.cs (List.take i (List.drop 0 (rdT l i)) ++ [lnT (List.getD l2 (0 + Int.toNat (↑i : Int)) ByteArray.empty)])]])) (by kernel_rfl) ?_
              have hlt2 : n - (i + 1) < n - i := by omega
              have ei : 0 + Int.toNat (i : Int) = i := by omega
              have eC : rdC l (i + 1) = lnC (List.getD l2 (0 + Int.toNat (↑i : Int)) ByteArray.empty) := by rw [rdC_eq, ← hX i h1, ei]; rfl
              refine ⟨_, hlt2, i + 1, by omega, hn16, rfl, .inr ⟨by omega, lnM (List.getD l2 (0 + Int.toNat (↑i : Int)) ByteArray.empty), by rw [eC]; exact hr, ?_⟩⟩
              have e : List.take i (List.drop 0 (rdT l i)) ++ [lnT (List.getD l2 (0 + Int.toNat (↑i : Int)) ByteArray.empty)] = rdT l (i + 1) := by
                have := take_at hl h1
                rw [hX i h1] at this
                rw [rdT_eq, rdT_eq, ← this, List.map_append, List.drop_zero, List.take_of_length_le (by rw [List.length_map, List.length_take]; omega)]
                rfl
              rw [e, eC, wrN' (by omega)]
            · rw [if_neg (by rw [beq_iff_eq]; exact h4)] at hr
              exact H.pn 200 (wrV 1) (by kernel_rfl) fun _ => ⟨rfl, hp1 hr.symm⟩
          · rw [h3, Bool.false_and, if_neg (by decide)] at hr
            exact H.pn 200 (wrV 1) (by kernel_rfl) fun _ => ⟨rfl, hp1 hr.symm⟩
        · rw [h2, Bool.false_and, if_neg (by decide)] at hr
          exact H.pn 200 (wrV 1) (by kernel_rfl) fun _ => ⟨rfl, hp1 hr.symm⟩
      · have ein : i = n := by omega
        subst ein
        rw [drop_end hl (Nat.le_refl _)] at hr
        unfold rdV at hr
        refine H.sb 1 (fun b => (!(!b))) (opn) (by kernel_rfl) (fun h2 => ?_) (fun h2 => ?_)
        · rw [if_pos h2] at hr
          exact H.pn 200 (wrV 7) (by kernel_rfl) fun _ => ⟨rfl, hp7 hr.symm⟩
        · rw [h2, if_neg (by decide)] at hr
          exact H.lf (f := pL 1) 6 (Sum.inr (Sum.inl (AV.agg [iv (rdC l i), AV.sl 1 0 i none], [AObj.vec 9 i [Col.cs (rdT l i)]]))) (by kernel_rfl) (hq hr.symm)
theorem okL_take {l : List ByteArray} {n m : Nat} (h : okL l m) (hm : n ≤ m) : okL (l.take n) n := by
  refine ⟨by rw [List.length_take, h.1]; omega, by have := h.2.1; omega, fun j => ?_⟩
  by_cases hj : j < n
  · have := h.2.2 j
    rwa [List.getD_eq_getElem?_getD, List.getElem?_take, if_pos hj, ← List.getD_eq_getElem?_getD]
  · rw [List.getD_eq_getElem?_getD, List.getElem?_take, if_neg hj]
    exact Nat.zero_le _
theorem t31n {Q : An → Prop} {Qp : AV → Prop} (hp7 : Qp (wrV 7)) : H (ev S42 5 29 [.v (.slice none 0 0)] (memL 0 [])) (fun x => Q (resV 0 x)) (fun x _ => plain0 x = true ∧ Qp x) := by
  refine fn1P (fi := fi29 false) (by kernel_rfl) (by kernel_rfl) (by kernel_rfl) rfl [0, 1, 0, 1, 1, 1] 1 0 rfl (by kernel_rfl) (fun mm st => st = ([.ptr 0 0 0, .b true, .v (.slice none 0 0), iv 0, iv 0], 0, [.own 26 2 [iv 0, .v (.slice none 0 0)]])) ?_ ?_
  · refine pE_P (k := 0) ?_
    refine H.lf (f := pE 0) 200 (Sum.inr ([0, 1, 0, 1, 1, 1], 1, [.ptr 0 0 0, .b true, .v (.slice none 0 0), iv 0, iv 0], 0, [.own 26 2 [iv 0, .v (.slice none 0 0)]])) (by kernel_rfl) ?_
    exact ⟨rfl, rfl, 0, by omega, rfl⟩
  · intro mm st hi
    subst hi
    refine pL_P (k := 0) ?_
    exact H.pn 200 (wrV 7) (by kernel_rfl) fun _ => ⟨rfl, hp7⟩
theorem v31 : VwP S42 29 k31 := by
  intro args objs Q Qp h
  unfold k31 at h
  split at h
  · rename_i r n cap el m l
    obtain ⟨h1, h2⟩ := br_ok h
    obtain ⟨rfl, hm, hl2⟩ := of_decide_eq_true h1
    have hl := okL_take hl2 hm
    refine t31 hl hm hl2 rfl (fun e => h2.1 (beq_iff_eq.2 e)) (fun e => ?_) (fun e => ?_)
    · exact (h2.2 (by rw [e]; rfl)).1 (by rw [e]; rfl)
    · exact (h2.2 (by rw [e]; rfl)).2 (by rw [e]; rfl)
  · exact t31n h
  · exact h.elim
noncomputable def S31 : Sp := fun f => bif2 (Nat.beq f 29) (some (viewP k31)) (Sn f)
theorem s31 (N : NB) : SOk Try.prog N S31 := sOk_viewP tok (fok false) hmix (s42 _) (sn _) v31
end Go.Proofs.TabU
