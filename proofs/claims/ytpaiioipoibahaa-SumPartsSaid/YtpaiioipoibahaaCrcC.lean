/- What the sums and copies of bytes are, proved by the evaluator for all arguments that each contract names. -/
import Derived.Test.YtpaiioipoibahaaCrcB
set_option linter.all false
set_option linter.deprecated false
set_option maxRecDepth 1000000
set_option maxHeartbeats 4000000
namespace Go.Proofs.TabA
open Go Go.Eng
theorem t14n {s0 : Int} {Q : An → Prop} (hq : Q (uv (cA [] 0 0 s0), [])) : H (ev S0 5 14 [uv s0, .v (.slice none 0 0)] (memL 0 [])) (fun x => Q (resV 0 x)) F0 := by
  refine fn1 (fi := fi14 false) (by kernel_rfl) (by kernel_rfl) (by kernel_rfl) rfl [0, 1, 0, 1, 1] 0 0 rfl (by kernel_rfl) (fun mm s => s = ([uv (xo 4294967295 s0), .v (.slice none 0 0), iv 0, iv 0, .top], 0, [])) ?_ ?_
  · refine pE_Q (k := 0) ?_
    refine H.lf (f := pE 0) 0 (Sum.inr ([0, 1, 0, 1, 1], 0, [uv (xo 4294967295 s0), .v (.slice none 0 0), iv 0, iv 0, .top], 0, [])) (by kernel_rfl) ?_
    exact ⟨rfl, rfl, 0, by omega, rfl⟩
  · intro mm s hi
    subst hi
    refine pL_Q (k := 0) ?_
    exact H.lf (f := pL 0) 50 (Sum.inr (Sum.inl (uv (xo 4294967295 (xo 4294967295 s0)), []))) (by kernel_rfl) hq
theorem t14e {s0 : Int} {Q : An → Prop} (hq : Q (uv (cA [] 0 0 s0), [])) : H (ev S0 5 14 [uv s0, .e] (memL 0 [])) (fun x => Q (resV 0 x)) F0 := by
  refine fn1 (fi := fi14 false) (by kernel_rfl) (by kernel_rfl) (by kernel_rfl) rfl [0, 1, 0, 1, 1] 0 0 rfl (by kernel_rfl) (fun mm s => s = ([uv (xo 4294967295 s0), .e, iv 0, iv 0, .top], 0, [])) ?_ ?_
  · refine pE_Q (k := 0) ?_
    refine H.lf (f := pE 0) 0 (Sum.inr ([0, 1, 0, 1, 1], 0, [uv (xo 4294967295 s0), .e, iv 0, iv 0, .top], 0, [])) (by kernel_rfl) ?_
    exact ⟨rfl, rfl, 0, by omega, rfl⟩
  · intro mm s hi
    subst hi
    refine pL_Q (k := 0) ?_
    exact H.lf (f := pL 0) 50 (Sum.inr (Sum.inl (uv (xo 4294967295 (xo 4294967295 s0)), []))) (by kernel_rfl) hq
theorem t16n {l2 : List Int} {nl : Bool} {m2 r2 : Nat} {cap2 : Option Nat} {Q : An → Prop} (hq : Q (.b true, [])) :
    H (ev S0 5 16 [.v (.slice none 0 0), .sl 0 r2 0 cap2] (memL 1 [.ro nl m2 [.ci .u8 l2]])) (fun x => Q (resV 1 x)) F0 := by
  refine fn1 (fi := fi16 false) (by kernel_rfl) (by kernel_rfl) (by kernel_rfl) rfl [0, 1, 0, 1, 1] 1 1 rfl (by kernel_rfl) (fun mm s => s = ([.v (.slice none 0 0), .sl 0 r2 0 cap2, iv 0], 1, [.ro nl m2 [.ci .u8 l2]])) ?_ ?_
  · refine pE_Q (k := 1) ?_
    refine H.lf (f := pE 1) 50 (Sum.inr ([0, 1, 0, 1, 1], 1, [.v (.slice none 0 0), .sl 0 r2 0 cap2, iv 0], 1, [.ro nl m2 [.ci .u8 l2]])) (by kernel_rfl) ?_
    exact ⟨rfl, rfl, 0, by omega, rfl⟩
  · intro mm s hi
    subst hi
    refine pL_Q (k := 1) ?_
    exact H.lf (f := pL 1) 50 (Sum.inr (Sum.inl (.b true, []))) (by kernel_rfl) hq
noncomputable def k14 : List AV → List AObj → T An
  | [.i .u32 s, .sl 0 r n _], [.ro _ m [.ci .u8 l]] => .br (decide (r + n ≤ m ∧ n ≤ 3000)) (.ret (uv (cA l r n s), [])) .fail
  | [.i .u32 s, .sl 0 r n _], [.vec _ m [.ci .u8 l]] => .br (decide (r + n ≤ m ∧ n ≤ 3000)) (.ret (uv (cA l r n s), [])) .fail
  | [.i .u32 s, .v (.slice none 0 0)], [] => .ret (uv (cA [] 0 0 s), [])
  | [.i .u32 s, .e], [] => .ret (uv (cA [] 0 0 s), [])
  | _, _ => .fail
noncomputable def k15 : List AV → List AObj → T An
  | [.i .u32 s, .sl 0 r n _], [.ro _ m [.ci .u8 l]] => .br (decide (r + n ≤ m ∧ n ≤ 3000)) (.ret (uv (cB l r n s), [])) .fail
  | _, _ => .fail
noncomputable def k13 : List AV → List AObj → T An
  | [.sl 0 r n _], [.ro _ m [.ci .u8 l]] => .br (decide (r + n ≤ m ∧ n ≤ 3000)) (.br (decide (n = 0)) (.ret (.v (.slice none 0 0), [])) (.ret (.sl 1 0 n none, [.vec 5 n [.ci .u8 (tk l r n)]]))) .fail
  | _, _ => .fail
noncomputable def k16 : List AV → List AObj → T An
  | [.sl 0 r n _, .sl 1 r2 n2 _], [.vec _ m [.ci .u8 l], .ro _ m2 [.ci .u8 l2]] => .br (decide (n = n2 ∧ r + n ≤ m ∧ r2 + n ≤ m2 ∧ n ≤ 3000)) (.br (decide (∀ i, i < n → l.getD (r + i) 0 = l2.getD (r2 + i) 0)) (.ret (.b true, [])) .fail) .fail
  | [.v (.slice none 0 0), .sl 0 _ n2 _], [.ro _ _ [.ci .u8 _]] => .br (decide (n2 = 0)) (.ret (.b true, [])) .fail
  | _, _ => .fail
abbrev Vw (S : Sp) (n : Nat) (g : List AV → List AObj → T An) : Prop := ∀ args objs Q, (g args objs).holds Q F0 → H (ev S 5 n args (memL objs.length objs)) (fun x => Q (resV objs.length x)) F0
theorem v14 : Vw S0 14 k14 := by
  intro args objs Q h
  unfold k14 at h
  split at h
  · obtain ⟨h1, h⟩ := br_ok h
    have h1 := of_decide_eq_true h1
    exact t14r h1.1 h1.2 h
  · obtain ⟨h1, h⟩ := br_ok h
    have h1 := of_decide_eq_true h1
    exact t14v h1.1 h1.2 h
  · exact t14n h
  · exact t14e h
  · exact h.elim
theorem v15 : Vw S0 15 k15 := by
  intro args objs Q h
  unfold k15 at h
  split at h
  · obtain ⟨h1, h⟩ := br_ok h
    have h1 := of_decide_eq_true h1
    exact t15r h1.1 h1.2 h
  · exact h.elim
theorem v13 : Vw S0 13 k13 := by
  intro args objs Q h
  unfold k13 at h
  split at h
  · obtain ⟨h1, h⟩ := br_ok h
    have h1 := of_decide_eq_true h1
    exact t13 h1.1 h1.2 (fun e => h.1 (decide_eq_true e)) (fun e => h.2 (decide_eq_false (by omega)))
  · exact h.elim
theorem v16 : Vw S0 16 k16 := by
  intro args objs Q h
  unfold k16 at h
  split at h
  · obtain ⟨h1, k1⟩ := br_ok h
    obtain ⟨h2, k2⟩ := br_ok k1
    have h3 := of_decide_eq_true h1
    have h4 := of_decide_eq_true h2
    clear h1 h2 k1 h
    obtain ⟨rfl, h3⟩ := h3
    exact t16 h3.1 h3.2.1 h3.2.2 h4 k2
  · obtain ⟨h1, k1⟩ := br_ok h
    have h3 := of_decide_eq_true h1
    clear h1 h
    subst h3
    exact t16n k1
  · exact h.elim
noncomputable def g17 : List AV → T AV
  | [] => .ret (.b true)
  | _ => .fail
theorem c17 : Ctr S0 17 g17 := by
  intro args Q h
  unfold g17 at h
  split at h
  · refine ⟨rfl, ctr_run (v := so (.b true)) ?_ ?_⟩
    · kernel_rfl
    · exact leaf_ok h rfl rfl
  · exact h.elim
theorem c0 {l : List Int} {n : Nat} {s : Int} (h : n = 0) : cA [] 0 0 s = cB l 0 n s := by subst h; rw [c_same]; rfl
theorem c1 {l : List Int} {n : Nat} {s : Int} : cA (tk l 0 n) 0 n s = cB l 0 n s := by
  rw [c_same]
  unfold cB
  rw [cr_congr stB1 (l := tk l 0 n) (l' := l) (r' := 0) _ n (fun i hi => by rw [Nat.zero_add, tk_get _ _ _ _ hi, Nat.zero_add])]
theorem tkAll {l : List Int} {n : Nat} : ∀ i, i < n → (tk l 0 n).getD (0 + i) 0 = l.getD (0 + i) 0 := fun i hi => by rw [Nat.zero_add, tk_get _ _ _ _ hi, Nat.zero_add]

noncomputable def S3 : Sp := fun n => bif2 (Nat.beq n 13) (some (viewS k13)) (bif2 (Nat.beq n 14) (some (viewS k14)) (bif2 (Nat.beq n 15) (some (viewS k15)) (bif2 (Nat.beq n 16) (some (viewS k16)) (bif2 (Nat.beq n 18) (some (treeS g18)) (bif2 (Nat.beq n 17) (some (treeS g17)) none)))))
theorem s3 (N : Nat) : SOk Try.prog N S3 :=
  sOk_view tok (fok false) hmix (s0 N) (sOk_view tok (fok false) hmix (s0 N) (sOk_view tok (fok false) hmix (s0 N) (sOk_view tok (fok false) hmix (s0 N) (sOk_ctr tok (fok false) hmix (s0 N) (sOk_ctr tok (fok false) hmix (s0 N) (s0 N) c17) c18) v16) v15) v14) v13
end Go.Proofs.TabA
