/- Lemmas about the evaluator of the code. -/
import Derived.Test.YtcmnaaopgffjdaaSbU
import Derived.Test.YtcmnaaopgffjdaaEngMd
set_option linter.all false
set_option linter.deprecated false
set_option maxRecDepth 1000000
set_option maxHeartbeats 4000000
namespace Go.Proofs.TabU
open Go Go.Eng
/-! ## A function that writes what it is given -/
def OkLT (I : St3 → Prop) : St3 ⊕ (AV ⊕ Stop) → Prop
  | .inl s => I s
  | .inr (.inl v) => v = .tup []
  | .inr (.inr _) => False
def OkET (G : Stop → Prop) : AV ⊕ Stop → Prop
  | .inl v => v = .tup []
  | .inr t => G t
theorem lawL_T {x : T (St3 ⊕ ((AV × Mem) ⊕ Stop))} {I : St3 → Prop} (h : H x (fun y => OkLT I (oc2 y)) F0) : H x (OkS I (OkY (fun y : AV × Mem => y.1 = .tup []) (fun _ => False))) F0 := h.mono fun y h => by
  rcases y with s | (r | t) <;> exact h
theorem lawE_T {x : T ((AV × Mem) ⊕ Stop)} {G : Stop → Prop} (h : H x (fun y => OkET G (oc y)) F0) : H x (OkY (fun y : AV × Mem => y.1 = .tup []) G) F0 := h.mono fun y h => by
  rcases y with r | t <;> exact h
theorem t13 {n : Nat} (l : List ByteArray) (hl : l.length = n) (hn : n ≤ 10000) : H (ev Sn 5 13 [.sl 0 0 n none] (memL 0 [.vec 9 n [.cs l]])) (fun x => x.1 = .tup []) F0 := by
  refine fn1P (fi := fi13 false) (by kernel_rfl) (by kernel_rfl) (by kernel_rfl) rfl [0, 1, 0] 1 1 rfl (by kernel_rfl) (fun mm st => ∃ (i : Nat) (l2 : List ByteArray), i ≤ n ∧ mm = n - i ∧ l2.length = n ∧ st = ([.sl 0 0 n none, iv i], 0, [.vec 9 n [.cs l2]])) ?_ ?_
  · refine lawE_T ?_
    refine H.lf (f := oc) 0 (Sum.inr ([0, 1, 0], 1, [AV.sl 0 0 n none, AV.i IntKind.i64 0], 0, [AObj.vec 9 n [Col.cs l]])) (by kernel_rfl) ?_
    exact ⟨rfl, rfl, n, by omega, 0, l, by omega, rfl, hl, rfl⟩
  · intro mm st hi
    obtain ⟨i, l, hi, rfl, hl, rfl⟩ := hi
    refine lawL_T ?_
    refine H.sd 1 (fun b => b) ((↑i : Int) < (↑n : Int)) (by kernel_rfl) (fun h1 => ?_) (fun h1 => ?_)
    ·
     refine H.kd 2 (fun b => b) ((↑i : Int) < (↑n : Int)) (by first | assumption | omega | exact Nat.ble_eq_true_of_le (by omega) | (rw [Nat.ble_eq_true_of_le (by omega)]; rfl)) (by kernel_rfl) ?_
     refine H.kl 2 (fun b => b) (0 + Int.toNat (↑i : Int)) (n) (by first | assumption | omega | exact Nat.ble_eq_true_of_le (by omega) | (rw [Nat.ble_eq_true_of_le (by omega)]; rfl)) (by kernel_rfl) ?_
     refine H.lf (f := oc2) 1 (Sum.inl ([AV.sl 0 0 n none, AV.i IntKind.i64 (wr IntKind.i64 ((↑i : Int) + 1))], 0, [AObj.vec 9 n [Col.cs (List.set l (0 + Int.toNat (↑i : Int)) { data := #[63] })]])) (by kernel_rfl) ?_
     have hlt2 : n - (i + 1) < n - i := by omega
     exact ⟨_, hlt2, i + 1, List.set l (0 + Int.toNat (↑i : Int)) { data := #[63] }, by omega, rfl, by rw [List.length_set]; exact hl, by (rw [wrN (by omega)]) <;> rfl⟩
    ·
     refine H.kb 9 (fun b => b) (b := (Nat.ble (0 + n) n)) (d := true) (by first | assumption | omega | exact Nat.ble_eq_true_of_le (by omega) | (rw [Nat.ble_eq_true_of_le (by omega)]; rfl)) (by kernel_rfl) ?_
     refine H.kb 0 (fun b => b) (b := (Nat.blt 0 16 && Nat.ble ((n + 1) * 16) 140737488355328)) (d := true) (by first | assumption | omega | exact Nat.ble_eq_true_of_le (by omega) | (rw [Nat.ble_eq_true_of_le (by omega)]; rfl)) (by kernel_rfl) ?_
     refine H.sb 0 (fun b => b) (Nat.beq (n + 1) (n + 1) && Nat.beq 1 1) (by kernel_rfl) (fun h2 => ?_) (fun h2 => ?_)
     ·
      refine H.lf (f := oc2) 1 (Sum.inr (Sum.inl (AV.tup []))) (by kernel_rfl) ?_
      exact rfl
     ·
      exact absurd h2 (by rw [Nat.beq_refl]; decide)
noncomputable def ok13 : Nat → Nat → Option Nat → AObj → T Bool
  | 0, n, none, .vec 9 m [.cs l] => .br (decide (m = n ∧ l.length = n ∧ n ≤ 10000)) (.ret true) .fail
  | _, _, _, _ => .fail
noncomputable def k13 : List AV → List AObj → T An
  | [.v (.slice none 0 0)], [] => .ret (.tup [], [])
  | _, _ => .fail
theorem v13 : Vw Sn 13 k13 := by
  intro args objs Q h
  unfold k13 at h
  split at h
  · refine fn1 (fi := fi13 false) (by kernel_rfl) (by kernel_rfl) (by kernel_rfl) rfl [0, 1, 0] 0 0 rfl (by kernel_rfl) (fun mm st => st = ([.v (.slice none 0 0), iv 0], 0, [])) ?_ ?_
    · refine pE_Q (k := 0) ?_
      refine H.lf (f := pE 0) 50 (Sum.inr ([0, 1, 0], 0, [.v (.slice none 0 0), AV.i IntKind.i64 0], 0, [])) (by kernel_rfl) ?_
      exact ⟨rfl, rfl, 0, by omega, rfl⟩
    · intro mm st hi
      subst hi
      refine pL_Q (k := 0) ?_
      exact H.lf (f := pL 0) 50 (Sum.inr (Sum.inl (.tup [], []))) (by kernel_rfl) h
  · exact h.elim
theorem s13 {N : NB} {R : Sp} (hR : SOk Try.prog N R) : SOk Try.prog N (fun f => bif2 (Nat.beq f 13) (some (killS ok13 (.tup []) k13)) (R f)) := by
  refine sOk_kill tok (fok false) hmix (sn N) hR (L := 1048576) (d := 5) ?_ ?_ (sOk_view tok (fok false) hmix (sn N) hR v13)
  · intro φ φ' v h
    cases h with
    | tup l a h =>
      refine .tup [] a ?_
      generalize a.toList = m at h ⊢
      cases h
      exact .nil
  · intro off m cap o Q h
    unfold ok13 at h
    split at h
    · obtain ⟨h1, hq⟩ := br_ok h
      obtain ⟨rfl, h2, h3⟩ := of_decide_eq_true h1
      exact ⟨trivial, ⟨_, hq⟩, t13 _ h2 h3⟩
    · exact h.elim
noncomputable def S3 : Sp := fun f => bif2 (Nat.beq f 13) (some (killS ok13 (.tup []) k13)) (Sb3 f)
theorem s3 (N : NB) : SOk Try.prog N S3 := s13 (sb3 N)
end Go.Proofs.TabU
