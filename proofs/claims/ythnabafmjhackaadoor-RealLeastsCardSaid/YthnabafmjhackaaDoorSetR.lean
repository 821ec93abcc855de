/- Contracts of closed calls, by running the evaluator; without conditions. -/
import Derived.Test.YthnabafmjhackaaDoorAllR
import Derived.Test.YthnabafmjhackaaDoorEngMc
import Derived.Test.YthnabafmjhackaaDoorGlbR
set_option linter.all false
set_option linter.deprecated false
set_option maxRecDepth 1000000
set_option maxHeartbeats 4000000
namespace Go.Proofs.TabR
open Go Go.Eng
/-! ## What is closed -/
noncomputable def gy32 : List AV → T AV
  | [.v (.float .f64 n)] => .ret (.i .u64 n)
  | _ => .fail
noncomputable def g57 : List AV → T AV
  | [.i .u64 n] => .br (decide (n = 6755399441055744)) (.ret (iv 51)) .fail
  | _ => .fail
noncomputable def Sy : Sp := fun n => bif2 (Nat.beq n 57) (some (treeS g57)) (bif2 (Nat.beq n 42) (some (treeS g42)) (bif2 (Nat.beq n 32) (some (treeS gy32)) none))
abbrev nR (k : Nat) : NB := ⟨k, YthnabafmjhackaaDoor.glR⟩
theorem sy (k : Nat) : SOk Tryd.prog (nR k) Sy := by
  refine sOk_calls (x42 _ _ ?_) (fn := Tryd.f57) Tryd.func57 (by kernel_rfl) (by kernel_rfl : Tryd.f57.body = some (Tryd.f57.body.getD .skip)) ?_
  · refine sOk_ext (sn _) (fn := Tryd.f32) (e := Extern.MathFloatBits.float64bits) Tryd.func32 (by kernel_rfl) (by kernel_rfl) (by kernel_rfl) (by kernel_rfl) ?_
    intro args Q h φ zs hr w
    unfold gy32 at h
    split at h
    · cases hr with | cons h1 h2 => cases h2; cases h1; exact ⟨_, _, rfl, h, .i _ _⟩
    · exact h.elim
  · intro args Q h φ zs hr w hg
    unfold g57 at h
    split at h
    · obtain ⟨h1, h2⟩ := br_ok h
      obtain rfl := of_decide_eq_true h1
      cases hr with
      | cons k1 k2 =>
        cases k2
        cases k1
        exact ⟨_, _, YthnabafmjhackaaDoor.tz_three w (hg 1 22 _ (by kernel_rfl)).2, h2, .i _ _⟩
    · exact h.elim
noncomputable abbrev evz (S : Sp) (d : Nat) := evFun Tryd.prog (ttOf tts) S (fns true).get 1048576 d
noncomputable def g16 : List AV → T AV
  | [] => .ret (.b true)
  | _ => .fail
theorem sctrz {S R : Sp} {N : NB} (h0 : SOk Tryd.prog N S) (hR : SOk Tryd.prog N R) {n : Nat} {g : List AV → T AV} (h : ∀ args Q, (g args).holds Q (fun _ _ => False) → args.all plain1 = true ∧ H (evz S 9 n args mem0) (fun x => PQ Q x.1) (fun _ _ => False)) (hSn : S n = none := by kernel_rfl) : SOk Tryd.prog N (fun f => bif2 (Nat.beq f n) (some (treeS g)) (R f)) :=
  sOk_ctr tok (fok true) hmix h0 hR h hSn
theorem s16 {k : Nat} {R : Sp} (hR : SOk Tryd.prog (nR k) R) : SOk Tryd.prog (nR k) (fun f => bif2 (Nat.beq f 16) (some (treeS g16)) (R f)) := by
  refine sctrz (sy k) hR fun args Q h => ?_
  unfold g16 at h
  split at h
  · exact ⟨rfl, H.lf (f := Prod.fst) 3000 (.b true) (by kernel_rfl) ⟨rfl, h⟩⟩
  · exact h.elim
/-- What all hands back, said less. -/
noncomputable def w13 : List AV → List AObj → T An
  | [.sl 0 0 n _], [.ro _ m [.ci .u64 l]] => .br (decide (n ≤ m)) (.ret (.sl 1 0 (15 + kkO n) none, [.vec 26 (15 + kkO n) [.cf .f64 (xsO l n)]])) .fail
  | _, _ => .fail
theorem xsO_len (l : List Int) (n : Nat) : (xsO l n).length = 15 + kkO n := by rw [xsO_eq, kkO_eq, List.length_append, wsL_len]; rfl
theorem w13_ok (args : List AV) (objs : List AObj) (Q : An → Prop) (h : (w13 args objs).holds Q (fun _ _ => False)) : (k13 args objs).holds (fun r => ∃ r', Q r' ∧ WkR r r') (fun _ _ => False) := by
  unfold w13 at h
  split at h
  · rename_i n _ _ m l
    obtain ⟨h1, h2⟩ := br_ok h
    refine ⟨fun _ => ⟨fun _ => ⟨_, h2, .inl rfl⟩, fun hn => ⟨_, h2, .inr ⟨1, 26, .f64, xsO l n, ?_, ?_⟩⟩⟩, fun e => by rw [h1] at e; cases e⟩
    · have hn0 : n = 0 := by have := of_decide_eq_false hn; omega
      subst hn0
      have e : xsO l 0 = edgeL := by rw [xsO_eq]; rfl
      rw [e]; rfl
    · rw [xsO_len]
  · exact h.elim
noncomputable def Sa : Sp := fun n => bif2 (Nat.beq n 16) (some (treeS g16)) (bif2 (Nat.beq n 13) (some (viewS w13)) (S8 n))
theorem sa (k : Nat) : SOk Tryd.prog (nR k) Sa := s16 (sOk_weak (sOk_view tok (fok false) hmix (sx _) (s8 _) v13) w13_ok)
end Go.Proofs.TabR
