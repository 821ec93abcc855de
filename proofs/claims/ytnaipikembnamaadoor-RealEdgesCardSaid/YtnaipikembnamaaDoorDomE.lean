/- Whether a domain may be, at the domains that occur, proved by the evaluator and the kit's walk; each names its conditions. -/
import Derived.Test.YtnaipikembnamaaDoorBaseE
import Derived.Test.YtnaipikembnamaaDoorEngMd
set_option linter.all false
set_option linter.deprecated false
set_option maxRecDepth 1000000
set_option maxHeartbeats 4000000
namespace Go.Proofs.TabE
open Go Go.Eng Go.RowKit
/-! ## What a run of the evaluator says of a call in any world -/
theorem calls_of_run {S : Sp} (hS : ∀ N, SOk Tryd.prog N S) {f d : Nat} (hSf : S f = none) {args : List AV} {zs : List Value} (hz : ∀ φ, AVsRel φ args zs) {v : AV} {y : Value} (hv : ∀ φ z, AVRel φ v z → z = y)
    (h : H (ev S d f args mem0) (fun x => x.1 = v) (fun _ _ => False)) (w : World) : Calls Tryd.prog f zs.toArray w fun e w' => e = .returned y ∧ Below w.heap.size w w' := by
  let N : NB := ⟨w.heap.size, fun _ _ => none⟩
  have hr : Rep N (fun _ => none) mem0 w := ⟨fun id => (fun b off v e => by cases e), fun id id' p p' h => h.elim, fun id p h => h.elim, fun id _ => ⟨rfl, rfl⟩, Nat.le_refl _⟩
  obtain ⟨_, hc⟩ := evFun_okA tok (hS N) (fok false) hmix d hSf args mem0 _ _ h.out
  refine (hc _ w zs hr (hz _)).mono ?_
  rintro e w' (⟨r, rfl, φ', x, M', hq, hx, hr', he⟩ | ⟨r, _, _, _, _, hf, _⟩)
  · have hq : x = v := hq
    subst hq
    exact ⟨by rw [hv _ _ hx], he.below hr⟩
  · exact hf.elim
/-- Where a byte stands first. -/
noncomputable def g68 : List AV → T AV
  | [.s b, .i .u8 c] => .ret (iv (match (List.range b.size).find? (fun i => b[i]! == UInt8.ofNat c.toNat) with | some i => (i : Int) | none => -1))
  | _ => .fail
theorem x68 (N : NB) (R : Sp) (hR : SOk Tryd.prog N R) : SOk Tryd.prog N (fun f => bif2 (Nat.beq f 68) (some (treeS g68)) (R f)) := by
  refine sOk_ext hR (fn := Tryd.f68) (e := Extern.BytealgIndexByte.indexByte) Tryd.func68 (by kernel_rfl) (by kernel_rfl) (by kernel_rfl) (by kernel_rfl) ?_
  intro args Q h φ zs hr w
  unfold g68 at h
  split at h
  · cases hr with
    | cons h1 h2 =>
      cases h2 with
      | cons h2 h3 =>
        cases h3
        cases h1
        cases h2
        rename_i b c
        refine ⟨.int .i64 (match (List.range b.size).find? (fun i => b[i]! == UInt8.ofNat c.toNat) with | some i => (i : Int) | none => -1), _, ?_, h, .i _ _⟩
        change Sem.run Tryd.prog (do
          let b ← Extern.Bytes.bytesOf (.string b)
          let c ← Extern.Bytes.asByte (.int .u8 c)
          match (List.range b.size).find? fun i => b[i]! == c with
          | some i => pure (goInt i)
          | none => pure (goInt (-1))) w = _
        simp only [Extern.Bytes.bytesOf, Extern.Bytes.asByte, Sem.run_bind, Sem.run_pure, Result.andThen_ok]
        show Sem.run Tryd.prog (match (List.range b.size).find? (fun i => b[i]! == UInt8.ofNat c.toNat) with | some i => pure (goInt i) | none => pure (goInt (-1))) w = _
        cases (List.range b.size).find? (fun i => b[i]! == UInt8.ofNat c.toNat) with
        | none => rfl
        | some i => rfl
  · exact h.elim
noncomputable def g11 : List AV → T AV
  | [.i .u64 n] => .ret (.v (.float .f64 n.toNat))
  | _ => .fail
theorem x11 (N : NB) (R : Sp) (hR : SOk Tryd.prog N R) : SOk Tryd.prog N (fun f => bif2 (Nat.beq f 11) (some (treeS g11)) (R f)) := by
  refine sOk_ext hR (fn := Tryd.f11) (e := Extern.MathFloatBits.float64frombits) Tryd.func11 (by kernel_rfl) (by kernel_rfl) (by kernel_rfl) (by kernel_rfl) ?_
  intro args Q h φ zs hr w
  unfold g11 at h
  split at h
  · cases hr with
    | cons h1 h2 =>
      cases h2
      cases h1
      exact ⟨_, _, rfl, h, .v _⟩
  · exact h.elim
noncomputable def g23 : List AV → T AV
  | [.v (.float .f64 n)] => .ret (.i .u64 n)
  | _ => .fail
theorem x23 (N : NB) (R : Sp) (hR : SOk Tryd.prog N R) : SOk Tryd.prog N (fun f => bif2 (Nat.beq f 23) (some (treeS g23)) (R f)) := by
  refine sOk_ext hR (fn := Tryd.f23) (e := Extern.MathFloatBits.float64bits) Tryd.func23 (by kernel_rfl) (by kernel_rfl) (by kernel_rfl) (by kernel_rfl) ?_
  intro args Q h φ zs hr w
  unfold g23 at h
  split at h
  · cases hr with
    | cons h1 h2 =>
      cases h2
      cases h1
      exact ⟨_, _, rfl, h, .i _ _⟩
  · exact h.elim
noncomputable def Sx : Sp := fun f => bif2 (Nat.beq f 68) (some (treeS g68)) (bif2 (Nat.beq f 11) (some (treeS g11)) (bif2 (Nat.beq f 23) (some (treeS g23)) (Sn f)))
theorem sx (N : NB) : SOk Tryd.prog N Sx := x68 N _ (x11 N _ (x23 N _ (sn N)))
abbrev run9 (f : Nat) (args : List AV) (v : AV) : Prop := H (ev Sx 9 f args mem0) (fun x => x.1 = v) (fun _ _ => False)
theorem rn {f : Nat} {args : List AV} {v : AV} (h : T.leafE Prod.fst (T.skip 20000 (ev Sx 9 f args mem0)) = some v) : run9 f args v := H.lf (Q := fun x : AV => x = v) (f := Prod.fst) 20000 v h rfl
theorem toC {f : Nat} {args : List AV} {zs : List Value} {v : AV} {y : Value} (h : run9 f args v) (hS : Sx f = none) (hz : ∀ φ, AVsRel φ args zs) (hv : ∀ φ z, AVRel φ v z → z = y) (W : World) : Calls Tryd.prog f zs.toArray W fun e W' => e = .returned y ∧ Below W.heap.size W W' := calls_of_run sx hS hz hv h W
theorem vi (n : Int) : ∀ (φ : Phi) (z : Value), AVRel φ (iv n) z → z = .int .i64 n := fun φ z h => by cases h; rfl
end Go.Proofs.TabE
