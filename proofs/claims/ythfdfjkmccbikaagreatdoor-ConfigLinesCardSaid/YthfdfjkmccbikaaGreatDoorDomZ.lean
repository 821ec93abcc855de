/- Whether a domain may be, at the domains that occur, proved by the evaluator and the kit's walk; each names its conditions. -/
import Derived.Test.YthfdfjkmccbikaaGreatDoorRngF
import Derived.Test.YthfdfjkmccbikaaGreatDoorBaseZ
import Derived.Test.YthfdfjkmccbikaaGreatDoorEngMd
set_option linter.all false
set_option linter.deprecated false
set_option maxRecDepth 1000000
set_option maxHeartbeats 4000000
namespace Go.Proofs.TabZ
open Go Go.Eng Go.RowKit
/-! ## What a run of the evaluator says of a call in any world -/
theorem calls_of_run {S : Sp} (hS : ∀ N, SOk Tryz.prog N S) {f d : Nat} (hSf : S f = none) {args : List AV} {zs : List Value} (hz : ∀ φ, AVsRel φ args zs) {v : AV} {y : Value} (hv : ∀ φ z, AVRel φ v z → z = y)
    (h : H (ev S d f args mem0) (fun x => x.1 = v) (fun _ _ => False)) (w : World) : Calls Tryz.prog f zs.toArray w fun e w' => e = .returned y ∧ Below w.heap.size w w' := by
  let N : NB := ⟨w.heap.size, fun _ _ => none⟩
  have hr : Rep N (fun _ => none) mem0 w := ⟨fun id => (fun b off v e => by cases e), fun id id' p p' h => h.elim, fun id p h => h.elim, fun id _ => ⟨rfl, rfl⟩, Nat.le_refl _⟩
  obtain ⟨_, hc⟩ := evFun_okA tok (hS N) (fok false) hmix d hSf args mem0 _ _ h.out
  refine (hc _ w zs hr (hz _)).mono ?_
  rintro e w' (⟨r, rfl, φ', x, M', hq, hx, hr', he⟩ | ⟨r, _, _, _, _, hf, _⟩)
  · have hq : x = v := hq
    subst hq
    exact ⟨by rw [hv _ _ hx], he.below hr⟩
  · exact hf.elim
/-- Where a byte stands first. -/
noncomputable def g119 : List AV → T AV
  | [.s b, .i .u8 c] => .ret (iv (match (List.range b.size).find? (fun i => b[i]! == UInt8.ofNat c.toNat) with | some i => (i : Int) | none => -1))
  | _ => .fail
theorem x119 (N : NB) (R : Sp) (hR : SOk Tryz.prog N R) : SOk Tryz.prog N (fun f => bif2 (Nat.beq f 119) (some (treeS g119)) (R f)) := by
  refine sOk_ext hR (fn := Tryz.f119) (e := Extern.BytealgIndexByte.indexByte) Tryz.func119 (by kernel_rfl) (by kernel_rfl) (by kernel_rfl) (by kernel_rfl) ?_
  intro args Q h φ zs hr w
  unfold g119 at h
  split at h
  · cases hr with
    | cons h1 h2 =>
      cases h2 with
      | cons h2 h3 =>
        cases h3
        cases h1
        cases h2
        rename_i b c
        refine ⟨.int .i64 (match (List.range b.size).find? (fun i => b[i]! == UInt8.ofNat c.toNat) with | some i => (i : Int) | none => -1), _, ?_, h, .i _ _⟩
        change Sem.run Tryz.prog (do
          let b ← Extern.Bytes.bytesOf (.string b)
          let c ← Extern.Bytes.asByte (.int .u8 c)
          match (List.range b.size).find? fun i => b[i]! == c with
          | some i => pure (goInt i)
          | none => pure (goInt (-1))) w = _
        simp only [Extern.Bytes.bytesOf, Extern.Bytes.asByte, Sem.run_bind, Sem.run_pure, Result.andThen_ok]
        show Sem.run Tryz.prog (match (List.range b.size).find? (fun i => b[i]! == UInt8.ofNat c.toNat) with | some i => pure (goInt i) | none => pure (goInt (-1))) w = _
        cases (List.range b.size).find? (fun i => b[i]! == UInt8.ofNat c.toNat) with
        | none => rfl
        | some i => rfl
  · exact h.elim
/-- How often a byte stands there. -/
noncomputable def g89 : List AV → T AV
  | [.s b, .i .u8 c] => .ret (iv (b.foldl (fun (n : Int) x => if x == UInt8.ofNat c.toNat then n + 1 else n) ((0 : Nat) : Int)))
  | _ => .fail
theorem x89 (N : NB) (R : Sp) (hR : SOk Tryz.prog N R) : SOk Tryz.prog N (fun f => bif2 (Nat.beq f 89) (some (treeS g89)) (R f)) := by
  refine sOk_ext hR (fn := Tryz.f89) (e := Extern.BytealgCount.count) Tryz.func89 (by kernel_rfl) (by kernel_rfl) (by kernel_rfl) (by kernel_rfl) ?_
  intro args Q h φ zs hr w
  unfold g89 at h
  split at h
  · cases hr with
    | cons h1 h2 =>
      cases h2 with
      | cons h2 h3 =>
        cases h3
        cases h1
        cases h2
        rename_i b c
        refine ⟨.int .i64 (b.foldl (fun (n : Int) x => if x == UInt8.ofNat c.toNat then n + 1 else n) ((0 : Nat) : Int)), _, ?_, h, .i _ _⟩
        change Sem.run Tryz.prog (do
          let b ← Extern.Bytes.bytesOf (.string b)
          let c ← Extern.Bytes.asByte (.int .u8 c)
          pure (goInt (b.foldl (fun n x => if x == c then n + 1 else n) (0 : Nat)))) w = _
        simp only [Extern.Bytes.bytesOf, Extern.Bytes.asByte, Sem.run_bind, Sem.run_pure, Result.andThen_ok]
        rfl
  · exact h.elim
noncomputable def g19 : List AV → T AV
  | [.i .u64 n] => .ret (.v (.float .f64 n.toNat))
  | _ => .fail
theorem x19 (N : NB) (R : Sp) (hR : SOk Tryz.prog N R) : SOk Tryz.prog N (fun f => bif2 (Nat.beq f 19) (some (treeS g19)) (R f)) := by
  refine sOk_ext hR (fn := Tryz.f19) (e := Extern.MathFloatBits.float64frombits) Tryz.func19 (by kernel_rfl) (by kernel_rfl) (by kernel_rfl) (by kernel_rfl) ?_
  intro args Q h φ zs hr w
  unfold g19 at h
  split at h
  · cases hr with
    | cons h1 h2 =>
      cases h2
      cases h1
      exact ⟨_, _, rfl, h, .v _⟩
  · exact h.elim
noncomputable def g20 : List AV → T AV
  | [.v (.float .f64 n)] => .ret (.i .u64 n)
  | _ => .fail
theorem x20 (N : NB) (R : Sp) (hR : SOk Tryz.prog N R) : SOk Tryz.prog N (fun f => bif2 (Nat.beq f 20) (some (treeS g20)) (R f)) := by
  refine sOk_ext hR (fn := Tryz.f20) (e := Extern.MathFloatBits.float64bits) Tryz.func20 (by kernel_rfl) (by kernel_rfl) (by kernel_rfl) (by kernel_rfl) ?_
  intro args Q h φ zs hr w
  unfold g20 at h
  split at h
  · cases hr with
    | cons h1 h2 =>
      cases h2
      cases h1
      exact ⟨_, _, rfl, h, .i _ _⟩
  · exact h.elim
noncomputable def Sx : Sp := fun f => bif2 (Nat.beq f 119) (some (treeS g119)) (bif2 (Nat.beq f 89) (some (treeS g89)) (bif2 (Nat.beq f 19) (some (treeS g19)) (bif2 (Nat.beq f 20) (some (treeS g20)) (Sn f))))
theorem sx (N : NB) : SOk Tryz.prog N Sx := x119 N _ (x89 N _ (x19 N _ (x20 N _ (sn N))))
abbrev dotS : ByteArray := ⟨#[46]⟩
noncomputable abbrev run1 (f : Nat) (args : List AV) : Option AV := T.leafE Prod.fst (T.skip 20000 (ev Sx 9 f args mem0))
theorem idx1 : run1 71 [.s ⟨#[120]⟩, .s dotS] = some (iv (-1)) := by kernel_rfl
theorem lit4 : run1 59 [.s ⟨#[49, 46, 50, 46, 51, 46, 52]⟩] = some (.b true) := by kernel_rfl
end Go.Proofs.TabZ
