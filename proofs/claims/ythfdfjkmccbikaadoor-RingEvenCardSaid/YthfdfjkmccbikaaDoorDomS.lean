/- Whether a domain may be, at the domains that occur, proved by the evaluator and the kit's walk; each names its conditions. -/
import Derived.Test.YthfdfjkmccbikaaDoorRngF
import Derived.Test.YthfdfjkmccbikaaDoorBaseS
import Derived.Test.YthfdfjkmccbikaaDoorEngMd
set_option linter.all false
set_option linter.deprecated false
set_option maxRecDepth 1000000
set_option maxHeartbeats 4000000
namespace Go.Proofs.TabS
open Go Go.Eng Go.RowKit
/-! ## What a run of the evaluator says of a call in any world -/
theorem calls_of_run {S : Sp} (hS : ∀ N, SOk Tryd.prog N S) {f d : Nat} (hSf : S f = none) {args : List AV} {zs : List Value} (hz : ∀ φ, AVsRel φ args zs) {v : AV} {y : Value} (hv : ∀ φ z, AVRel φ v z → z = y)
    (h : H (ev S d f args mem0) (fun x => x.1 = v) (fun _ _ => False)) (w : World) : Calls Tryd.prog f zs.toArray w fun e w' => e = .returned y ∧ Below w.heap.size w w' := by
  let N : NB := ⟨w.heap.size, fun _ _ => none⟩
  have hr : Rep N (fun _ => none) mem0 w := ⟨fun id => (fun b off v e => by cases e), fun id id' p p' h => h.elim, fun id p h => h.elim, fun id _ => ⟨rfl, rfl⟩, Nat.le_refl _⟩
  obtain ⟨_, hc⟩ := evFun_okA tok (hS N) (fok false) hmix d hSf args mem0 _ _ h.out
  refine (hc _ w zs hr (hz _)).mono ?_
  rintro e w' (⟨r, rfl, φ', x, M', hq, hx, hr', he⟩ | ⟨r, _, _, _, _, hf, _⟩)
  · have hq : x = v := hq
    subst hq
    exact ⟨by rw [hv _ _ hx], he.below hr⟩
  · exact hf.elim
/-- Where a byte stands first. -/
noncomputable def g97 : List AV → T AV
  | [.s b, .i .u8 c] => .ret (iv (match (List.range b.size).find? (fun i => b[i]! == UInt8.ofNat c.toNat) with | some i => (i : Int) | none => -1))
  | _ => .fail
theorem x97 (N : NB) (R : Sp) (hR : SOk Tryd.prog N R) : SOk Tryd.prog N (fun f => bif2 (Nat.beq f 97) (some (treeS g97)) (R f)) := by
  refine sOk_ext hR (fn := Tryd.f97) (e := Extern.BytealgIndexByte.indexByte) Tryd.func97 (by kernel_rfl) (by kernel_rfl) (by kernel_rfl) (by kernel_rfl) ?_
  intro args Q h φ zs hr w
  unfold g97 at h
  split at h
  · cases hr with
    | cons h1 h2 =>
      cases h2 with
      | cons h2 h3 =>
        cases h3
        cases h1
        cases h2
        rename_i b c
        refine ⟨.int .i64 (match (List.range b.size).find? (fun i => b[i]! == UInt8.ofNat c.toNat) with | some i => (i : Int) | none => -1), _, ?_, h, .i _ _⟩
        change Sem.run Tryd.prog (do
          let b ← Extern.Bytes.bytesOf (.string b)
          let c ← Extern.Bytes.asByte (.int .u8 c)
          match (List.range b.size).find? fun i => b[i]! == c with
          | some i => pure (goInt i)
          | none => pure (goInt (-1))) w = _
        simp only [Extern.Bytes.bytesOf, Extern.Bytes.asByte, Sem.run_bind, Sem.run_pure, Result.andThen_ok]
        show Sem.run Tryd.prog (match (List.range b.size).find? (fun i => b[i]! == UInt8.ofNat c.toNat) with | some i => pure (goInt i) | none => pure (goInt (-1))) w = _
        cases (List.range b.size).find? (fun i => b[i]! == UInt8.ofNat c.toNat) with
        | none => rfl
        | some i => rfl
  · exact h.elim
noncomputable def Sx : Sp := fun f => bif2 (Nat.beq f 97) (some (treeS g97)) (Sn f)
theorem sx (N : NB) : SOk Tryd.prog N Sx := x97 N _ (sn N)
abbrev dotS : ByteArray := ⟨#[46]⟩
theorem idx1 : H (ev Sx 9 66 [.s ⟨#[120]⟩, .s dotS] mem0) (fun x => x.1 = iv (-1)) (fun _ _ => False) := H.lf (Q := fun v : AV => v = iv (-1)) (f := Prod.fst) 20000 (iv (-1)) (by kernel_rfl) rfl
theorem idx2 : H (ev Sx 9 66 [.s ⟨#[104, 46, 120]⟩, .s dotS] mem0) (fun x => x.1 = iv 1) (fun _ _ => False) := H.lf (Q := fun v : AV => v = iv 1) (f := Prod.fst) 20000 (iv 1) (by kernel_rfl) rfl
theorem lab1 : H (ev Sx 9 43 [.s ⟨#[120]⟩] mem0) (fun x => x.1 = .b true) (fun _ _ => False) := H.lf (Q := fun v : AV => v = .b true) (f := Prod.fst) 20000 (.b true) (by kernel_rfl) rfl
theorem lit1 : H (ev Sx 9 38 [.s ⟨#[104, 46, 120]⟩] mem0) (fun x => x.1 = .b false) (fun _ _ => False) := H.lf (Q := fun v : AV => v = .b false) (f := Prod.fst) 20000 (.b false) (by kernel_rfl) rfl
end Go.Proofs.TabS
