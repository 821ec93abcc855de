/- What the library's strings.Builder does when it is written and told, by the kit's walks and the evaluator's relation; each names its conditions. -/
import Derived.Test.YthfdfjkmccbikaaGreatDoorBldZ2
set_option linter.all false
set_option linter.deprecated false
set_option maxRecDepth 1000000
set_option maxHeartbeats 4000000
namespace Go.Proofs.TabZ
open Go Go.Eng Go.RowKit
/-- copyCheck. -/
noncomputable def f47 (M : Mem) (id : Nat) : List AV → T (AV × Mem)
  | [.v (.pointer none), _] => (storeCell M id 0 0 (.ptr id 0 0)).bind fun M => .ret (.tup [], M)
  | [.ptr j r c, _] => .br (Nat.beq j id && (Nat.beq r 0 && Nat.beq c 0)) (.ret (.tup [], M)) .fail
  | _ => .fail
noncomputable def o47 (M : Mem) (id : Nat) : AObj → T (AV × Mem)
  | .own e rs cells => .br (Nat.beq e 66 && Nat.beq rs 2) (f47 M id cells) .fail
  | _ => .fail
noncomputable def g47 : List AV → Mem → T (AV × Mem)
  | [.ptr id r c], M => .br (Nat.beq r 0 && Nat.beq c 0) (o47 M id (M.get id)) .fail
  | _, _ => .fail
theorem nb {a b : Nat} (h : Nat.beq a b = true) : a = b := Nat.eq_of_beq_eq_true h
theorem s47 {N : NB} {R : Sp} (hR : SOk Tryz.prog N R) : SOk Tryz.prog N (fun f => bif2 (Nat.beq f 47) (some g47) (R f)) := by
  intro f s hs args M Q Qp hq
  simp only [bif2_eq] at hs
  split at hs
  · rename_i hfn
    obtain rfl : f = 47 := nb hfn
    cases hs
    refine .inl ⟨⟨_, _, Tryz.func47, rfl, by kernel_rfl⟩, fun φ w zs hr hz => ?_⟩
    unfold g47 at hq
    split at hq
    · rename_i id r c
      obtain ⟨h0, hq2⟩ := br_ok hq
      clear hq
      obtain ⟨h1, h2⟩ := Bool.and_eq_true_iff.1 h0
      obtain rfl := nb h1
      obtain rfl := nb h2
      have ho := hr.objs id
      unfold o47 at hq2
      split at hq2
      · rename_i e rs cells hg
        obtain ⟨h0, hq3⟩ := br_ok hq2
        clear hq2
        obtain ⟨h1, h2⟩ := Bool.and_eq_true_iff.1 h0
        obtain rfl := nb h1
        obtain rfl := nb h2
        rw [hg] at ho
        obtain ⟨p, hp, ⟨hp0, hps⟩, hrs, ⟨cur, fz, hcur, hcs, hfz⟩, hlen, hcells⟩ := ho
        have hat : p.at 0 0 = ⟨p.b, 0, none⟩ := by simp [Pl.at, hp0, hps]
        have hzs : zs = [.pointer (some ⟨p.b, 0, none⟩)] := by
          cases hz with
          | cons h1 h2 =>
            cases h2
            cases h1 with
            | ptr _ _ _ q hq' hs' =>
              rw [hp] at hq'; cases hq'
              rw [hat]
        subst hzs
        unfold f47 at hq3
        split at hq3
        · rename_i c1
          rw [T.holds_bind] at hq3
          obtain ⟨z, hz0, hzr⟩ := hcells 0 _ rfl
          have hz0 : w.cell? ⟨p.b, 0, none⟩ = some (.pointer none) := by
            cases hzr; exact hz0
          have hk : 1 ≤ p.k := by
            have : 2 ≤ p.k * 2 := hlen
            omega
          have hx : AVRel φ (.ptr id 0 0) (.pointer (some (p.at 0 0))) := .ptr id 0 0 p hp hps
          obtain ⟨_, M', hQ, hr', he⟩ := storeCell_ok (P := Tryz.prog) hr hp hx hq3
          rw [hat] at hr' he
          refine (cc_fresh p.b p.k hk w hz0 (by simp [World.shape?, hcur, hcs]) ?_).mono ?_
          · rcases hfz with hfz | hfz
            · simp [World.frozen?, hcur, hfz]
            · have : ¬ (fz.1 ≤ 0) := by omega
              simp [World.frozen?, hcur, this]
          · rintro e w' ⟨rfl, rfl⟩
            exact .inl ⟨_, rfl, φ, .tup [], M', hQ, .tup _ _ .nil, hr', he⟩
        · rename_i j r c c1
          obtain ⟨h0, hq4⟩ := br_ok hq3
          clear hq3
          obtain ⟨h1, h2⟩ := Bool.and_eq_true_iff.1 h0
          obtain ⟨h2, h3⟩ := Bool.and_eq_true_iff.1 h2
          obtain rfl := nb h1
          obtain rfl := nb h2
          obtain rfl := nb h3
          obtain ⟨z, hz0, hzr⟩ := hcells 0 _ rfl
          have hz0 : w.cell? ⟨p.b, 0, none⟩ = some (.pointer (some ⟨p.b, 0, none⟩)) := by
            cases hzr with
            | ptr _ _ _ q hq' hs' =>
              rw [hp] at hq'; cases hq'
              rw [hat] at hz0; exact hz0
          refine (cc_used p.b w hz0).mono ?_
          rintro e w' ⟨rfl, rfl⟩
          exact .inl ⟨_, rfl, .here hr hq4 (.tup _ _ .nil)⟩
        · exact hq3.elim
      · exact hq2.elim
    · exact hq.elim
  · exact hR f s hs args M Q Qp hq
end Go.Proofs.TabZ
