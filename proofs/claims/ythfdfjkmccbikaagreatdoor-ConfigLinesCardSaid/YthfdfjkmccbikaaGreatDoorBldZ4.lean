/- What the library's strings.Builder does when it is written and told, by the kit's walks and the evaluator's relation; each names its conditions. -/
import Derived.Test.YthfdfjkmccbikaaGreatDoorBldZ3
set_option linter.all false
set_option linter.deprecated false
set_option maxRecDepth 1000000
set_option maxHeartbeats 4000000
namespace Go.Proofs.TabZ
open Go Go.Eng Go.RowKit
/-- The bytes of a builder that will not be written any more. -/
theorem freeze_ok {N : NB} {φ : Phi} {M : Mem} {w : World} (hr : Rep N φ M w) {id : Nat} {p : Pl} (hp : φ id = some (some p)) (hown : isOwn (M.get id)) (hl : M.lock ≤ id) {cur : Array Value} {e : TypeId} {f : Nat × Nat} (hcur : w.heap[p.b]? = some (.cells cur e f)) (n : Nat) :
    Rep N φ (M.set id .dead) (w.drew.freeze ⟨p.b, 0, none⟩ n) ∧ Ext φ M w φ (M.set id .dead) (w.drew.freeze ⟨p.b, 0, none⟩ n) := by
  by_cases hn : n = 0
  · subst hn
    have e : (w.drew.freeze ⟨p.b, 0, none⟩ 0) = w.drew := rfl
    rw [e]
    refine ⟨⟨fun j => ?_, fun i j p q h1 h2 h3 h4 h5 => ?_, fun i q h1 h2 => ?_, fun i hi => ?_, hr.size⟩, ⟨.refl _, fun _ _ => rfl, Nat.le_refl _, rfl, rfl, rfl, rfl, Nat.le_refl _, fun b hb hno => rfl, fun j q h1 h2 _ => ?_⟩⟩
    · rw [Mem.get_set]
      split
      · exact hr.glob.same fun b hb => rfl
      · exact (hr.objs j).step (.refl _) (fun b hb => rfl) fun h q hq => rfl
    · rw [Mem.get_set] at h1 h2
      split at h1
      · exact h1.elim
      · split at h2
        · exact h2.elim
        · exact hr.sep i j p q h1 h2 h3 h4 h5
    · rw [Mem.get_set] at h1
      split at h1
      · exact h1.elim
      · exact hr.high i q h1 h2
    · have := hr.fresh i hi
      rw [Mem.get_set]
      refine ⟨?_, this.2⟩
      split
      · rfl
      · exact this.1
    · rw [Mem.get_set] at h1
      split at h1
      · exact h1.elim
      · exact ⟨j, q, h1, h2, rfl, fun h => h⟩
  · have hheap : ∀ b, b ≠ p.b → (w.drew.freeze ⟨p.b, 0, none⟩ n).heap[b]? = w.heap[b]? := by
      intro b hb
      show (w.drew.freeze ⟨p.b, 0, none⟩ n).heap[b]? = w.drew.heap[b]?
      unfold World.freeze
      rw [if_neg hn]
      simp only [Array.getElem?_modify]
      rw [if_neg (Ne.symm hb)]
    have hcell : ∀ a, (w.drew.freeze ⟨p.b, 0, none⟩ n).cell? a = w.cell? a := by
      intro a
      by_cases hb : a.block = p.b
      · simp only [World.cell?]
        have : (w.drew.freeze ⟨p.b, 0, none⟩ n).heap[a.block]? = some (.cells cur e (if f.1 == f.2 then (0, 0 + n) else (min f.1 0, max f.2 (0 + n)))) := by
          unfold World.freeze
          rw [if_neg hn]
          simp only [Array.getElem?_modify, hb, if_true]
          have : w.drew.heap[p.b]? = some (.cells cur e f) := hcur
          rw [this]; rfl
        rw [this, hb, hcur]
      · simp only [World.cell?, hheap _ hb]
    have hN := hr.high id p hown hp
    have hsame : SameBelow N w (w.drew.freeze ⟨p.b, 0, none⟩ n) := fun b hb => hheap b (by omega)
    have hsz : (w.drew.freeze ⟨p.b, 0, none⟩ n).heap.size = w.heap.size := by
      show (w.drew.freeze ⟨p.b, 0, none⟩ n).heap.size = w.drew.heap.size
      simp [World.freeze, hn]
    have hos : (w.drew.freeze ⟨p.b, 0, none⟩ n).os = w.os := by show _ = w.drew.os; simp [World.freeze, hn]
    have htp : (w.drew.freeze ⟨p.b, 0, none⟩ n).tape = w.tape := by show _ = w.drew.tape; simp [World.freeze, hn]
    have hou : (w.drew.freeze ⟨p.b, 0, none⟩ n).output = w.output := by show _ = w.drew.output; simp [World.freeze, hn]
    refine ⟨⟨fun j => ?_, fun i j p q h1 h2 h3 h4 h5 => ?_, fun i q h1 h2 => ?_, fun i hi => ?_, ?_⟩, ⟨.refl _, fun _ _ => rfl, Nat.le_refl _, rfl, hos, htp, hou, by rw [hsz]; exact Nat.le_refl _, fun b hb hno => ?_, fun j q h1 h2 _ => ?_⟩⟩
    · rw [Mem.get_set]
      split
      · exact hr.glob.same hsame
      · rename_i hj
        refine (hr.objs j).step (.refl _) hsame fun h q hq => ?_
        exact hheap _ fun e => hj (hr.sep j id q p h hown hq hp e)
    · rw [Mem.get_set] at h1 h2
      split at h1
      · exact h1.elim
      · split at h2
        · exact h2.elim
        · exact hr.sep i j p q h1 h2 h3 h4 h5
    · rw [Mem.get_set] at h1
      split at h1
      · exact h1.elim
      · exact hr.high i q h1 h2
    · have := hr.fresh i hi
      rw [Mem.get_set]
      refine ⟨?_, this.2⟩
      split
      · rfl
      · exact this.1
    · rw [hsz]; exact hr.size
    · exact hheap _ fun e => hno id p hl hown hp e.symm
    · rw [Mem.get_set] at h1
      split at h1
      · exact h1.elim
      · exact ⟨j, q, h1, h2, rfl, fun h => h⟩
/-- String. -/
noncomputable def v30 (M : Mem) (id2 n : Nat) : AObj → T (AV × Mem)
  | .vec e m [.ci .u8 l] => .br (Nat.beq e 5 && (Nat.beq m n && (Nat.blt 0 n && (Nat.ble n 1000000 && l.all fun x => decide (0 ≤ x) && decide (x < 256))))) (.ck (Nat.ble M.lock id2) (.ret (.s (strOf l), M.set id2 .dead))) .fail
  | _ => .fail
noncomputable def f30 (M : Mem) : List AV → T (AV × Mem)
  | [_, .sl id2 r n _] => .br (Nat.beq r 0) (v30 M id2 n (M.get id2)) .fail
  | _ => .fail
noncomputable def o30 (M : Mem) : AObj → T (AV × Mem)
  | .own e rs cells => .br (Nat.beq e 66 && Nat.beq rs 2) (f30 M cells) .fail
  | _ => .fail
noncomputable def g30 : List AV → Mem → T (AV × Mem)
  | [.ptr id r c], M => .br (Nat.beq r 0 && Nat.beq c 0) (o30 M (M.get id)) .fail
  | _, _ => .fail
theorem s30 {N : NB} {R : Sp} (hR : SOk Tryz.prog N R) : SOk Tryz.prog N (fun f => bif2 (Nat.beq f 30) (some g30) (R f)) := by
  intro f s hs args M Q Qp hq
  simp only [bif2_eq] at hs
  split at hs
  · rename_i hfn
    obtain rfl : f = 30 := nb hfn
    cases hs
    refine .inl ⟨⟨_, _, Tryz.func30, rfl, by kernel_rfl⟩, fun φ w zs hr hz => ?_⟩
    unfold g30 at hq
    split at hq
    · rename_i id r c
      obtain ⟨h0, hq2⟩ := br_ok hq
      clear hq
      obtain ⟨h1, h2⟩ := Bool.and_eq_true_iff.1 h0
      obtain rfl := nb h1
      obtain rfl := nb h2
      have ho := hr.objs id
      unfold o30 at hq2
      split at hq2
      · rename_i e rs cells hg
        obtain ⟨h0, hq3⟩ := br_ok hq2
        clear hq2
        obtain ⟨h1, h2⟩ := Bool.and_eq_true_iff.1 h0
        obtain rfl := nb h1
        obtain rfl := nb h2
        rw [hg] at ho
        obtain ⟨p, hp, ⟨hp0, hps⟩, hrs, ⟨cur, fz, hcur, hcs, hfz⟩, hlen, hcells⟩ := ho
        have hat : p.at 0 0 = ⟨p.b, 0, none⟩ := by simp [Pl.at, hp0, hps]
        have hzs : zs = [.pointer (some ⟨p.b, 0, none⟩)] := by
          cases hz with
          | cons h1 h2 =>
            cases h2
            cases h1 with
            | ptr _ _ _ q hq' hs' =>
              rw [hp] at hq'; cases hq'
              rw [hat]
        subst hzs
        unfold f30 at hq3
        split at hq3
        · rename_i c0 id2 r2 n cap
          obtain ⟨h0, hq4⟩ := br_ok hq3
          clear hq3
          obtain rfl := nb h0
          obtain ⟨z, hz1, hzr⟩ := hcells 1 _ rfl
          have ho2 := hr.objs id2
          unfold v30 at hq4
          split at hq4
          · rename_i e2 m l hg2
            obtain ⟨h0, hq5⟩ := br_ok hq4
            clear hq4
            obtain ⟨k1, h0⟩ := Bool.and_eq_true_iff.1 h0
            obtain ⟨k2, h0⟩ := Bool.and_eq_true_iff.1 h0
            obtain ⟨k3, h0⟩ := Bool.and_eq_true_iff.1 h0
            obtain ⟨k4, k5⟩ := Bool.and_eq_true_iff.1 h0
            obtain rfl := nb k1
            obtain rfl := nb k2
            have k3 : 0 < m := by simpa [Nat.blt_eq] using k3
            have k4 : m ≤ 1000000 := Nat.le_of_ble_eq_true k4
            obtain ⟨hl, hQ⟩ := hq5
            have hQ : Q (.s (strOf l), M.set id2 .dead) := hQ
            rw [hg2] at ho2
            obtain ⟨hcl, p2, hp2, ⟨hp20, hp2s⟩, hrs2, ⟨cur2, fz2, hcur2, hcs2, hfz2⟩, hm, hcol⟩ := ho2
            have hll : l.length = m := hcl 0 _ rfl
            cases hzr with
            | sl _ _ _ _ x cc hpx h0 hcap hle hk hss =>
              rw [hp2] at hpx
              cases hpx
              have hat2 : p2.at 0 0 = ⟨p2.b, 0, none⟩ := by simp [Pl.at, hp20, hp2s]
              have hz1 : w.cell? ⟨p.b, 1, none⟩ = some (.slice (some ⟨p2.b, 0, none⟩) m cc) := by rw [← hat2]; exact hz1
              let l8 : List UInt8 := l.map fun n => UInt8.ofNat n.toNat
              have hl8 : l8.length = m := by simp [l8, hll]
              have key := str_calls p.b p2.b cc (p2.k * 1) l8 w (by intro e; rw [e] at hl8; simp at hl8; omega) (by rw [hl8]; omega) (by rw [hl8]; omega) (by rw [hl8]; omega) (by rw [hl8]; exact hz1) (by
                simp only [List.length_cons, List.length_nil] at hcs2
                simp [World.shape?, hcur2, hcs2]) (by
                intro j x hx
                have hx : (l[j]?).map (fun n => UInt8.ofNat n.toNat) = some x := by simpa [l8] using hx
                obtain ⟨y, hy, rfl⟩ := Option.map_eq_some_iff.1 hx
                have hj : j < m := by rw [← hll]; exact (List.getElem?_eq_some_iff.1 hy).1
                obtain ⟨z, hz, hzr⟩ := hcol j hj 0 _ rfl
                have hat3 : p2.at j 0 = (⟨p2.b, 0, none⟩ : Addr).add j := by simp [Pl.at, hp20, hp2s, hrs2, Addr.add]
                rw [hat3] at hz
                cases hzr
                rw [hz]
                have hrange := List.all_eq_true.1 k5 y (List.mem_of_getElem? hy)
                obtain ⟨r1, r2⟩ := Bool.and_eq_true_iff.1 hrange
                have r1 := of_decide_eq_true r1
                have r2 := of_decide_eq_true r2
                have e1 : l.getD j 0 = y := by simp [List.getD, hy]
                rw [e1]
                congr 2
                have : (UInt8.ofNat y.toNat).toNat = y.toNat := by simp [UInt8.toNat_ofNat']; omega
                rw [this]; omega)
              refine key.mono ?_
              rintro e w' ⟨rfl, rfl⟩
              obtain ⟨a, b⟩ := freeze_ok hr hp2 (by rw [hg2]; trivial) (Nat.le_of_ble_eq_true hl) hcur2 l8.length
              exact .inl ⟨_, rfl, φ, .s (strOf l), _, hQ, .s _, a, b⟩
          · exact hq4.elim
        · exact hq3.elim
      · exact hq2.elim
    · exact hq.elim
  · exact hR f s hs args M Q Qp hq
end Go.Proofs.TabZ
