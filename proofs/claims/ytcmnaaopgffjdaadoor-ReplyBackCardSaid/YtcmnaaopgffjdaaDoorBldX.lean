/- What the library's strings.Builder does when it is written and told, by the kit's walks and the evaluator's relation; each names its conditions. -/
import Derived.Test.YtcmnaaopgffjdaaDoorGlbX
import Derived.Lib.Builder
import Derived.Lib.UnsafeStr
import Derived.Shelf.RegionOpenPlain
set_option linter.all false
set_option linter.deprecated false
set_option maxRecDepth 1000000
set_option maxHeartbeats 4000000
namespace Go.Proofs.TabX
open Go Go.Eng Go.RowKit Go.Shelf
theorem lies_self {p : Program} {e : TypeId} {k d : Nat} (hd : p.depth = d + 1) (hs : p.cellsOf e ≠ 0) (hk : 1 ≤ k) (hl : sameLayout p p.depth e e = true) : liesAt p p.depth e k 0 e 1 = true := by
  have h1 : ∀ D, liesAt p (D + 1) e k 0 e 1 = (rowAt p (sameLayout p p.depth · e) p.depth e k 0 1 || match p.underlying e with | some (.array m u') => liesAt p D e k 0 u' (1 * m) | _ => false) := fun D => rfl
  have h2 : ∀ F D, F e = true → rowAt p F (D + 1) e k 0 1 = true := by
    intro F D hF
    simp only [rowAt, if_neg hs, Nat.zero_div, Nat.zero_mod, hF]
    simp [hk]
  have h3 : rowAt p (sameLayout p p.depth · e) p.depth e k 0 1 = true := by
    generalize hD : p.depth = D at *
    subst hd
    exact h2 _ _ hl
  have h4 : liesAt p p.depth e k 0 e 1 = liesAt p (d + 1) e k 0 e 1 := by rw [hd]
  rw [h4, h1, h3]; rfl
theorem cells57 : Tryd.prog.cellsOf 57 = 2 := by kernel_rfl
theorem info57 : (Tryd.prog.info? 57).map (·.size) = some 2 := by kernel_rfl
theorem lies57 {k : Nat} (hk : 1 ≤ k) : liesAt Tryd.prog Tryd.prog.depth 57 (k * 2 / Tryd.prog.cellsOf 57) 0 57 1 = true := by
  rw [cells57, Nat.mul_div_cancel _ (by decide)]
  obtain ⟨d, hd⟩ : ∃ d, Tryd.prog.depth = d + 1 := ⟨Tryd.prog.depth - 1, by have : 0 < Tryd.prog.depth := of_decide_eq_true (by kernel_rfl); omega⟩
  exact lies_self hd (by rw [cells57]; decide) hk (by kernel_rfl)
/-- copyCheck at a builder that has been used. -/
theorem cc_used (b : Nat) (w : World) (h0 : w.cell? ⟨b, 0, none⟩ = some (.pointer (some ⟨b, 0, none⟩))) :
    Calls Tryd.prog 39 #[.pointer (some ⟨b, 0, none⟩)] w fun e w' => e = .returned (.tuple #[]) ∧ w' = w := by
  obtain ⟨j, hj, _⟩ := Option.map_eq_some_iff.1 info57
  go_enter Tryd.func39, Tryd.ntmps39
  go_wp2
  rw [Lib.run_neq_ptr_same w _ Tryd.underlying54 hj]
  go_wp2
  go_end0
  exact ⟨rfl, rfl⟩
/-- copyCheck at a fresh builder. -/
theorem cc_fresh (b k : Nat) (hk : 1 ≤ k) (w : World) (h0 : w.cell? ⟨b, 0, none⟩ = some (.pointer none)) (hsh : w.shape? b = some (57, k * 2)) (hfz : w.frozen? ⟨b, 0, none⟩ = false) :
    Calls Tryd.prog 39 #[.pointer (some ⟨b, 0, none⟩)] w fun e w' => e = .returned (.tuple #[]) ∧ w' = w.setCell ⟨b, 0, none⟩ (.pointer (some ⟨b, 0, none⟩)) := by
  obtain ⟨j, hj, hjs⟩ := Option.map_eq_some_iff.1 info57
  go_enter Tryd.func39, Tryd.ntmps39
  go_wp2
  rw [Lib.run_to_unsafe w ⟨b, 0, none⟩ Tryd.underlying54 Tryd.underlying94 hj (by rw [hjs]; decide) hsh (by simp only; omega)]
  simp only [Result.andThen]
  rw [Oper.upon_value]
  go_wp2
  rw [run_callFunc_extern Tryd.func52 (by kernel_rfl) (by kernel_rfl) (by kernel_rfl) (e := Extern.AbiNoEscape.same) (by kernel_rfl)]
  rw [Lib.run_noEscape]
  simp only [Result.andThen]
  rw [Oper.upon_value]
  go_wp2
  rw [Lib.run_from_unsafe w ⟨b, 0, none⟩ Tryd.underlying94 Tryd.underlying54 hj hsh (lies57 hk)]
  simp only [Result.andThen]
  rw [Oper.upon_value]
  go_wp2
  go_end0
  exact ⟨rfl, rfl⟩
/-- The text that a builder holds. -/
theorem str_calls (b g cap K : Nat) (l : List UInt8) (w : World) (h0 : l ≠ []) (hn : l.length ≤ K) (h63 : l.length ≤ 9223372036854775807) (hc : l.length ≤ cap) (hc1 : w.cell? ⟨b, 1, none⟩ = some (.slice (some ⟨g, 0, none⟩) l.length cap)) (hsh : w.shape? g = some (5, K))
    (hcell : ∀ j x, l[j]? = some x → w.cell? ((⟨g, 0, none⟩ : Addr).add j) = some (.int .u8 x.toNat)) :
    Calls Tryd.prog 26 #[.pointer (some ⟨b, 0, none⟩)] w fun e w' => e = .returned (.string ⟨l.toArray⟩) ∧ w' = w.drew.freeze ⟨g, 0, none⟩ l.length := by
  have hl0 : l.length ≠ 0 := by simpa using h0
  have c1 : w.drew.cell? ⟨b, 1, none⟩ = some (.slice (some ⟨g, 0, none⟩) l.length cap) := hc1
  have hSD : (Builtin.unsafeSliceData_ #[55] 73 #[.slice (some ⟨g, 0, none⟩) l.length cap]).run Tryd.prog w.drew = .ok (.pointer (some ⟨g, 0, none⟩)) w.drew :=
    Lib.run_unsafeSliceData_row _ _ _ _ _ _ (by omega)
  have hUS : (Builtin.unsafeString_ #[73, 3] 9 #[.pointer (some ⟨g, 0, none⟩), .int .i64 l.length]).run Tryd.prog w.drew = .ok (.string ⟨l.toArray⟩) (w.drew.freeze ⟨g, 0, none⟩ l.length) :=
    Lib.run_unsafeString_row w.drew 73 3 9 5 Tryd.underlying73 (by kernel_rfl) g K hsh l h0 hn h63 hcell
  have mixed : Tryd.prog.follows .mixedOrders = true := hmix
  go_enter Tryd.func26, Tryd.ntmps26
  go_wp2
  go_region_o
  all_goals (go_wp2; go_ret; exact ⟨rfl, rfl⟩)
/-- copyCheck. -/
noncomputable def f39 (M : Mem) (id : Nat) : List AV → T (AV × Mem)
  | [.v (.pointer none), _] => (storeCell M id 0 0 (.ptr id 0 0)).bind fun M => .ret (.tup [], M)
  | [.ptr j r c, _] => .br (Nat.beq j id && (Nat.beq r 0 && Nat.beq c 0)) (.ret (.tup [], M)) .fail
  | _ => .fail
noncomputable def o39 (M : Mem) (id : Nat) : AObj → T (AV × Mem)
  | .own e rs cells => .br (Nat.beq e 57 && Nat.beq rs 2) (f39 M id cells) .fail
  | _ => .fail
noncomputable def g39 : List AV → Mem → T (AV × Mem)
  | [.ptr id r c], M => .br (Nat.beq r 0 && Nat.beq c 0) (o39 M id (M.get id)) .fail
  | _, _ => .fail
theorem nb {a b : Nat} (h : Nat.beq a b = true) : a = b := Nat.eq_of_beq_eq_true h
theorem s39 {N : NB} {R : Sp} (hR : SOk Tryd.prog N R) : SOk Tryd.prog N (fun f => bif2 (Nat.beq f 39) (some g39) (R f)) := by
  intro f s hs args M Q Qp hq
  simp only [bif2_eq] at hs
  split at hs
  · rename_i hfn
    obtain rfl : f = 39 := nb hfn
    cases hs
    refine .inl ⟨⟨_, _, Tryd.func39, rfl, by kernel_rfl⟩, fun φ w zs hr hz => ?_⟩
    unfold g39 at hq
    split at hq
    · rename_i id r c
      obtain ⟨h0, hq2⟩ := br_ok hq
      clear hq
      obtain ⟨h1, h2⟩ := Bool.and_eq_true_iff.1 h0
      obtain rfl := nb h1
      obtain rfl := nb h2
      have ho := hr.objs id
      unfold o39 at hq2
      split at hq2
      · rename_i e rs cells hg
        obtain ⟨h0, hq3⟩ := br_ok hq2
        clear hq2
        obtain ⟨h1, h2⟩ := Bool.and_eq_true_iff.1 h0
        obtain rfl := nb h1
        obtain rfl := nb h2
        rw [hg] at ho
        obtain ⟨p, hp, ⟨hp0, hps⟩, hrs, ⟨cur, fz, hcur, hcs, hfz⟩, hlen, hcells⟩ := ho
        have hat : p.at 0 0 = ⟨p.b, 0, none⟩ := by simp [Pl.at, hp0, hps]
        have hzs : zs = [.pointer (some ⟨p.b, 0, none⟩)] := by
          cases hz with
          | cons h1 h2 =>
            cases h2
            cases h1 with
            | ptr _ _ _ q hq' hs' =>
              rw [hp] at hq'; cases hq'
              rw [hat]
        subst hzs
        unfold f39 at hq3
        split at hq3
        · rename_i c1
          rw [T.holds_bind] at hq3
          obtain ⟨z, hz0, hzr⟩ := hcells 0 _ rfl
          have hz0 : w.cell? ⟨p.b, 0, none⟩ = some (.pointer none) := by
            cases hzr; exact hz0
          have hk : 1 ≤ p.k := by
            have : 2 ≤ p.k * 2 := hlen
            omega
          have hx : AVRel φ (.ptr id 0 0) (.pointer (some (p.at 0 0))) := .ptr id 0 0 p hp hps
          obtain ⟨_, M', hQ, hr', he⟩ := storeCell_ok (P := Tryd.prog) hr hp hx hq3
          rw [hat] at hr' he
          refine (cc_fresh p.b p.k hk w hz0 (by simp [World.shape?, hcur, hcs]) ?_).mono ?_
          · rcases hfz with hfz | hfz
            · simp [World.frozen?, hcur, hfz]
            · have : ¬ (fz.1 ≤ 0) := by omega
              simp [World.frozen?, hcur, this]
          · rintro e w' ⟨rfl, rfl⟩
            exact .inl ⟨_, rfl, φ, .tup [], M', hQ, .tup _ _ .nil, hr', he⟩
        · rename_i j r c c1
          obtain ⟨h0, hq4⟩ := br_ok hq3
          clear hq3
          obtain ⟨h1, h2⟩ := Bool.and_eq_true_iff.1 h0
          obtain ⟨h2, h3⟩ := Bool.and_eq_true_iff.1 h2
          obtain rfl := nb h1
          obtain rfl := nb h2
          obtain rfl := nb h3
          obtain ⟨z, hz0, hzr⟩ := hcells 0 _ rfl
          have hz0 : w.cell? ⟨p.b, 0, none⟩ = some (.pointer (some ⟨p.b, 0, none⟩)) := by
            cases hzr with
            | ptr _ _ _ q hq' hs' =>
              rw [hp] at hq'; cases hq'
              rw [hat] at hz0; exact hz0
          refine (cc_used p.b w hz0).mono ?_
          rintro e w' ⟨rfl, rfl⟩
          exact .inl ⟨_, rfl, .here hr hq4 (.tup _ _ .nil)⟩
        · exact hq3.elim
      · exact hq2.elim
    · exact hq.elim
  · exact hR f s hs args M Q Qp hq
/-- The bytes of a builder that will not be written any more. -/
theorem freeze_ok {N : NB} {φ : Phi} {M : Mem} {w : World} (hr : Rep N φ M w) {id : Nat} {p : Pl} (hp : φ id = some (some p)) (hown : isOwn (M.get id)) (hl : M.lock ≤ id) {cur : Array Value} {e : TypeId} {f : Nat × Nat} (hcur : w.heap[p.b]? = some (.cells cur e f)) (n : Nat) :
    Rep N φ (M.set id .dead) (w.drew.freeze ⟨p.b, 0, none⟩ n) ∧ Ext φ M w φ (M.set id .dead) (w.drew.freeze ⟨p.b, 0, none⟩ n) := by
  by_cases hn : n = 0
  · subst hn
    have e : (w.drew.freeze ⟨p.b, 0, none⟩ 0) = w.drew := rfl
    rw [e]
    refine ⟨⟨fun j => ?_, fun i j p q h1 h2 h3 h4 h5 => ?_, fun i q h1 h2 => ?_, fun i hi => ?_, hr.size⟩, ⟨.refl _, fun _ _ => rfl, Nat.le_refl _, rfl, rfl, rfl, rfl, Nat.le_refl _, fun b hb hno => rfl, fun j q h1 h2 _ => ?_⟩⟩
    · rw [Mem.get_set]
      split
      · exact hr.glob.same fun b hb => rfl
      · exact (hr.objs j).step (.refl _) (fun b hb => rfl) fun h q hq => rfl
    · rw [Mem.get_set] at h1 h2
      split at h1
      · exact h1.elim
      · split at h2
        · exact h2.elim
        · exact hr.sep i j p q h1 h2 h3 h4 h5
    · rw [Mem.get_set] at h1
      split at h1
      · exact h1.elim
      · exact hr.high i q h1 h2
    · have := hr.fresh i hi
      rw [Mem.get_set]
      refine ⟨?_, this.2⟩
      split
      · rfl
      · exact this.1
    · rw [Mem.get_set] at h1
      split at h1
      · exact h1.elim
      · exact ⟨j, q, h1, h2, rfl, fun h => h⟩
  · have hheap : ∀ b, b ≠ p.b → (w.drew.freeze ⟨p.b, 0, none⟩ n).heap[b]? = w.heap[b]? := by
      intro b hb
      show (w.drew.freeze ⟨p.b, 0, none⟩ n).heap[b]? = w.drew.heap[b]?
      unfold World.freeze
      rw [if_neg hn]
      simp only [Array.getElem?_modify]
      rw [if_neg (Ne.symm hb)]
    have hcell : ∀ a, (w.drew.freeze ⟨p.b, 0, none⟩ n).cell? a = w.cell? a := by
      intro a
      by_cases hb : a.block = p.b
      · simp only [World.cell?]
        have : (w.drew.freeze ⟨p.b, 0, none⟩ n).heap[a.block]? = some (.cells cur e (if f.1 == f.2 then (0, 0 + n) else (min f.1 0, max f.2 (0 + n)))) := by
          unfold World.freeze
          rw [if_neg hn]
          simp only [Array.getElem?_modify, hb, if_true]
          have : w.drew.heap[p.b]? = some (.cells cur e f) := hcur
          rw [this]; rfl
        rw [this, hb, hcur]
      · simp only [World.cell?, hheap _ hb]
    have hN := hr.high id p hown hp
    have hsame : SameBelow N w (w.drew.freeze ⟨p.b, 0, none⟩ n) := fun b hb => hheap b (by omega)
    have hsz : (w.drew.freeze ⟨p.b, 0, none⟩ n).heap.size = w.heap.size := by
      show (w.drew.freeze ⟨p.b, 0, none⟩ n).heap.size = w.drew.heap.size
      simp [World.freeze, hn]
    have hos : (w.drew.freeze ⟨p.b, 0, none⟩ n).os = w.os := by show _ = w.drew.os; simp [World.freeze, hn]
    have htp : (w.drew.freeze ⟨p.b, 0, none⟩ n).tape = w.tape := by show _ = w.drew.tape; simp [World.freeze, hn]
    have hou : (w.drew.freeze ⟨p.b, 0, none⟩ n).output = w.output := by show _ = w.drew.output; simp [World.freeze, hn]
    refine ⟨⟨fun j => ?_, fun i j p q h1 h2 h3 h4 h5 => ?_, fun i q h1 h2 => ?_, fun i hi => ?_, ?_⟩, ⟨.refl _, fun _ _ => rfl, Nat.le_refl _, rfl, hos, htp, hou, by rw [hsz]; exact Nat.le_refl _, fun b hb hno => ?_, fun j q h1 h2 _ => ?_⟩⟩
    · rw [Mem.get_set]
      split
      · exact hr.glob.same hsame
      · rename_i hj
        refine (hr.objs j).step (.refl _) hsame fun h q hq => ?_
        exact hheap _ fun e => hj (hr.sep j id q p h hown hq hp e)
    · rw [Mem.get_set] at h1 h2
      split at h1
      · exact h1.elim
      · split at h2
        · exact h2.elim
        · exact hr.sep i j p q h1 h2 h3 h4 h5
    · rw [Mem.get_set] at h1
      split at h1
      · exact h1.elim
      · exact hr.high i q h1 h2
    · have := hr.fresh i hi
      rw [Mem.get_set]
      refine ⟨?_, this.2⟩
      split
      · rfl
      · exact this.1
    · rw [hsz]; exact hr.size
    · exact hheap _ fun e => hno id p hl hown hp e.symm
    · rw [Mem.get_set] at h1
      split at h1
      · exact h1.elim
      · exact ⟨j, q, h1, h2, rfl, fun h => h⟩
/-- String. -/
noncomputable def v26 (M : Mem) (id2 n : Nat) : AObj → T (AV × Mem)
  | .vec e m [.ci .u8 l] => .br (Nat.beq e 5 && (Nat.beq m n && (Nat.blt 0 n && (Nat.ble n 1000000 && l.all fun x => decide (0 ≤ x) && decide (x < 256))))) (.ck (Nat.ble M.lock id2) (.ret (.s (strOf l), M.set id2 .dead))) .fail
  | _ => .fail
noncomputable def f26 (M : Mem) : List AV → T (AV × Mem)
  | [_, .sl id2 r n _] => .br (Nat.beq r 0) (v26 M id2 n (M.get id2)) .fail
  | _ => .fail
noncomputable def o26 (M : Mem) : AObj → T (AV × Mem)
  | .own e rs cells => .br (Nat.beq e 57 && Nat.beq rs 2) (f26 M cells) .fail
  | _ => .fail
noncomputable def g26 : List AV → Mem → T (AV × Mem)
  | [.ptr id r c], M => .br (Nat.beq r 0 && Nat.beq c 0) (o26 M (M.get id)) .fail
  | _, _ => .fail
theorem s26 {N : NB} {R : Sp} (hR : SOk Tryd.prog N R) : SOk Tryd.prog N (fun f => bif2 (Nat.beq f 26) (some g26) (R f)) := by
  intro f s hs args M Q Qp hq
  simp only [bif2_eq] at hs
  split at hs
  · rename_i hfn
    obtain rfl : f = 26 := nb hfn
    cases hs
    refine .inl ⟨⟨_, _, Tryd.func26, rfl, by kernel_rfl⟩, fun φ w zs hr hz => ?_⟩
    unfold g26 at hq
    split at hq
    · rename_i id r c
      obtain ⟨h0, hq2⟩ := br_ok hq
      clear hq
      obtain ⟨h1, h2⟩ := Bool.and_eq_true_iff.1 h0
      obtain rfl := nb h1
      obtain rfl := nb h2
      have ho := hr.objs id
      unfold o26 at hq2
      split at hq2
      · rename_i e rs cells hg
        obtain ⟨h0, hq3⟩ := br_ok hq2
        clear hq2
        obtain ⟨h1, h2⟩ := Bool.and_eq_true_iff.1 h0
        obtain rfl := nb h1
        obtain rfl := nb h2
        rw [hg] at ho
        obtain ⟨p, hp, ⟨hp0, hps⟩, hrs, ⟨cur, fz, hcur, hcs, hfz⟩, hlen, hcells⟩ := ho
        have hat : p.at 0 0 = ⟨p.b, 0, none⟩ := by simp [Pl.at, hp0, hps]
        have hzs : zs = [.pointer (some ⟨p.b, 0, none⟩)] := by
          cases hz with
          | cons h1 h2 =>
            cases h2
            cases h1 with
            | ptr _ _ _ q hq' hs' =>
              rw [hp] at hq'; cases hq'
              rw [hat]
        subst hzs
        unfold f26 at hq3
        split at hq3
        · rename_i c0 id2 r2 n cap
          obtain ⟨h0, hq4⟩ := br_ok hq3
          clear hq3
          obtain rfl := nb h0
          obtain ⟨z, hz1, hzr⟩ := hcells 1 _ rfl
          have ho2 := hr.objs id2
          unfold v26 at hq4
          split at hq4
          · rename_i e2 m l hg2
            obtain ⟨h0, hq5⟩ := br_ok hq4
            clear hq4
            obtain ⟨k1, h0⟩ := Bool.and_eq_true_iff.1 h0
            obtain ⟨k2, h0⟩ := Bool.and_eq_true_iff.1 h0
            obtain ⟨k3, h0⟩ := Bool.and_eq_true_iff.1 h0
            obtain ⟨k4, k5⟩ := Bool.and_eq_true_iff.1 h0
            obtain rfl := nb k1
            obtain rfl := nb k2
            have k3 : 0 < m := by simpa [Nat.blt_eq] using k3
            have k4 : m ≤ 1000000 := Nat.le_of_ble_eq_true k4
            obtain ⟨hl, hQ⟩ := hq5
            have hQ : Q (.s (strOf l), M.set id2 .dead) := hQ
            rw [hg2] at ho2
            obtain ⟨hcl, p2, hp2, ⟨hp20, hp2s⟩, hrs2, ⟨cur2, fz2, hcur2, hcs2, hfz2⟩, hm, hcol⟩ := ho2
            have hll : l.length = m := hcl 0 _ rfl
            cases hzr with
            | sl _ _ _ _ x cc hpx h0 hcap hle hk hss =>
              rw [hp2] at hpx
              cases hpx
              have hat2 : p2.at 0 0 = ⟨p2.b, 0, none⟩ := by simp [Pl.at, hp20, hp2s]
              have hz1 : w.cell? ⟨p.b, 1, none⟩ = some (.slice (some ⟨p2.b, 0, none⟩) m cc) := by rw [← hat2]; exact hz1
              let l8 : List UInt8 := l.map fun n => UInt8.ofNat n.toNat
              have hl8 : l8.length = m := by simp [l8, hll]
              have key := str_calls p.b p2.b cc (p2.k * 1) l8 w (by intro e; rw [e] at hl8; simp at hl8; omega) (by rw [hl8]; omega) (by rw [hl8]; omega) (by rw [hl8]; omega) (by rw [hl8]; exact hz1) (by
                simp only [List.length_cons, List.length_nil] at hcs2
                simp [World.shape?, hcur2, hcs2]) (by
                intro j x hx
                have hx : (l[j]?).map (fun n => UInt8.ofNat n.toNat) = some x := by simpa [l8] using hx
                obtain ⟨y, hy, rfl⟩ := Option.map_eq_some_iff.1 hx
                have hj : j < m := by rw [← hll]; exact (List.getElem?_eq_some_iff.1 hy).1
                obtain ⟨z, hz, hzr⟩ := hcol j hj 0 _ rfl
                have hat3 : p2.at j 0 = (⟨p2.b, 0, none⟩ : Addr).add j := by simp [Pl.at, hp20, hp2s, hrs2, Addr.add]
                rw [hat3] at hz
                cases hzr
                rw [hz]
                have hrange := List.all_eq_true.1 k5 y (List.mem_of_getElem? hy)
                obtain ⟨r1, r2⟩ := Bool.and_eq_true_iff.1 hrange
                have r1 := of_decide_eq_true r1
                have r2 := of_decide_eq_true r2
                have e1 : l.getD j 0 = y := by simp [List.getD, hy]
                rw [e1]
                congr 2
                have : (UInt8.ofNat y.toNat).toNat = y.toNat := by simp [UInt8.toNat_ofNat']; omega
                rw [this]; omega)
              refine key.mono ?_
              rintro e w' ⟨rfl, rfl⟩
              obtain ⟨a, b⟩ := freeze_ok hr hp2 (by rw [hg2]; trivial) (Nat.le_of_ble_eq_true hl) hcur2 l8.length
              exact .inl ⟨_, rfl, φ, .s (strOf l), _, hQ, .s _, a, b⟩
          · exact hq4.elim
        · exact hq3.elim
      · exact hq2.elim
    · exact hq.elim
  · exact hR f s hs args M Q Qp hq
end Go.Proofs.TabX
