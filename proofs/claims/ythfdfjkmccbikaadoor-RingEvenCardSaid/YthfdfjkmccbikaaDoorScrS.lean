/- What an argument of these laws may be, in columns, and how a law about columns becomes one about calls; without conditions. -/
import Derived.Test.YthfdfjkmccbikaaDoorSetS
import Derived.Test.YthfdfjkmccbikaaDoorEngMd
import Derived.Test.YthfdfjkmccbikaaDoorTie
import Derived.ProofKit
import Derived.ChangeVars
import Derived.LaidLaws
import Derived.LaidHandle
import Derived.LaidMore
import Derived.OpenShut
import Derived.Lay
import Derived.SizedLaws
import Derived.Deep.Strs
import Derived.Stop.Joined
set_option linter.all false
set_option linter.deprecated false
set_option maxRecDepth 1000000
set_option maxHeartbeats 4000000
namespace Go.Proofs.YthfdfjkmccbikaaDoor
open Go.ChangeShapes Go.WideShapes Go.ChangeAt Go.RowKit
open Go.Eng Go.Proofs.TabS
theorem Tryd.own : ownKnob Tryd.prog.godebug = none := by kernel_rfl
theorem Tryd.laidOut : laidOutB Tryd.prog = true := by kernel_rfl
def kI : List SK := [.int .i64]
def ks24 : List SK := [.sl 1 fun c => kI.getD c .bool, .sl 1 fun c => kI.getD c .bool, .sl 1 fun c => kI.getD c .bool]
theorem sh24 : shapeL Tryd.prog 8 24 = some ks24 := by kernel_rfl
theorem memThree (o o2 o3 : AObj) : (⟨3, 3, upd (upd (upd (fun _ => .dead) 0 o) 1 o2) 2 o3⟩ : Mem) = memL 3 [o, o2, o3] := by
  unfold memL
  congr 1
  funext id
  match id with
  | 0 => rfl
  | 1 => rfl
  | 2 => rfl
  | _ + 3 => rfl
abbrev laidS : List (String × DataW Unit) := [("math/bits.deBruijn32tab", Rows.laid_math_bits_deBruijn32tab), ("math/bits.deBruijn64tab", Rows.laid_math_bits_deBruijn64tab), ("internal/strconv.uint64pow10", Rows.laid_internal_strconv_uint64pow10), ("unicode/utf8.acceptRanges", Rows.laid_unicode_utf8_acceptRanges), ("strconv.ErrRange", Rows.laid_strconv_ErrRange), ("strconv.ErrSyntax", Rows.laid_strconv_ErrSyntax), ("unicode/utf8.first", Rows.laid_unicode_utf8_first)]
theorem door_met (os : Os) (args : Array Value) : laidMetH Tryd.prog laidS ((World.laidAll Tryd.prog os laidS).forCall (fun _ _ => 0) ⟨#[], args, []⟩).memory := by
  rw [MakeChecks.laidMetH_plain _ _ _ (by kernel_rfl)]
  exact laidMet_laidAll _ (by kernel_rfl) (by kernel_rfl)
theorem door_shaped (os : Os) : World.variablesZipB Tryd.prog (World.laidAll Tryd.prog os laidS) = true := by kernel_rfl
theorem law_callsR {Hh : Type} {enc : TypeId × Value → Hh} {P : Program} {tt : TT} (tok : TTok P tt) {S : Nat → Option (List AV → Mem → T (AV × Mem))} {F : Nat → Option FI} (hF : FOk P F) (hmix : P.follows .mixedOrders = true) {L d : Nat} {f : FuncId} {t : TypeId}
    {ks : List SK} {g : Nat} (hsh : shapeL P g t = some ks) {W : World} (hS : SOk P ⟨W.heap.size, noGl⟩ S) {sp : Nat → Bool} {held : Bool} {v : Value} {dd : DataW Hh} {p : List MemPlace} (ht : DataW.Trod enc P W 0 sp held t v dd p)
    {arg : List AV → AV} (harg : ∀ φ l, AVsRel φ l v.cells.toList → AVRel φ (arg l) v)
    (law : ∀ cols, FitCols ks cols → (∃ φ, AVsRel φ (argVals cols) v.cells.toList) → H (evFun P tt S F L d f [arg (argVals cols)] (argMem cols)) (fun x => x.1 = .b true) (fun _ _ => False)) (hSf : S f = none := by kernel_rfl) :
    Calls P f #[v] W fun e W' => e = .returned (.bool true) ∧ Below W.heap.size W W' := by
  obtain ⟨fuel, htr⟩ := ht
  have hcells := trod_cells fuel htr hsh
  obtain ⟨cols, hfit, hrel⟩ := fit_ex (gl := noGl) ks v.cells.toList hcells
  obtain ⟨φ, _, hr, hx⟩ := putCols_ok cols (rep0 (glob_no W)) (by rw [hfit.1, hcells.1]) hrel
  obtain ⟨_, hc⟩ := evFun_okA tok hS hF hmix d hSf [arg (argVals cols)] (argMem cols) _ _ (law cols hfit ⟨φ, hx⟩).out
  have := hc φ W [v] (hr.lock _) (.cons (harg φ _ hx) .nil)
  refine this.mono fun e W' h => ?_
  rcases h with ⟨u, rfl, φ', x, M', hq, hxv, hr', he⟩ | ⟨u, rfl, φ', x, M', hq, _⟩
  · have hq : x = .b true := hq
    subst hq
    cases hxv
    exact ⟨rfl, he.below (hr.lock _)⟩
  · exact hq.elim
/-- How long the first of shares may be. -/
theorem share_len {W : World} {held : Bool} {sp : Nat → Bool} {v : Value} {Hh : Type} {enc : TypeId × Value → Hh} {dd : DataW Hh} {p : List MemPlace} (ht : DataW.Trod enc Tryd.prog W 0 sp held 24 v dd p)
    (hsz : (DataW.weightsEach Tryd.prog [24] [dd]).all (· ≤ reachBytes) = true) : ∃ a len cap r, v.cells.toList = .slice a len cap :: r ∧ len ≤ 1152921504606846976 := by
  obtain ⟨fuel, h⟩ := ht
  obtain ⟨y0, y1, y2, n, e, hl, h0, h1, h2⟩ := Go.Deep.trod_struct3 Tryd.underlying24 h
  have c22 : Tryd.prog.cellsOf 22 = 1 := by kernel_rfl
  have b3 : Tryd.prog.bytesOf 3 = 8 := by kernel_rfl
  have hd : dd = .agg [y0.1, y1.1, y2.1] := (Prod.mk.inj e).1
  have h0 : DataW.trod enc Tryd.prog W 0 sp held n 22 ((v.cells.toList.drop 0).take (Tryd.prog.cellsOf 22)) = some y0 := h0
  rw [c22, List.drop_zero] at h0
  have key : ∀ x : Value, v.cells.toList.take 1 = [x] → ∃ r, v.cells.toList = x :: r := by
    intro x hx
    cases hv : v.cells.toList with
    | nil => rw [hv] at hx; cases hx
    | cons z r => rw [hv] at hx; simp at hx; subst hx; exact ⟨r, rfl⟩
  rcases DataW.trod_slice Tryd.underlying22 h0 with ⟨hc, _⟩ | ⟨a, len, cap, elems, rest, m, _, hc, hx, _, _, _, hlen, _⟩
  · obtain ⟨r, hr⟩ := key _ hc
    exact ⟨_, _, _, r, hr, by decide⟩
  · obtain ⟨r, hr⟩ := key _ hc
    refine ⟨_, _, _, r, hr, ?_⟩
    have hw : (elems.length + rest.length) * 8 ∈ DataW.weightsEach Tryd.prog [24] [dd] := by
      rw [hd]
      simp only [DataW.weightsEach, DataW.weights, Tryd.underlying24]
      refine List.mem_append.2 (.inl ?_)
      have hy : y0.1 = .slice (elems.map (·.1)) (rest.map (·.1)) := by rw [hx]
      simp only [DataW.weightsEach, List.map_cons, hy, DataW.weights, Tryd.underlying22, b3, List.length_map]
      simp
    have := List.all_eq_true.1 hsz _ hw
    have : (elems.length + rest.length) * 8 ≤ reachBytes := by simpa using this
    have := reachBytes_lt
    omega
/-- A law that asks nothing of shares but their lengths. -/
theorem scr_ok {S : Sp} (hS : ∀ N, SOk Tryd.prog N S) {f d : Nat} {z : Bool} (hSf : S f = none) {W : World} {held : Bool} {sp : Nat → Bool} {v : Value} {Hh : Type} {enc : TypeId × Value → Hh} {dd : DataW Hh} {p : List MemPlace} (ht : DataW.Trod enc Tryd.prog W 0 sp held 24 v dd p) (hv : ∃ a, v = .agg a)
    (hsz : (DataW.weightsEach Tryd.prog [24] [dd]).all (· ≤ reachBytes) = true)
    (law : ∀ (a b c : Bool) (n n2 n3 c1 c2 c3 : Nat) (x y z' : List Col), n ≤ 1152921504606846976 →
      H (evFun Tryd.prog (ttOf tts) S (fns z).get 1048576 d f [.agg [.sl 0 0 n (some c1), .sl 1 0 n2 (some c2), .sl 2 0 n3 (some c3)]] (memL 3 [.ro a n x, .ro b n2 y, .ro c n3 z'])) (fun x => x.1 = .b true) (fun _ _ => False)) :
    Calls Tryd.prog f #[v] W fun e W' => e = .returned (.bool true) ∧ Below W.heap.size W W' := by
  obtain ⟨sa, len, scap, sr, hcs, hle⟩ := share_len ht hsz
  refine law_callsR tok (fok z) hmix (L := 1048576) (d := d) (g := 8) (ks := ks24) sh24 (hS _) (hSf := hSf) ht (arg := fun l => .agg l) ?_ ?_
  · obtain ⟨a, rfl⟩ := hv
    intro φ l h
    exact .agg l a h
  · intro cols hfit hrel
    obtain ⟨φ, hrel⟩ := hrel
    obtain ⟨a0, cs, rfl, h0, k0, hfit⟩ := FitN.cons (n := 1) hfit
    obtain ⟨a1, cs, rfl, h1, k1, hfit⟩ := hfit.cons
    obtain ⟨a2, cs, rfl, h2, k2, hfit⟩ := hfit.cons
    obtain rfl := hfit.nil
    obtain ⟨nl, n, cap, sub, rfl, hnc, hcap, hnl, hfs⟩ := fit_sl1 h0 rfl k0
    obtain ⟨nl2, n2, cap2, sub2, rfl, hnc2, hcap2, hnl2, hfs2⟩ := fit_sl1 h1 rfl k1
    obtain ⟨nl3, n3, cap3, sub3, rfl, hnc3, hcap3, hnl3, hfs3⟩ := fit_sl1 h2 rfl k2
    have hM : argMem [.cl [(nl, n, cap)] sub, .cl [(nl2, n2, cap2)] sub2, .cl [(nl3, n3, cap3)] sub3] = memL 3 [.ro nl n (sub 0), .ro nl2 n2 (sub2 0), .ro nl3 n3 (sub3 0)] := by
      rw [← memThree]
      rfl
    have hn : n = len := by
      rw [hcs] at hrel
      have hrel : AVsRel φ [.sl 0 0 n (some cap), .sl 1 0 n2 (some cap2), .sl 2 0 n3 (some cap3)] (.slice sa len scap :: sr) := hrel
      cases hrel with
      | cons h t => cases h; rfl
    rw [hM]
    exact law nl nl2 nl3 n n2 n3 cap cap2 cap3 _ _ _ (by omega)
end Go.Proofs.YthfdfjkmccbikaaDoor
