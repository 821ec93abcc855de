/- What an argument of these laws may be, in columns, and how a law about columns becomes one about calls; without conditions. -/
import Derived.Test.YthfdfjkmccbikaaGreatDoorSetY
import Derived.Test.YthfdfjkmccbikaaGreatDoorEngMd
import Derived.Test.YthfdfjkmccbikaaGreatDoorTie
import Derived.ProofKit
import Derived.ChangeVars
import Derived.LaidLaws
import Derived.LaidHandle
import Derived.LaidMore
import Derived.OpenShut
import Derived.Lay
import Derived.Stop.Joined
import Derived.Stop.LaidErr
set_option linter.all false
set_option linter.deprecated false
set_option maxRecDepth 1000000
set_option maxHeartbeats 4000000
namespace Go.Proofs.YthfdfjkmccbikaaGreatDoor
open Go.ChangeShapes Go.WideShapes Go.ChangeAt Go.RowKit
open Go.Eng Go.Proofs.TabZ
theorem Tryz.own : ownKnob Tryz.prog.godebug = none := by kernel_rfl
theorem Tryz.laidOut : laidOutB Tryz.prog = true := by kernel_rfl
def kT : List SK := [.str, .int .i64, .int .i64, .int .i64, .int .i64, .int .i64, .int .i64, .int .i64, .int .i64, .bool]
def kB : List SK := [.int .i64]
def kA : List SK := [.sl 10 fun c => kT.getD c .bool, .str, .int .i64, .int .i64, .sl 1 fun c => kB.getD c .bool, .int .i64, .int .i64, .flt .f64, .int .u64, .str]
def ks22 : List SK := [.sl 10 fun c => kA.getD c .bool]
theorem sh22 : shapeL Tryz.prog 8 22 = some ks22 := by kernel_rfl
theorem memOne (o : AObj) : (⟨1, 1, upd (fun _ => .dead) 0 o⟩ : Mem) = memL 1 [o] := by
  unfold memL
  congr 1
  funext id
  cases id <;> rfl
abbrev laidZ : List (String × DataW Unit) := [("math/bits.deBruijn32tab", Rows.laid_math_bits_deBruijn32tab), ("math/bits.deBruijn64tab", Rows.laid_math_bits_deBruijn64tab), ("internal/strconv.uint64pow10", Rows.laid_internal_strconv_uint64pow10), ("unicode/utf8.acceptRanges", Rows.laid_unicode_utf8_acceptRanges), ("strconv.ErrRange", Rows.laid_strconv_ErrRange), ("strconv.ErrSyntax", Rows.laid_strconv_ErrSyntax), ("unicode/utf8.first", Rows.laid_unicode_utf8_first)]
theorem door_met (os : Os) (args : Array Value) : laidMetH Tryz.prog laidZ ((World.laidAll Tryz.prog os laidZ).forCall (fun _ _ => 0) ⟨#[], args, []⟩).memory := by
  rw [MakeChecks.laidMetH_plain _ _ _ (by kernel_rfl)]
  exact laidMet_laidAll _ (by kernel_rfl) (by kernel_rfl)
theorem door_shaped (os : Os) : World.variablesZipB Tryz.prog (World.laidAll Tryz.prog os laidZ) = true := by kernel_rfl
theorem star : "*" ++ "errors.errorString" = "*errors.errorString" := by decide
theorem row156 (u : TypeId) (h : Tryz.prog.typeName? 3 u = some "*errors.errorString") : u = 156 :=
  typeName_ptr_named (nm := "errors.errorString") (by rw [star]; kernel_rfl) (by kernel_rfl) (by decide) u (by rw [star]; exact h)
theorem tabOf {W : World} {l : List (String × DataW Unit)} {d : DataW Unit} {name : String} {q : IntKind} {zs : List Int} {g : Nat} (h : laidMet Tryz.prog l W) (hm : (name, d) ∈ l) (hd : d = Lib.tabData q zs) {t e : TypeId} {n : Nat}
    (hty : (Tryz.prog.globals[g]?).map (·.type) = some t) (ht : Tryz.prog.underlying t = some (.array n e)) (he : Tryz.prog.underlying e = some (.int q)) (hce : Tryz.prog.cellsOf e = 1) (hct : Tryz.prog.cellsOf t = n) (hg : Tryz.prog.globalNamed name = some g) :
    ∀ off z, zs[off]? = some z → W.cell? ⟨g, off, none⟩ = some (.int q z) := by
  obtain ⟨g', t', cs, fuel, p, hg', ht', hvar, hr⟩ := Lib.laidMet.reads h hm
  obtain rfl := Option.some.inj (hg.symm.trans hg')
  obtain rfl := Option.some.inj (hty.symm.trans ht')
  have hT : Lib.TabIs Tryz.prog W name q zs := by
    unfold Lib.TabIs
    rw [hd] at hr
    rw [hvar, ← Lib.cells_of_tab ht he hce hct hr]
  intro off z hz
  have hlt : off < zs.length := (List.getElem?_eq_some_iff.1 hz).1
  have hc := hT.cell hg off hlt
  have : zs.getD off 0 = z := by rw [List.getD_eq_getElem?_getD, hz]; rfl
  rwa [this] at hc
theorem glob_laid {W : World} (h : laidMetH Tryz.prog laidZ W) : ∃ te pe tr pr, Glob ⟨W.heap.size, glY (.iface te pe) (.iface tr pr)⟩ W := by
  rw [MakeChecks.laidMetH_plain _ _ _ (by kernel_rfl)] at h
  have t2 := tabOf h (.tail _ (.tail _ (.head _))) (zs := tabP) (q := .u64) (by kernel_rfl) (g := 2) (t := 137) (e := 54) (n := 20) (by kernel_rfl) (by kernel_rfl) (by kernel_rfl) (by kernel_rfl) (by kernel_rfl) (by kernel_rfl)
  have c158 : Tryz.prog.cellsOf 158 = 1 := by kernel_rfl
  have c9 : Tryz.prog.cellsOf 9 = 1 := by kernel_rfl
  have gR : Tryz.prog.globalNamed "strconv.ErrRange" = some 5 := by kernel_rfl
  have gS : Tryz.prog.globalNamed "strconv.ErrSyntax" = some 4 := by kernel_rfl
  obtain ⟨ar, sr, hvr, _⟩ := laid_sentinel h.tail.tail.tail.tail gR (ti := 68) (by kernel_rfl) Tryz.underlying68 row156 Tryz.underlying156 Tryz.underlying158 rfl rfl Tryz.underlying9 c158 c9
  obtain ⟨aS, ss, hvs, _⟩ := laid_sentinel h.tail.tail.tail.tail.tail gS (ti := 68) (by kernel_rfl) Tryz.underlying68 row156 Tryz.underlying156 Tryz.underlying158 rfl rfl Tryz.underlying9 c158 c9
  have hcr : W.cell? ⟨5, 0, none⟩ = some (.iface 156 (.pointer (some ar))) := by simpa using World.var?_cell gR hvr 0
  have hcs : W.cell? ⟨4, 0, none⟩ = some (.iface 156 (.pointer (some aS))) := by simpa using World.var?_cell gS hvs 0
  refine ⟨156, .pointer (some aS), 156, .pointer (some ar), fun b off v e0 => ?_⟩
  have key : W.cell? ⟨b, off, none⟩ = some v → b < W.heap.size ∧ W.cell? ⟨b, off, none⟩ = some v := fun hc => ⟨cell_lt hc, hc⟩
  have e : (if b = 2 then (tabP[off]?).map (Value.int .u64) else if b = 4 then (if off = 0 then some (.iface 156 (.pointer (some aS))) else none) else if b = 5 then (if off = 0 then some (.iface 156 (.pointer (some ar))) else none) else none) = some v := e0
  clear e0
  refine key ?_
  split at e
  · rename_i hb
    subst hb
    obtain ⟨z, hz, rfl⟩ := Option.map_eq_some_iff.1 e
    exact t2 off z hz
  · split at e
    · rename_i hb
      subst hb
      split at e
      · rename_i ho
        subst ho
        cases e
        exact hcs
      · cases e
    · split at e
      · rename_i hb
        subst hb
        split at e
        · rename_i ho
          subst ho
          cases e
          exact hcr
        · cases e
      · cases e
/-- A law that asks nothing of asks but how many there are. -/
theorem scr_ok {S : Sp} (hS : ∀ te tr pe pr k, SOk Tryz.prog (nY (.iface te pe) (.iface tr pr) k) S) {f d : Nat} {z : Bool} (hSf : S f = none) {W : World} (hL : laidMetH Tryz.prog laidZ W) {held : Bool} {sp : Nat → Bool} {v : Value} {Hh : Type} {enc : TypeId × Value → Hh} {dd : DataW Hh} {p : List MemPlace} (ht : DataW.Trod enc Tryz.prog W 0 sp held 22 v dd p) (hv : ∃ a b c, v = .slice a b c)
    (law : ∀ (a : Bool) (n c : Nat) (x : List Col), H (evFun Tryz.prog (ttOf tts) S (fns z).get 1048576 d f [.sl 0 0 n (some c)] (memL 1 [.ro a n x])) (fun x => x.1 = .b true) (fun _ _ => False)) :
    Calls Tryz.prog f #[v] W fun e W' => e = .returned (.bool true) ∧ Below W.heap.size W W' := by
  obtain ⟨te, pe, tr, pr, hgl⟩ := glob_laid hL
  refine law_callsG tok (fok z) hmix (L := 1048576) (d := d) (g := 8) (ks := ks22) sh22 hgl (hS _ _ _ _ _) (hSf := hSf) ht (arg := fun l => l.headD .top) ?_ ?_
  · obtain ⟨a, b, c, rfl⟩ := hv
    intro φ l h
    cases h with
    | cons h t => exact h
  · intro cols hfit
    obtain ⟨a0, cs, rfl, h0, k0, hfit⟩ := FitN.cons (n := 1) hfit
    obtain rfl := hfit.nil
    obtain ⟨nl, n, cap, sub, rfl, hnc, hcap, hnl, hfs⟩ := fit_sl1 h0 rfl k0
    have hM : argMem [.cl [(nl, n, cap)] sub] = memL 1 [.ro nl n (sub 0)] := by
      rw [← memOne]
      rfl
    rw [hM]
    exact law nl n cap _
end Go.Proofs.YthfdfjkmccbikaaGreatDoor
