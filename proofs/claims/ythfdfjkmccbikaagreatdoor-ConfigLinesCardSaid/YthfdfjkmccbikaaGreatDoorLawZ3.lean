/- A law walked through by the evaluator, for all columns that its argument may have. -/
import Derived.Test.YthfdfjkmccbikaaGreatDoorTblZU
set_option linter.all false
set_option linter.deprecated false
set_option maxRecDepth 1000000
set_option maxHeartbeats 0
namespace Go.Proofs.TabZ
open Go Go.Eng
/-- Parse by the table; what it does not tell is not told. -/
noncomputable def Sv : Sp := fun f => bif2 (Nat.beq f 8) (some (tabS parse8 tblU)) (Sb f)
theorem sv (te tr : TypeId) (pe pr : Value) (k : Nat) : SOk Tryz.prog (nY (.iface te pe) (.iface tr pr) k) Sv := by
  obtain ⟨fn, h1, h2, h3, hn, h4, h5⟩ := (fiOk8 true).ex
  refine sOk_tabH (sb te tr pe pr k) h1 h2 h4 (fun args M Q Qp h φ w zs hr hz => ?_) tblU_ok
  exact evFunD_ok tok (evFun_ok tok (sb te tr pe pr k) (fok true) hmix 9) hmix dz_ok (fiOk8 true) h hr hz
/-- ConfigLines: its input is asked for its length alone. -/
theorem configLines_law (a : Bool) (n c : Nat) (x : List Col) : H (et Sv 12 3 [.sl 0 0 n (some c)] (memL 1 [.ro a n x])) (fun x => x.1 = .b true) (fun _ _ => False) :=
  H.lf (f := Prod.fst) (Q := fun v : AV => v = .b true) 100000 (AV.b true) (by kernel_rfl) rfl
end Go.Proofs.TabZ
