/- A law walked through by the evaluator, for all columns that its argument may have. -/
import Derived.Test.YtnkglgcfemkibaaLawG0
import Derived.Test.YtnkglgcfemkibaaLawG1
import Derived.Test.YtnkglgcfemkibaaLawG2
import Derived.Test.YtnkglgcfemkibaaLawG3
import Derived.Test.YtnkglgcfemkibaaLawG4
set_option linter.all false
set_option linter.deprecated false
set_option maxRecDepth 1000000
set_option maxHeartbeats 0
namespace Go.Proofs.TabC
open Go Go.Eng
theorem law8 (nl nl2 : Bool) (n n2 cap cap2 : Nat) (c1 c2 : List Col) : H (ev Sq 12 8 [.agg [.sl 0 0 n (some cap), .sl 1 0 n2 (some cap2)]] (memL 2 [.ro nl n c1, .ro nl2 n2 c2])) (fun x => x.1 = .b true) (fun _ _ => False) := by
  have hb := wi_nonneg (n := (n2 : Int)) (m := 50) (by omega)
  have hb2 := wi_lt (n := (n2 : Int)) (m := 50) (by omega)
  obtain ⟨k, hk⟩ : ∃ k : Nat, wi (n2 : Int) 50 = (k : Int) := ⟨(wi (n2 : Int) 50).toNat, by omega⟩
  have hlt : k < 50 := by omega
  by_cases h0 : k = 0
  · subst h0; exact gw0 nl nl2 n n2 cap cap2 c1 c2 hk
  by_cases h1 : k = 1
  · subst h1; exact gw1 nl nl2 n n2 cap cap2 c1 c2 hk
  by_cases h2 : k = 2
  · subst h2; exact gw2 nl nl2 n n2 cap cap2 c1 c2 hk
  by_cases h3 : k = 3
  · subst h3; exact gw3 nl nl2 n n2 cap cap2 c1 c2 hk
  by_cases h4 : k = 4
  · subst h4; exact gw4 nl nl2 n n2 cap cap2 c1 c2 hk
  by_cases h5 : k = 5
  · subst h5; exact gw5 nl nl2 n n2 cap cap2 c1 c2 hk
  by_cases h6 : k = 6
  · subst h6; exact gw6 nl nl2 n n2 cap cap2 c1 c2 hk
  by_cases h7 : k = 7
  · subst h7; exact gw7 nl nl2 n n2 cap cap2 c1 c2 hk
  by_cases h8 : k = 8
  · subst h8; exact gw8 nl nl2 n n2 cap cap2 c1 c2 hk
  by_cases h9 : k = 9
  · subst h9; exact gw9 nl nl2 n n2 cap cap2 c1 c2 hk
  by_cases h10 : k = 10
  · subst h10; exact gw10 nl nl2 n n2 cap cap2 c1 c2 hk
  by_cases h11 : k = 11
  · subst h11; exact gw11 nl nl2 n n2 cap cap2 c1 c2 hk
  by_cases h12 : k = 12
  · subst h12; exact gw12 nl nl2 n n2 cap cap2 c1 c2 hk
  by_cases h13 : k = 13
  · subst h13; exact gw13 nl nl2 n n2 cap cap2 c1 c2 hk
  by_cases h14 : k = 14
  · subst h14; exact gw14 nl nl2 n n2 cap cap2 c1 c2 hk
  by_cases h15 : k = 15
  · subst h15; exact gw15 nl nl2 n n2 cap cap2 c1 c2 hk
  by_cases h16 : k = 16
  · subst h16; exact gw16 nl nl2 n n2 cap cap2 c1 c2 hk
  by_cases h17 : k = 17
  · subst h17; exact gw17 nl nl2 n n2 cap cap2 c1 c2 hk
  by_cases h18 : k = 18
  · subst h18; exact gw18 nl nl2 n n2 cap cap2 c1 c2 hk
  by_cases h19 : k = 19
  · subst h19; exact gw19 nl nl2 n n2 cap cap2 c1 c2 hk
  by_cases h20 : k = 20
  · subst h20; exact gw20 nl nl2 n n2 cap cap2 c1 c2 hk
  by_cases h21 : k = 21
  · subst h21; exact gw21 nl nl2 n n2 cap cap2 c1 c2 hk
  by_cases h22 : k = 22
  · subst h22; exact gw22 nl nl2 n n2 cap cap2 c1 c2 hk
  by_cases h23 : k = 23
  · subst h23; exact gw23 nl nl2 n n2 cap cap2 c1 c2 hk
  by_cases h24 : k = 24
  · subst h24; exact gw24 nl nl2 n n2 cap cap2 c1 c2 hk
  by_cases h25 : k = 25
  · subst h25; exact gw25 nl nl2 n n2 cap cap2 c1 c2 hk
  by_cases h26 : k = 26
  · subst h26; exact gw26 nl nl2 n n2 cap cap2 c1 c2 hk
  by_cases h27 : k = 27
  · subst h27; exact gw27 nl nl2 n n2 cap cap2 c1 c2 hk
  by_cases h28 : k = 28
  · subst h28; exact gw28 nl nl2 n n2 cap cap2 c1 c2 hk
  by_cases h29 : k = 29
  · subst h29; exact gw29 nl nl2 n n2 cap cap2 c1 c2 hk
  by_cases h30 : k = 30
  · subst h30; exact gw30 nl nl2 n n2 cap cap2 c1 c2 hk
  by_cases h31 : k = 31
  · subst h31; exact gw31 nl nl2 n n2 cap cap2 c1 c2 hk
  by_cases h32 : k = 32
  · subst h32; exact gw32 nl nl2 n n2 cap cap2 c1 c2 hk
  by_cases h33 : k = 33
  · subst h33; exact gw33 nl nl2 n n2 cap cap2 c1 c2 hk
  by_cases h34 : k = 34
  · subst h34; exact gw34 nl nl2 n n2 cap cap2 c1 c2 hk
  by_cases h35 : k = 35
  · subst h35; exact gw35 nl nl2 n n2 cap cap2 c1 c2 hk
  by_cases h36 : k = 36
  · subst h36; exact gw36 nl nl2 n n2 cap cap2 c1 c2 hk
  by_cases h37 : k = 37
  · subst h37; exact gw37 nl nl2 n n2 cap cap2 c1 c2 hk
  by_cases h38 : k = 38
  · subst h38; exact gw38 nl nl2 n n2 cap cap2 c1 c2 hk
  by_cases h39 : k = 39
  · subst h39; exact gw39 nl nl2 n n2 cap cap2 c1 c2 hk
  by_cases h40 : k = 40
  · subst h40; exact gw40 nl nl2 n n2 cap cap2 c1 c2 hk
  by_cases h41 : k = 41
  · subst h41; exact gw41 nl nl2 n n2 cap cap2 c1 c2 hk
  by_cases h42 : k = 42
  · subst h42; exact gw42 nl nl2 n n2 cap cap2 c1 c2 hk
  by_cases h43 : k = 43
  · subst h43; exact gw43 nl nl2 n n2 cap cap2 c1 c2 hk
  by_cases h44 : k = 44
  · subst h44; exact gw44 nl nl2 n n2 cap cap2 c1 c2 hk
  by_cases h45 : k = 45
  · subst h45; exact gw45 nl nl2 n n2 cap cap2 c1 c2 hk
  by_cases h46 : k = 46
  · subst h46; exact gw46 nl nl2 n n2 cap cap2 c1 c2 hk
  by_cases h47 : k = 47
  · subst h47; exact gw47 nl nl2 n n2 cap cap2 c1 c2 hk
  by_cases h48 : k = 48
  · subst h48; exact gw48 nl nl2 n n2 cap cap2 c1 c2 hk
  by_cases h49 : k = 49
  · subst h49; exact gw49 nl nl2 n n2 cap cap2 c1 c2 hk
  exact absurd hlt (by omega)
end Go.Proofs.TabC
