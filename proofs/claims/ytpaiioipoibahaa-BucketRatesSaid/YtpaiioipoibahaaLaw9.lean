/- The law's loop, round by round, and the arithmetic that it asks for, for all inputs of the law. -/
import Derived.Test.YtpaiioipoibahaaArgB
import Derived.Test.YtpaiioipoibahaaLaw8
set_option linter.all false
set_option linter.deprecated false
set_option maxRecDepth 1000000
set_option maxHeartbeats 4000000
namespace Go.Proofs.TabA
open Go Go.Eng
section
variable {l c f e d : Int} {nl : Bool} {n cap : Nat} {x0 x1 x2 x3 : List Int} {F E X : Int}
abbrev st9 (l c f e d : Int) (nl : Bool) (n cap : Nat) (x0 x1 x2 x3 : List Int) (F E X G t L D : Int) : St3 := ([iv F, iv E, iv X, .ptr 2 0 0, iv G, iv t], 1, [.ro nl n [.ci .i64 x0, .ci .i64 x1, .ci .i64 x2, .ci .i64 x3], .own 51 6 [iv l, iv c, iv f, iv e, iv d, .sl 0 0 n (some cap)], .own 48 5 [iv L, iv X, iv F, iv E, iv D]])
abbrev mn (F X : Int) : Int := if X < F then X else F
structure P9 (F E X t q r L G : Int) : Prop where
  hF : 1 ≤ F ∧ F ≤ 9
  hE : 1 ≤ E ∧ E ≤ 9
  hX : 9 ≤ X ∧ X ≤ 17
  hr : 0 ≤ r ∧ r < E
  hq : 0 ≤ q
  ht : t = E * q + r
  hL : 0 ≤ L ∧ L ≤ X
  hG : 0 ≤ G
  sum : L + G = X + mn F X * q
theorem P9.mn_pos {F E X t q r L G : Int} (h : P9 F E X t q r L G) : 1 ≤ mn F X ∧ mn F X ≤ 9 := by
  have := h.hF; have := h.hX
  unfold mn; split <;> omega
theorem P9.q_le {F E X t q r L G : Int} (h : P9 F E X t q r L G) (ht : t ≤ 20 * E) : q ≤ 20 := by
  have := h.ht; have := h.hr; have := h.hE
  exact Int.le_of_mul_le_mul_left (a := E) (by omega) (by omega)
theorem P9.G_le {F E X t q r L G : Int} (h : P9 F E X t q r L G) (ht : t ≤ 20 * E) : G ≤ 200 := by
  have h1 := h.q_le ht
  have h2 := h.mn_pos
  have h3 : mn F X * q ≤ 9 * 20 := Int.mul_le_mul h2.2 h1 h.hq (by omega)
  have := h.sum; have := h.hL; have := h.hX
  omega
theorem P9.t_nonneg {F E X t q r L G : Int} (h : P9 F E X t q r L G) : 0 ≤ t := by
  have := Int.mul_nonneg (show 0 ≤ E by have := h.hE; omega) h.hq
  have := h.ht; have := h.hr
  omega
def Inv9 (l c f e d : Int) (nl : Bool) (n cap : Nat) (x0 x1 x2 x3 : List Int) (F E X : Int) (m : Nat) (s : St3) : Prop := ∃ t q r L G : Int, P9 F E X t q r L G ∧ t ≤ 20 * E ∧ (0 < t → r = 0 → L = mn F X) ∧ m = (20 * E - t).toNat ∧ s = st9 l c f e d nl n cap x0 x1 x2 x3 F E X G t L r
def Inn9 (l c f e d : Int) (nl : Bool) (n cap : Nat) (x0 x1 x2 x3 : List Int) (F E X : Int) (m m2 : Nat) (s : St3) : Prop := ∃ t q r L G : Int, P9 F E X t q r L G ∧ t < 20 * E ∧ m = (20 * E - t).toNat ∧ m2 = L.toNat ∧ s = st9 l c f e d nl n cap x0 x1 x2 x3 F E X G t L r
theorem in9 {m : Nat} {t q r L G : Int} (hi : P9 F E X t q r L G ∧ t ≤ 20 * E ∧ (0 < t → r = 0 → L = mn F X) ∧ m = (20 * E - t).toNat) (h : t < 20 * E) {I : St3 → Prop} :
    OkO I (fun _ => False) (fun t => t.1 = [0,0,0,0,1] ∧ t.2.1 = 3 ∧ ∃ m2, m2 < 1048576 ∧ Inn9 l c f e d nl n cap x0 x1 x2 x3 F E X m m2 t.2.2) (.inr ([0,0,0,0,1], 3, st9 l c f e d nl n cap x0 x1 x2 x3 F E X G t L r)) := by
  obtain ⟨h1, h2, h3, h4⟩ := hi
  have := h1.hL; have := h1.hX
  have hlt : L.toNat < 1048576 := by omega
  exact ⟨rfl, rfl, _, hlt, t, q, r, L, G, h1, h, h4, rfl, rfl⟩
theorem end9 {m : Nat} {t q r L G : Int} (hi : P9 F E X t q r L G ∧ t ≤ 20 * E ∧ (0 < t → r = 0 → L = mn F X) ∧ m = (20 * E - t).toNat) (h : ¬ t < 20 * E) (hne : G ≠ wr .i64 (X + wr .i64 (19 * mn F X))) : False := by
  obtain ⟨h1, h2, h3, h4⟩ := hi
  have hm := h1.mn_pos
  have hq := h1.q_le h2
  have := h1.ht; have := h1.hr; have := h1.hE; have := h1.hX; have hs := h1.sum
  have hq20 : q = 20 := by
    rcases (by omega : q < 20 ∨ 20 ≤ q) with h5 | h5
    · have := Int.mul_le_mul_of_nonneg_left (show q ≤ 19 by omega) (show 0 ≤ E by omega)
      omega
    · omega
  subst hq20
  have hL := h3 (by omega) (by omega)
  rw [wr64 (n := 19 * mn F X) (by omega) (by omega), wr64 (by omega) (by omega)] at hne
  omega
theorem out9 {m m2 : Nat} {t q r L G : Int} (hi : P9 F E X t q r L G ∧ t < 20 * E ∧ m = (20 * E - t).toNat ∧ m2 = L.toNat) (h : L < 1) {I2 : St3 → Prop} {G' G2 : Stop → Prop} :
    OkI I2 (fun s' => ∃ m', m' < m ∧ Inv9 l c f e d nl n cap x0 x1 x2 x3 F E X m' s') G' G2 (.inr (.inl (.inl ([iv F, iv E, iv X, .ptr 2 0 0, iv G, iv (wr .i64 (t + 1))], 1, [.ro nl n [.ci .i64 x0, .ci .i64 x1, .ci .i64 x2, .ci .i64 x3], .own 51 6 [iv l, iv c, iv f, iv e, iv d, .sl 0 0 n (some cap)], .own 48 5 [iv (goL L X F E r 1), iv X, iv F, iv E, iv (goD E r 1)]])))) := by
  obtain ⟨h1, h2, h4, h5⟩ := hi
  have hm := h1.mn_pos
  have ht0 := h1.t_nonneg
  have h6 := h1.hF; have h7 := h1.hE; have h8 := h1.hX; have h9 := h1.hr; have h10 := h1.ht; have h11 := h1.hL; have h12 := h1.hG; have h13 := h1.sum
  have hL0 : L = 0 := by omega
  subst hL0
  have hlt : (20 * E - (t + 1)).toNat < m := by omega
  refine ⟨_, hlt, ?_⟩
  rw [wr64 (by omega) (by omega)]
  rcases (by omega : r + 1 < E ∨ E ≤ r + 1) with hr | hr
  · have e1 : goL 0 X F E r 1 = 0 := by
      unfold goL
      rw [Int.ediv_eq_zero_of_lt (by omega) hr, Int.mul_zero, Int.add_zero, if_pos (by omega)]
    have e2 : goD E r 1 = r + 1 := Int.emod_eq_of_lt (by omega) hr
    rw [e1, e2]
    exact ⟨t + 1, q, r + 1, 0, G, ⟨h6, h7, h8, ⟨by omega, by omega⟩, h1.hq, by omega, ⟨by omega, by omega⟩, h12, h13⟩, by omega, fun _ h => by omega, rfl, rfl⟩
  · have hrE : r + 1 = E := by omega
    have e0 : (r + 1) / E = 1 := by rw [hrE]; exact Int.ediv_self (by omega)
    have e1 : goL 0 X F E r 1 = mn F X := by
      unfold goL mn
      rw [e0, Int.mul_one, Int.zero_add]
      split <;> split <;> omega
    have e2 : goD E r 1 = 0 := by unfold goD; rw [hrE]; exact Int.emod_self
    rw [e1, e2]
    have e3 : E * (q + 1) = E * q + E := by rw [Int.mul_add, Int.mul_one]
    have e4 : mn F X * (q + 1) = mn F X * q + mn F X := by rw [Int.mul_add, Int.mul_one]
    refine ⟨t + 1, q + 1, 0, mn F X, G, ⟨h6, h7, h8, ⟨by omega, by omega⟩, by have := h1.hq; omega, by omega, ⟨by omega, by omega⟩, h12, by rw [e4]; omega⟩, by omega, fun _ _ => rfl, rfl, rfl⟩
theorem ag9 {m m2 : Nat} {t q r L G : Int} (hi : P9 F E X t q r L G ∧ t < 20 * E ∧ m = (20 * E - t).toNat ∧ m2 = L.toNat) (h : ¬ L < 1) {I : St3 → Prop} {G' G2 : Stop → Prop} :
    OkI (fun s' => ∃ m', m' < m2 ∧ Inn9 l c f e d nl n cap x0 x1 x2 x3 F E X m m' s') I G' G2 (.inl ([iv F, iv E, iv X, .ptr 2 0 0, iv (wr .i64 (G + 1)), iv t], 1, [.ro nl n [.ci .i64 x0, .ci .i64 x1, .ci .i64 x2, .ci .i64 x3], .own 51 6 [iv l, iv c, iv f, iv e, iv d, .sl 0 0 n (some cap)], .own 48 5 [iv (L - 1), iv X, iv F, iv E, iv r]])) := by
  obtain ⟨h1, h2, h4, h5⟩ := hi
  have h6 := h1.G_le (by omega)
  have h11 := h1.hL; have h12 := h1.hG; have h13 := h1.sum
  have hlt : (L - 1).toNat < m2 := by omega
  refine ⟨_, hlt, t, q, r, L - 1, G + 1, ⟨h1.hF, h1.hE, h1.hX, h1.hr, h1.hq, h1.ht, ⟨by omega, by omega⟩, by omega, by omega⟩, h2, h4, rfl, ?_⟩
  rw [wr64 (by omega) (by omega)]
theorem stepO9 (m : Nat) (s : St3) (hi : Inv9 l c f e d nl n cap x0 x1 x2 x3 F E X m s) :
    H (lawO S2 (fi9 false) 1 [1,1,1,1,1,0,1,0] 3 (ar8 l c f e d n cap) s) (OkY (OkS (fun s' => ∃ m', m' < m ∧ Inv9 l c f e d nl n cap x0 x1 x2 x3 F E X m' s') (OkT (fun _ => False))) (fun t => t.1 = [0,0,0,0,1] ∧ t.2.1 = 3 ∧ ∃ m2, m2 < 1048576 ∧ Inn9 l c f e d nl n cap x0 x1 x2 x3 F E X m m2 t.2.2)) (fun _ _ => False) := by
  obtain ⟨t, q, r, L, G, hp, ht', h3, hmi, rfl⟩ := hi
  have hi := And.intro hp (And.intro ht' (And.intro h3 hmi))
  have hF := hp.hF; have hE := hp.hE; have hX := hp.hX; have ht := hp.t_nonneg; have hL := hp.hL; have hD := hp.hr; have hG := hp.hG; have hG' := hp.G_le ht'
  refine lawO_Q ?_
  refine H.sd 2 (fun b => b) (t < wr IntKind.i64 (20 * E)) (by kernel_rfl) (fun h1 => ?_) (fun h1 => ?_)
  ·
   refine H.lf (f := ocO) 0 (Sum.inr ([0, 0, 0, 0, 1], 3, [AV.i IntKind.i64 F, AV.i IntKind.i64 E, AV.i IntKind.i64 X, AV.ptr 2 0 0, AV.i IntKind.i64 G, AV.i IntKind.i64 t], 1, [AObj.ro nl n [Col.ci IntKind.i64 x0, Col.ci IntKind.i64 x1, Col.ci IntKind.i64 x2, Col.ci IntKind.i64 x3], AObj.own 51 6 [AV.i IntKind.i64 l, AV.i IntKind.i64 c, AV.i IntKind.i64 f, AV.i IntKind.i64 e, AV.i IntKind.i64 d, AV.sl 0 0 n (some cap)], AObj.own 48 5 [AV.i IntKind.i64 L, AV.i IntKind.i64 X, AV.i IntKind.i64 F, AV.i IntKind.i64 E, AV.i IntKind.i64 r]])) (by kernel_rfl) ?_
   exact in9 hi (by rw [wr64 (by omega) (by omega)] at h1; exact h1)
  ·
   refine H.se 3 (fun b => (b == true)) (G) (wr IntKind.i64 (X + wr IntKind.i64 (19 * if X < F then X else F))) (by kernel_rfl) (fun h2 => ?_) (fun h2 => ?_)
   ·
    refine H.lf (f := ocO) 53 (Sum.inl (Sum.inr (Sum.inl (AV.b true)))) (by kernel_rfl) ?_
    exact rfl
   ·
    refine H.lf (f := ocO) 2 (Sum.inl (Sum.inr (Sum.inl (AV.b false)))) (by kernel_rfl) ?_
    exact (end9 hi (by rw [wr64 (by omega) (by omega)] at h1; exact h1) h2).elim
theorem stepI9 (m m2 : Nat) (s : St3) (hi : Inn9 l c f e d nl n cap x0 x1 x2 x3 F E X m m2 s) :
    H (lawI S2 (fi9 false) 1 [1,1,1,1,1,0,1,0] 3 [1,0,0,0,0] 3 (ar8 l c f e d n cap) s) (OkS (fun s' => ∃ m', m' < m2 ∧ Inn9 l c f e d nl n cap x0 x1 x2 x3 F E X m m' s') (OkY (OkS (fun s' => ∃ m', m' < m ∧ Inv9 l c f e d nl n cap x0 x1 x2 x3 F E X m' s') (OkT (fun _ => False))) (fun _ => False))) (fun _ _ => False) := by
  obtain ⟨t, q, r, L, G, hp, ht', hmi, hm2, rfl⟩ := hi
  have hi := And.intro hp (And.intro ht' (And.intro hmi hm2))
  have hF := hp.hF; have hE := hp.hE; have hX := hp.hX; have ht := hp.t_nonneg; have hL := hp.hL; have hD := hp.hr; have hG := hp.hG; have hG' := hp.G_le (Int.le_of_lt ht')
  refine lawI_Q ?_
  refine H.kd 0 (fun b => b) (0 ≤ X ∧ X ≤ 1048576 ∧ 0 ≤ F ∧ F ≤ 1048576 ∧ 0 ≤ L ∧ L ≤ X ∧ 1 ≤ E ∧ E ≤ 1048576 ∧ 0 ≤ r ∧ r ≤ E - 1) (by (first | assumption | omega | (simp; done))) (by kernel_rfl) ?_
  refine H.sd 1 (fun b => b) (L < 1) (by kernel_rfl) (fun h1 => ?_) (fun h1 => ?_)
  ·
   refine H.kd 15 (fun b => b) (0 ≤ X ∧ X ≤ 1048576 ∧ 0 ≤ F ∧ F ≤ 1048576 ∧ 0 ≤ L ∧ L ≤ X ∧ 1 ≤ E ∧ E ≤ 1048576 ∧ 0 ≤ r ∧ r ≤ E - 1) (by (first | assumption | omega | (simp; done))) (by kernel_rfl) ?_
   refine H.lf (f := ocI) 29 (Sum.inr (Sum.inl (Sum.inl ([AV.i IntKind.i64 F, AV.i IntKind.i64 E, AV.i IntKind.i64 X, AV.ptr 2 0 0, AV.i IntKind.i64 G, AV.i IntKind.i64 (wr IntKind.i64 (t + 1))], 1, [AObj.ro nl n [Col.ci IntKind.i64 x0, Col.ci IntKind.i64 x1, Col.ci IntKind.i64 x2, Col.ci IntKind.i64 x3], AObj.own 51 6 [AV.i IntKind.i64 l, AV.i IntKind.i64 c, AV.i IntKind.i64 f, AV.i IntKind.i64 e, AV.i IntKind.i64 d, AV.sl 0 0 n (some cap)], AObj.own 48 5 [AV.i IntKind.i64 (goL L X F E r 1), AV.i IntKind.i64 X, AV.i IntKind.i64 F, AV.i IntKind.i64 E, AV.i IntKind.i64 (goD E r 1)]])))) (by kernel_rfl) ?_
   exact out9 hi h1
  ·
   refine H.sd 28 (fun b => b) (wr IntKind.i64 (G + 1) > 10000) (by kernel_rfl) (fun h2 => ?_) (fun h2 => ?_)
   ·
    refine H.lf (f := ocI) 1 (Sum.inr (Sum.inl (Sum.inr (Sum.inl (AV.b false))))) (by kernel_rfl) ?_
    exact (by rw [wr64 (by omega) (by omega)] at h2; omega)
   ·
    refine H.lf (f := ocI) 1 (Sum.inl ([AV.i IntKind.i64 F, AV.i IntKind.i64 E, AV.i IntKind.i64 X, AV.ptr 2 0 0, AV.i IntKind.i64 (wr IntKind.i64 (G + 1)), AV.i IntKind.i64 t], 1, [AObj.ro nl n [Col.ci IntKind.i64 x0, Col.ci IntKind.i64 x1, Col.ci IntKind.i64 x2, Col.ci IntKind.i64 x3], AObj.own 51 6 [AV.i IntKind.i64 l, AV.i IntKind.i64 c, AV.i IntKind.i64 f, AV.i IntKind.i64 e, AV.i IntKind.i64 d, AV.sl 0 0 n (some cap)], AObj.own 48 5 [AV.i IntKind.i64 (L - 1), AV.i IntKind.i64 X, AV.i IntKind.i64 F, AV.i IntKind.i64 E, AV.i IntKind.i64 r]])) (by kernel_rfl) ?_
    exact ag9 hi h1
theorem law9 (M : Mem) (hM : M = memL 1 [.ro nl n [.ci .i64 x0, .ci .i64 x1, .ci .i64 x2, .ci .i64 x3]]) : H (ev S2 5 9 (ar8 l c f e d n cap) M) (fun x => x.1 = .b true) (fun _ _ => False) := by
  subst hM
  have hF : 1 ≤ wr .i64 (1 + wi f 9) ∧ wr .i64 (1 + wi f 9) ≤ 9 := by
    have h1 := wi_nonneg (n := f) (m := 9) (by omega)
    have h2 := wi_lt (n := f) (m := 9) (by omega)
    rw [wr64 (by omega) (by omega)]; omega
  have hE : 1 ≤ wr .i64 (1 + wi e 9) ∧ wr .i64 (1 + wi e 9) ≤ 9 := by
    have h1 := wi_nonneg (n := e) (m := 9) (by omega)
    have h2 := wi_lt (n := e) (m := 9) (by omega)
    rw [wr64 (by omega) (by omega)]; omega
  have hX : 9 ≤ wr .i64 (9 + wi c 9) ∧ wr .i64 (9 + wi c 9) ≤ 17 := by
    have h1 := wi_nonneg (n := c) (m := 9) (by omega)
    have h2 := wi_lt (n := c) (m := 9) (by omega)
    rw [wr64 (by omega) (by omega)]; omega
  have e0 : (lawE S2 (fi9 false) (ar8 l c f e d n cap) (memL 1 [.ro nl n [.ci .i64 x0, .ci .i64 x1, .ci .i64 x2, .ci .i64 x3]])).runV oc =
    bif2 (mayB (wr .i64 (9 + wi c 9)) (wr .i64 (9 + wi c 9)) (wr .i64 (1 + wi f 9)) (wr .i64 (1 + wi e 9)) 0) (some (.inr ([0, 1, 0, 1, 1, 1, 1, 1], 3, st9 l c f e d nl n cap x0 x1 x2 x3 (wr .i64 (1 + wi f 9)) (wr .i64 (1 + wi e 9)) (wr .i64 (9 + wi c 9)) 0 0 (wr .i64 (9 + wi c 9)) 0))) (some (.inl (.b false))) := by kernel_rfl
  refine law2 (fi := fi9 false) (by kernel_rfl) (by kernel_rfl) (by kernel_rfl) rfl [0, 1, 0, 1, 1, 1, 1, 1] 3 [0, 0, 0, 0, 1] 3 1 rfl (by kernel_rfl) (by kernel_rfl) (Inv9 l c f e d nl n cap x0 x1 x2 x3 (wr .i64 (1 + wi f 9)) (wr .i64 (1 + wi e 9)) (wr .i64 (9 + wi c 9))) (Inn9 l c f e d nl n cap x0 x1 x2 x3 (wr .i64 (1 + wi f 9)) (wr .i64 (1 + wi e 9)) (wr .i64 (9 + wi c 9))) ?_ stepO9 stepI9
  refine lawE_H e0 ?_
  rw [bif2_eq, if_pos (mayT.2 (by omega))]
  refine ⟨_, rfl, rfl, rfl, (20 * wr .i64 (1 + wi e 9)).toNat, by omega, 0, 0, 0, _, 0, ⟨hF, hE, hX, ⟨by omega, by omega⟩, by omega, by simp, ⟨by omega, by omega⟩, by omega, by simp⟩, by omega, fun h => by omega, by simp, rfl⟩
end
end Go.Proofs.TabA
