/- An evaluator of the code of the model, and lemmas of its proof of soundness: what it tells of a call, the call does; no condition but those that each lemma names. -/
import Derived.Test.YtiokhipgpfeoeaaEng8e
set_option linter.all false
set_option linter.deprecated false
set_option autoImplicit false
namespace Go.Eng
open Go Go.RowKit

/-! ## Forcing changes nothing -/
theorem forceI_eq {R : Type} (a : IntKind) (n : Int) (k : AV → R) : forceI a n k = k (.i a n) := by
  cases n with
  | ofNat n => show forceN n (fun m => k (.i a (.ofNat m))) = _; rw [forceN_eq]
  | negSucc n => show forceN n (fun m => k (.i a (.negSucc m))) = _; rw [forceN_eq]
theorem forceA0_eq {R : Type} (x : AV) (k : AV → R) : forceA0 x k = k x := by
  cases x with
  | i a n => exact forceI_eq a n k
  | b b => cases b <;> rfl
  | ptr a b c => show forceN a (fun a => forceN b fun b => forceN c fun c => k (.ptr a b c)) = _; simp only [forceN_eq]
  | sl a b c d => show forceN a (fun a => forceN b fun b => forceN c fun c => k (.sl a b c d)) = _; simp only [forceN_eq]
  | mp a => show forceN a (fun a => k (.mp a)) = _; rw [forceN_eq]
  | _ => rfl
theorem forceL0_eq {R : Type} (l : List AV) (k : List AV → R) : forceL0 l k = k l := by
  induction l generalizing k with
  | nil => rfl
  | cons x l ih => show forceA0 x (fun x => forceL0 l fun l => k (x :: l)) = _; rw [forceA0_eq, ih]
theorem forceA_eq {R : Type} (x : AV) (k : AV → R) : forceA x k = k x := by
  cases x with
  | fn f l => exact forceL0_eq l (fun l => k (.fn f l))
  | agg l => exact forceL0_eq l (fun l => k (.agg l))
  | tup l => exact forceL0_eq l (fun l => k (.tup l))
  | ifc t x => exact forceA0_eq x (fun x => k (.ifc t x))
  | i a n => exact forceA0_eq (.i a n) k
  | b b => exact forceA0_eq (.b b) k
  | ptr a b c => exact forceA0_eq (.ptr a b c) k
  | sl a b c d => exact forceA0_eq (.sl a b c d) k
  | mp a => exact forceA0_eq (.mp a) k
  | _ => rfl
theorem forceL_eq {R : Type} (l : List AV) (k : List AV → R) : forceL l k = k l := by
  induction l generalizing k with
  | nil => rfl
  | cons x l ih => show forceA x (fun x => forceL l fun l => k (x :: l)) = _; rw [forceA_eq, ih]
theorem forceNs_eq {R : Type} (l : List Nat) (k : List Nat → R) : forceNs l k = k l := by
  induction l generalizing k with
  | nil => rfl
  | cons x l ih => show forceN x (fun x => forceNs l fun l => k (x :: l)) = _; rw [forceN_eq, ih]
theorem forceO_eq {R : Type} (o : AObj) (k : AObj → R) : forceO o k = k o := by
  cases o with
  | own e rs l => exact forceL_eq l (fun l => k (.own e rs l))
  | _ => rfl
theorem forceOs_eq {R : Type} (f : Nat → AObj) (l : List Nat) (k : List AObj → R) : forceOs f l k = k (l.map f) := by
  induction l generalizing k with
  | nil => rfl
  | cons x l ih => show forceO (f x) (fun x => forceOs f l fun l => k (x :: l)) = _; rw [forceO_eq, ih]; rfl
theorem mapL_eq {α β : Type} (f : α → β) (l : List α) : mapL f l = l.map f := by
  induction l with
  | nil => rfl
  | cons x l ih => show f x :: mapL f l = _; rw [ih]; rfl
theorem keepF_eq {R : Type} (keep : List Nat) (st : Tmps) (k : Tmps → R) : keepF keep st k = k (keepOnly keep st) := by
  induction keep generalizing k with
  | nil => rfl
  | cons t l ih =>
    show forceA (st t) (fun v => keepF l st fun acc => k (putA (some t) acc v)) = _
    rw [forceA_eq, ih]; rfl
theorem keepOnly_rel {φ : Phi} (keep : List Nat) {st : Tmps} {tmps : Array Value} (h : TmpsRel φ st tmps) : TmpsRel φ (keepOnly keep st) tmps := by
  induction keep with
  | nil => intro t; exact .top _
  | cons t l ih =>
    intro j
    show AVRel φ (putA (some t) (keepOnly l st) (st t) j) _
    rw [putA_eq]
    simp only
    split
    · rename_i e; subst e; exact h j
    · exact ih j

/-! ## New numbers -/
/-- New numbers for what has a place. -/
def RenOk (φ φ' : Phi) (ρ : Rho) : Prop := ∀ id j, ρ id = some j → φ' j = φ id
theorem ren0_rel {φ φ' : Phi} {ρ : Rho} (hρ : RenOk φ φ' ρ) {x : AV} {v : Value} (h : AVRel φ x v) : AVRel φ' (ren0 ρ x) v := by
  cases h with
  | i k n => exact .i _ _
  | b x => exact .b _
  | s x => exact .s _
  | v x => exact .v _
  | ptr id r c p hp hps =>
    show AVRel φ' (onId (ρ id) fun j => .ptr j r c) _
    cases e : ρ id with
    | none => exact .top _
    | some j => exact .ptr j r c p ((hρ id j e).trans hp) hps
  | sl id r n cap x cc hp h0 hc hle hk hss =>
    show AVRel φ' (onId (ρ id) fun j => .sl j r n cap) _
    cases e : ρ id with
    | none => exact .top _
    | some j => exact .sl j r n cap x cc ((hρ id j e).trans hp) h0 hc hle hk hss
  | e A cc => exact .e _ _
  | mp id p hp =>
    show AVRel φ' (onId (ρ id) .mp) _
    cases e : ρ id with
    | none => exact .top _
    | some j => exact .mp j p ((hρ id j e).trans hp)
  | fn f l a h =>
    cases l with
    | nil =>
      refine .fn f [] a ?_
      generalize a.toList = m at h ⊢
      cases h; exact .nil
    | cons x l => exact .top _
  | _ => exact .top _
theorem ren0s_rel {φ φ' : Phi} {ρ : Rho} (hρ : RenOk φ φ' ρ) {l : List AV} {m : List Value} (h : AVsRel φ l m) : AVsRel φ' (mapL (ren0 ρ) l) m := by
  induction l generalizing m with
  | nil => cases h; exact .nil
  | cons x l ih => cases h with | cons h t => exact .cons (ren0_rel hρ h) (ih t)
theorem ren1_rel {φ φ' : Phi} {ρ : Rho} (hρ : RenOk φ φ' ρ) {x : AV} {v : Value} (h : AVRel φ x v) : AVRel φ' (ren1 ρ x) v := by
  cases h with
  | fn f l a h => exact .fn f _ a (ren0s_rel hρ h)
  | ifc t x y h => exact .ifc t _ y (ren0_rel hρ h)
  | agg l a h => exact .agg _ a (ren0s_rel hρ h)
  | tup l a h => exact .tup _ a (ren0s_rel hρ h)
  | i k n => exact ren0_rel hρ (.i k n)
  | b x => exact ren0_rel hρ (.b x)
  | s x => exact ren0_rel hρ (.s x)
  | v x => exact ren0_rel hρ (.v _)
  | ptr id r c p hp hps => exact ren0_rel hρ (.ptr id r c p hp hps)
  | sl id r n cap x cc hp h0 hc hle hk hss => exact ren0_rel hρ (.sl id r n cap x cc hp h0 hc hle hk hss)
  | e A cc => exact .e _ _
  | mp id p hp => exact ren0_rel hρ (.mp id p hp)
  | top => exact .top _
theorem ren1s_rel {φ φ' : Phi} {ρ : Rho} (hρ : RenOk φ φ' ρ) {l : List AV} {m : List Value} (h : AVsRel φ l m) : AVsRel φ' (mapL (ren1 ρ) l) m := by
  induction l generalizing m with
  | nil => cases h; exact .nil
  | cons x l ih => cases h with | cons h t => exact .cons (ren1_rel hρ h) (ih t)

theorem mapRel {φ φ' : Phi} {f : AV → AV} (hf : ∀ x v, AVRel φ x v → AVRel φ' (f x) v) {l : List AV} {m : List Value} (h : AVsRel φ l m) : AVsRel φ' (mapL f l) m := by
  induction l generalizing m with
  | nil => cases h; exact .nil
  | cons x l ih => cases h with | cons h t => exact .cons (hf _ _ h) (ih t)
theorem isOwn_renO (ρ : Rho) (o : AObj) : isOwn (renO ρ o) = isOwn o := by cases o <;> rfl
theorem ObjRel.ren {N : Nat} {φ φ' : Phi} {ρ : Rho} (hρ : RenOk φ φ' ρ) {w : World} {id j : Nat} (hj : φ' j = φ id) {o : AObj} (h : ObjRel N φ w id o) : ObjRel N φ' w j (renO ρ o) := by
  cases o with
  | dead => trivial
  | ro nil n cols =>
    obtain ⟨h1, x, h2, h3⟩ := h
    exact ⟨h1, x, hj.trans h2, h3⟩
  | vec e n cols =>
    obtain ⟨h1, p, h2, h3⟩ := h
    exact ⟨h1, p, hj.trans h2, h3⟩
  | own e rs cells =>
    obtain ⟨p, h1, h2, h3, h4, h5, h6⟩ := h
    refine ⟨p, hj.trans h1, h2, h3, h4, by rw [mapL_eq, List.length_map]; exact h5, fun i a ha => ?_⟩
    rw [mapL_eq, List.getElem?_map, Option.map_eq_some_iff] at ha
    obtain ⟨b, hb, rfl⟩ := ha
    obtain ⟨z, hz, hr⟩ := h6 i b hb
    exact ⟨z, hz, ren1_rel hρ hr⟩

theorem memN_eq (x : Nat) (l : List Nat) : memN x l = true ↔ x ∈ l := by
  induction l with
  | nil => simp [memN]
  | cons y l ih =>
    show bif2 (Nat.beq y x) true (memN x l) = true ↔ _
    rw [bif2_eq]
    split
    · rename_i h; have := Nat.eq_of_beq_eq_true h; subst this; simp
    · rename_i h
      have hne : y ≠ x := fun e => h (by subst e; exact Nat.beq_refl y)
      rw [ih]; simp [Ne.symm hne]
theorem liveOk_ok {base : Nat} (l : List Nat) (h : liveOk base l = true) : (∀ x ∈ l, base ≤ x) ∧ l.Nodup := by
  induction l with
  | nil => simp
  | cons y l ih =>
    have h : bif2 (Nat.ble base y) (bif2 (memN y l) false (liveOk base l)) false = true := h
    rw [bif2_eq] at h
    split at h
    · rename_i hb
      rw [bif2_eq] at h
      split at h
      · cases h
      · rename_i hm
        obtain ⟨h1, h2⟩ := ih h
        refine ⟨fun x hx => ?_, List.nodup_cons.2 ⟨fun hm' => hm ((memN_eq y l).2 hm'), h2⟩⟩
        rcases List.mem_cons.1 hx with rfl | hx
        · exact Nat.le_of_ble_eq_true hb
        · exact h1 x hx
    · cases h
theorem idxOf_ok (l : List Nat) : ∀ {id b j : Nat}, idxOf l id b = some j → b ≤ j ∧ l[j - b]? = some id := by
  induction l with
  | nil => intro id b j h; exact absurd (show (none : Option Nat) = some j from h) (by simp)
  | cons x l ih =>
    intro id b j h
    have h' : bif2 (Nat.beq x id) (some b) (idxOf l id (b + 1)) = some j := h
    clear h
    rw [bif2_eq] at h'
    split at h'
    · rename_i hx
      have := Nat.eq_of_beq_eq_true hx
      subst this
      cases h'
      simp
    · obtain ⟨h1, h2⟩ := ih h'
      refine ⟨by omega, ?_⟩
      rw [show j - b = (j - (b + 1)) + 1 by omega]
      simpa using h2

/-- The old number of a new one. -/
def invOf (base : Nat) (live : List Nat) (j : Nat) : Option Nat := if j < base then some j else live[j - base]?
theorem invOf_inj {base : Nat} {live : List Nat} (h1 : ∀ x ∈ live, base ≤ x) (h2 : live.Nodup) {j j' id : Nat} (h : invOf base live j = some id) (h' : invOf base live j' = some id) : j = j' := by
  unfold invOf at h h'
  split at h <;> split at h'
  · cases h; cases h'; rfl
  · cases h; have := h1 _ (List.mem_of_getElem? h'); omega
  · cases h'; have := h1 _ (List.mem_of_getElem? h); omega
  · have := (List.getElem?_inj (List.getElem?_eq_some_iff.1 h).1 h2).1 (h.trans h'.symm)
    omega
theorem rhoOf_ok {base : Nat} {live : List Nat} {id j : Nat} (h : rhoOf base live id = some j) : invOf base live j = some id := by
  have h' : bif2 (Nat.blt id base) (some id) (idxOf live id base) = some j := h
  clear h
  rw [bif2_eq] at h'
  unfold invOf
  split at h'
  · rename_i hb
    cases h'
    have hb : id < base := Nat.le_of_ble_eq_true hb
    rw [if_pos hb]
  · obtain ⟨h1, h2⟩ := idxOf_ok live h'
    rw [if_neg (by omega)]; exact h2

theorem laid_get (base lock : Nat) (M : Mem) (ρ : Rho) (live : List Nat) (j : Nat) :
    (laid base lock (fun j => renO ρ (M.get j)) (live.map fun id => renO ρ (M.get id))).get j = match invOf base live j with | some id => renO ρ (M.get id) | none => .dead := by
  show bif2 (Nat.blt j base) (renO ρ (M.get j)) (nthO (live.map fun id => renO ρ (M.get id)) (j - base)) = _
  rw [bif2_eq]
  unfold invOf
  by_cases hb : j < base
  · have e : Nat.blt j base = true := Nat.ble_eq_true_of_le hb
    rw [if_pos e, if_pos hb]
  · have e : ¬ Nat.blt j base = true := fun h => hb (Nat.le_of_ble_eq_true h)
    rw [if_neg e, if_neg hb]
    unfold nthO
    rw [nth?_eq, List.getElem?_map]
    cases live[j - base]? <;> rfl

theorem compactU_eq {β : Type} (base : Nat) (vals : List AV) (M : Mem) (k : (AV → AV) → Mem → T β) : compactU base vals M k = compact base vals M k := by
  unfold compactU compact
  rw [forceNs_eq]
  simp only [forceOs_eq, mapL_eq]
theorem compact_ok {β : Type} {N : Nat} {φ0 φ : Phi} {M0 M : Mem} {w0 w : World} (hr0 : Rep N φ0 M0 w0) (hr : Rep N φ M w) (he : Ext φ0 M0 w0 φ M w) {base : Nat} (hb : base = M0.next) {vals : List AV} {k : (AV → AV) → Mem → T β} {Q : β → Prop} {Qp : AV → Mem → Prop}
    (h : (compact base vals M k).holds Q Qp) : ∃ f φ' M', (k f M').holds Q Qp ∧ (∀ x v, AVRel φ x v → AVRel φ' (f x) v) ∧ Rep N φ' M' w ∧ Ext φ0 M0 w0 φ' M' w := by
  unfold compact at h
  rw [bif2_eq] at h
  split at h
  · exact ⟨_, φ, M, h, fun _ _ h => h, hr, he⟩
  rw [forceNs_eq] at h
  generalize newOnly base (walk M 200 (catL ids1 vals) []) = live at h
  obtain ⟨hok, h⟩ := br_ok h
  rw [forceOs_eq] at h
  rw [bif2_eq] at hok
  split at hok
  case isFalse => cases hok
  rename_i hlock
  have hlock : M.lock ≤ base := Nat.le_of_ble_eq_true hlock
  obtain ⟨hge, hnd⟩ := liveOk_ok live hok
  let φ' : Phi := fun j => (invOf base live j).bind φ
  have hφ : ∀ {j id}, invOf base live j = some id → φ' j = φ id := fun {j id} e => by simp [φ', e]
  have hφs : ∀ {j x}, φ' j = some x → ∃ id, invOf base live j = some id ∧ φ id = some x := by
    intro j x e
    simp only [φ', Option.bind_eq_some_iff] at e
    exact e
  have hren : RenOk φ φ' (rhoOf base live) := fun id j e => hφ (rhoOf_ok e)
  have hown : ∀ j x, isOwn ((laid base M.lock (fun j => renO (rhoOf base live) (M.get j)) (live.map fun id => renO (rhoOf base live) (M.get id))).get j) → φ' j = some x → ∃ id, invOf base live j = some id ∧ φ id = some x ∧ isOwn (M.get id) := by
    intro j x h1 h2
    obtain ⟨id, h3, h4⟩ := hφs h2
    rw [laid_get, h3] at h1
    simp only [isOwn_renO] at h1
    exact ⟨id, h3, h4, h1⟩
  have hlt : ∀ {j}, j < base → invOf base live j = some j := fun {j} e => if_pos e
  refine ⟨_, φ', _, h, fun x v => ren1_rel hren, ⟨fun j => ?_, fun j j' p p' h1 h2 h3 h4 e => ?_, fun j p h1 h2 => ?_, fun j hj => ?_, hr.size⟩,
    ⟨fun id x e => ?_, fun id hid => ?_, by rw [← hb]; exact Nat.le_add_right .., he.lock, he.os, he.tape, he.output, he.size, he.keep, fun j p h1 h2 h3 => ?_⟩⟩
  · rw [laid_get]
    cases e : invOf base live j with
    | none => trivial
    | some id => exact (hr.objs id).ren hren (hφ e)
  · obtain ⟨a, a1, a2, a3⟩ := hown j _ h1 h3
    obtain ⟨b, b1, b2, b3⟩ := hown j' _ h2 h4
    have := hr.sep a b p p' a3 b3 a2 b2 e
    subst this
    exact invOf_inj hge hnd a1 b1
  · obtain ⟨a, a1, a2, a3⟩ := hown j _ h1 h2
    exact hr.high a p a3 a2
  · have hj : base + live.length ≤ j := by simpa [laid] using hj
    have hnone : invOf base live j = none := by
      unfold invOf
      rw [if_neg (by omega)]
      exact List.getElem?_eq_none (by omega)
    rw [laid_get, hnone]
    exact ⟨rfl, by simp [φ', hnone]⟩
  · have hid : id < base := by
      rw [hb]
      rcases Nat.lt_or_ge id M0.next with h | h
      · exact h
      · rw [(hr0.fresh id h).2] at e; cases e
    rw [hφ (hlt hid)]
    exact he.phi id x e
  · rw [hφ (hlt (by rw [hb]; exact hid))]
    exact he.phi0 id hid
  · obtain ⟨a, a1, a2, a3⟩ := hown j _ h1 h2
    obtain ⟨id', p', k1, k2, k3, k4⟩ := he.old a p a3 a2 h3
    refine ⟨id', p', k1, k2, k3, fun hl => k4 ?_⟩
    unfold invOf at a1
    split at a1
    · cases a1; exact hl
    · have := hge a (List.mem_of_getElem? a1)
      rw [← he.lock]; omega
theorem iota_eq (n : Nat) : iota n = List.range n := by
  induction n with
  | zero => rfl
  | succ n ih => rw [List.range_succ, ← ih]; rfl
theorem cst_eq (l : List Nat) (st : Tmps) : cst l (mapL st l) = keepOnly l st := by
  induction l with
  | nil => rfl
  | cons t l ih => show putA (some t) (cst l (mapL st l)) (st t) = putA (some t) (keepOnly l st) (st t); rw [ih]
theorem seal_eq {N : Nat} {φ : Phi} {M : Mem} {w : World} (h : Rep N φ M w) : sealM M = M := by
  obtain ⟨next, lock, get⟩ := M
  unfold sealM memL
  simp only [mapL_eq, iota_eq, List.length_map, List.length_range]
  congr 1
  funext id
  show nthO ((List.range next).map get) id = get id
  unfold nthO
  rw [nth?_eq]
  rcases Nat.lt_or_ge id next with h1 | h1
  · rw [List.getElem?_map, List.getElem?_range h1]; rfl
  · rw [List.getElem?_eq_none (by simpa using h1)]
    exact ((h.fresh id h1).1).symm
/-- What a head is told. -/
noncomputable def sealIf (z : Bool) (M : Mem) : Mem := bif2 z M (sealM M)
theorem sealIf_eq {N : Nat} {φ : Phi} {M : Mem} {w : World} (h : Rep N φ M w) (z : Bool) : sealIf z M = M := by
  cases z with
  | true => rfl
  | false => exact seal_eq h
theorem headF_eq (base : Nat) (roots : List AV) (keep : Keep) (st : Tmps) (M : Mem) (k : Tmps → Mem → T (X × Tmps × Mem)) :
    headF base roots keep st M k = compact base (roots ++ mapL (keepOnly keep.l st) keep.l) M fun f M => k (keepOnly keep.l fun t => f (keepOnly keep.l st t)) (sealIf keep.z M) := by
  unfold headF
  rw [keepF_eq, compactU_eq]
  simp only [keepF_eq, cst_eq]
  cases keep.z <;> rfl
theorem shutF_eq (z : Bool) (base : Nat) (roots : List AV) (y : List AV × Mem) : shutF z base roots y = compact base (roots ++ y.1) y.2 fun f M => .ret (single (mapL f y.1, M)) := by
  unfold shutF
  rw [compactU_eq]
  simp only [forceL_eq]
  cases z <;> rfl
end Go.Eng
