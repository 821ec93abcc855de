/- An evaluator of the code of the model, and lemmas of its proof of soundness: what it tells of a call, the call does; no condition but those that each lemma names. -/
import Derived.Test.YtiokhipgpfeoeaaEng8m
set_option linter.all false
set_option linter.deprecated false
set_option autoImplicit false
namespace Go.Eng
open Go Go.RowKit

open Classical in
noncomputable def restr (φ : Phi) (p : Nat → Prop) : Phi := fun id => if p id then φ id else none
theorem restr_some {φ : Phi} {p : Nat → Prop} {id : Nat} {x : Option Pl} (h : restr φ p id = some x) : p id ∧ φ id = some x := by
  unfold restr at h
  split at h
  · exact ⟨by assumption, h⟩
  · cases h
theorem restr_of {φ : Phi} {p : Nat → Prop} {id : Nat} (h : p id) : restr φ p id = φ id := if_pos h
theorem restr_not {φ : Phi} {p : Nat → Prop} {id : Nat} (h : ¬ p id) : restr φ p id = none := if_neg h
theorem restr_le {φ : Phi} {p q : Nat → Prop} (h : ∀ id, p id → q id) : PhiLe (restr φ p) (restr φ q) := fun id x e => by
  obtain ⟨h1, h2⟩ := restr_some e
  rw [restr_of (h id h1)]; exact h2
theorem restr_le' {φ : Phi} {p : Nat → Prop} : PhiLe (restr φ p) φ := fun _ _ e => (restr_some e).2
theorem restr_ge {φ φ0 : Phi} {p : Nat → Prop} {n : Nat} (h : ∀ id, id < n → φ id = φ0 id) (h0 : ∀ id, n ≤ id → φ0 id = none) (hp : ∀ id, id < n → p id) : PhiLe φ0 (restr φ p) := fun id x e => by
  by_cases hid : id < n
  · rw [restr_of (hp id hid), h id hid]; exact e
  · rw [h0 id (by omega)] at e; cases e

section
variable {P : Program} {tt : TT} {callF : FuncId → List AV → Mem → T (AV × Mem)} {N n : Nat} {ds : List Deferred} {ops : Array Oper} {mk : Nat → Nat} {big : Nat} {M0 : Mem} {st0 : Tmps} {φ0 : Phi} {w0 : World} {m : Nat} {R : DR} {G : GS}

def ow (M0 : Mem) (big id : Nat) : Nat := (id - M0.next) / big
def domA (mk : Nat → Nat) (M0 : Mem) (big j id : Nat) : Prop := id < M0.next ∨ Nat.testBit (mk j) (ow M0 big id) = true
def domP (mk : Nat → Nat) (M0 : Mem) (big k id : Nat) : Prop := id < M0.next ∨ ow M0 big id = k ∨ Nat.testBit (mk k) (ow M0 big id) = true
def ownS (M0 : Mem) (big : Nat) (R : DR) (listed : Nat → Prop) (id : Nat) : Prop := (id < M0.next ∧ isOwn (M0.get id)) ∨ (M0.next ≤ id ∧ listed (ow M0 big id) ∧ isOwn ((R (ow M0 big id)).2.get id))

/-- What operation k laid itself. -/
def onlyM (M0 : Mem) (big k : Nat) (M : Mem) : Mem := ⟨M.next, M.lock, fun id => if M0.next ≤ id ∧ ow M0 big id = k then M.get id else .dead⟩
theorem onlyM_get {M0 M : Mem} {big k id : Nat} (h : M0.next ≤ id) (h2 : ow M0 big id = k) : (onlyM M0 big k M).get id = M.get id := if_pos ⟨h, h2⟩
theorem onlyM_own {M0 M : Mem} {big k id : Nat} (h : isOwn ((onlyM M0 big k M).get id)) : M0.next ≤ id ∧ ow M0 big id = k ∧ isOwn (M.get id) := by
  have h : isOwn (if M0.next ≤ id ∧ ow M0 big id = k then M.get id else .dead) := h
  split at h
  · rename_i h1; exact ⟨h1.1, h1.2, h⟩
  · exact h.elim
theorem Rep.only {N : Nat} {φ : Phi} {M0 M : Mem} {big k : Nat} {w : World} (h : Rep N φ M w) : Rep N φ (onlyM M0 big k M) w := by
  refine ⟨fun id => ?_, fun id id' p p' h1 h2 => h.sep id id' p p' (onlyM_own h1).2.2 (onlyM_own h2).2.2, fun id p h1 => h.high id p (onlyM_own h1).2.2, fun id hid => ⟨?_, (h.fresh id hid).2⟩, h.size⟩
  · show ObjRel N φ w id (if M0.next ≤ id ∧ ow M0 big id = k then M.get id else .dead)
    split
    · exact h.objs id
    · trivial
  · show (if M0.next ≤ id ∧ ow M0 big id = k then M.get id else .dead) = .dead
    split
    · exact (h.fresh id hid).1
    · rfl
/-- The stores to what is there. -/
structure GOk (M0 : Mem) (φ0 : Phi) (w0 : World) (G : GS) : Prop where
  at' : ∀ k id off l, G k = some (id, off, l) → ∃ p e rs cells, φ0 id = some (some p) ∧ M0.get id = .own e rs cells ∧ p.b < w0.heap.size ∧ p.o = 0 ∧ p.spot = none ∧ p.rs = rs ∧ cells.length ≤ p.k * rs ∧ off + l.length ≤ cells.length ∧
    (∀ y ∈ (cells.drop off).take l.length, y = .top) ∧ id < M0.next ∧ M0.lock ≤ id ∧ allLeaf l = true
  dis : ∀ k k' id off l off' l', k < k' → G k = some (id, off', l') → G k' = some (id, off, l) → off + l.length ≤ off' ∨ off' + l'.length ≤ off

structure DInv (N n : Nat) (ds : List Deferred) (ops : Array Oper) (mk : Nat → Nat) (big : Nat) (M0 : Mem) (st0 : Tmps) (φ0 : Phi) (w0 : World) (m : Nat) (R : DR) (G : GS) (listed : Nat → Prop) (φ : Phi) (w : World) (a : Act) : Prop where
  i1 : ∀ id, id < M0.next → φ id = φ0 id
  i2 : ∀ id, M0.next ≤ id → φ id ≠ none → listed (ow M0 big id)
  im : ∀ k, listed k → k < m
  ir : ∀ k, listed k → Rep N (restr φ (domP mk M0 big k)) (onlyM M0 big k (R k).2) w
  iv : ∀ k, listed k → ∀ o d, ops[k]? = some o → o.dst = some d → AVRel (restr φ (domP mk M0 big k)) (R k).1 (a.tmps.getD d undef)
  i4 : ∀ t, (∀ k o, listed k → ops[k]? = some o → o.dst ≠ some t) → AVRel φ0 (st0 t) (a.tmps.getD t undef)
  i5 : ∀ id id' p p', ownS M0 big R listed id → ownS M0 big R listed id' → φ id = some (some p) → φ id' = some (some p') → p.b = p'.b → id = id'
  i6 : Rep N φ0 M0 w
  keep : ∀ b, b < w0.heap.size → (∀ k id off l p, G k = some (id, off, l) → φ0 id = some (some p) → p.b ≠ b) → w.heap[b]? = w0.heap[b]?
  fs : ∀ k, listed k → ∀ id off l p, G k = some (id, off, l) → φ0 id = some (some p) → ∀ i y, l[i]? = some y → ∃ z, w.cell? ⟨p.b, off + i, none⟩ = some z ∧ AVRel (restr φ (domA mk M0 big k)) y z
  os : w.os = w0.os
  tape : w.tape = w0.tape
  output : w.output = w0.output
  wsize : w0.heap.size ≤ w.heap.size
  size : a.tmps.size = n
  defers : a.defers = ds
  i9 : ∀ id p, M0.next ≤ id → ownS M0 big R listed id → φ id = some (some p) → w0.heap.size ≤ p.b
  cl : ∀ k, listed k → ∀ i, Nat.testBit (mk k) i = true → listed i

theorem ow_lt {id j : Nat} (hbig : 0 < big) : ow M0 big id < j ↔ id < M0.next + j * big ∧ (M0.next ≤ id ∨ 0 < j) := by
  unfold ow
  rw [Nat.div_lt_iff_lt_mul hbig]
  constructor
  · intro h
    rcases Nat.eq_zero_or_pos j with e | e
    · subst e; simp at h
    · generalize j * big = x at *; omega
  · rintro ⟨h, hj⟩
    rcases Nat.lt_or_ge id M0.next with h' | h'
    · have : 0 < j * big := Nat.mul_pos (by omega) hbig
      generalize j * big = x at *; omega
    · generalize j * big = x at *; omega
theorem ow_eq_range {id j : Nat} (hbig : 0 < big) (h : M0.next ≤ id) : ow M0 big id = j ↔ M0.next + j * big ≤ id ∧ id < M0.next + (j + 1) * big := by
  unfold ow
  constructor
  · rintro rfl
    have h1 := Nat.div_mul_le_self (id - M0.next) big
    have h2 := Nat.lt_succ_iff.2 (Nat.le_refl ((id - M0.next) / big))
    have h3 := (Nat.div_lt_iff_lt_mul hbig).1 h2
    have : Nat.succ ((id - M0.next) / big) = (id - M0.next) / big + 1 := rfl
    rw [this] at h3
    omega
  · rintro ⟨h1, h2⟩
    have h3 : (id - M0.next) / big < j + 1 := (Nat.div_lt_iff_lt_mul hbig).2 (by omega)
    have h4 : j ≤ (id - M0.next) / big := (Nat.le_div_iff_mul_le hbig).2 (by omega)
    omega

theorem memA_get (anc j id : Nat) : (memA M0 big R anc j).get id = if id < M0.next then M0.get id else if Nat.testBit anc (ow M0 big id) = true then (R (ow M0 big id)).2.get id else .dead := by
  show bif2 (Nat.blt id M0.next) (M0.get id) (bif2 (Nat.testBit anc (ow M0 big id)) ((R (ow M0 big id)).2.get id) .dead) = _
  rw [bif2_eq, bif2_eq]
  by_cases h : id < M0.next
  · rw [if_pos h, if_pos (show Nat.blt id M0.next = true from Nat.ble_eq_true_of_le h)]
  · rw [if_neg h, if_neg (show ¬ Nat.blt id M0.next = true from fun e => h (Nat.le_of_ble_eq_true e))]
/-- What operation j is told is there. -/
theorem DInv.repA (hm : MaskOk ops.toList mk) (hbig : 0 < big) {listed : Nat → Prop} {φ : Phi} {w : World} {a : Act} (h : DInv N n ds ops mk big M0 st0 φ0 w0 m R G listed φ w a) {j : Nat} (hanc : ∀ i, Nat.testBit (mk j) i = true → listed i) :
    Rep N (restr φ (domA mk M0 big j)) (memA M0 big R (mk j) j) w := by
  have h0 : ∀ id, M0.next ≤ id → φ0 id = none := fun id hid => (h.i6.fresh id hid).2
  have toS : ∀ id, isOwn ((memA M0 big R (mk j) j).get id) → ownS M0 big R listed id := by
    intro id ho
    rw [memA_get] at ho
    split at ho
    · exact .inl ⟨by assumption, ho⟩
    · split at ho
      · rename_i h1 h2; exact .inr ⟨by omega, hanc _ h2, ho⟩
      · exact ho.elim
  refine ⟨fun id => ?_, fun id id' p p' ho ho' hp hp' e => ?_, fun id p ho hp => ?_, fun id hid => ?_, h.i6.size⟩
  · rw [memA_get]
    split
    · exact (h.i6.objs id).step (restr_ge h.i1 h0 fun id hid => .inl hid) (fun _ _ => rfl) (fun _ _ _ => rfl)
    · split
      · rename_i h1 h2
        have hob := (h.ir _ (hanc _ h2)).objs id
        rw [onlyM_get (by omega) rfl] at hob
        refine hob.step (restr_le fun id' hid' => ?_) (fun _ _ => rfl) (fun _ _ _ => rfl)
        rcases hid' with hid' | hid' | hid'
        · exact .inl hid'
        · right; rw [hid']; exact h2
        · right; exact hm.trans _ _ _ h2 hid'
      · trivial
  · exact h.i5 id id' p p' (toS id ho) (toS id' ho') (restr_some hp).2 (restr_some hp').2 e
  · have hp := (restr_some hp).2
    rw [memA_get] at ho
    split at ho
    · rename_i h1
      rw [h.i1 id h1] at hp
      exact h.i6.high id p ho hp
    · split at ho
      · rename_i h1 h2
        refine (h.ir _ (hanc _ h2)).high id p (by rw [onlyM_get (by omega) rfl]; exact ho) ?_
        rw [restr_of (.inr (.inl rfl))]; exact hp
      · exact ho.elim
  · have hid : M0.next + j * big ≤ id := hid
    have h1 : ¬ id < M0.next := by omega
    have h2 : ¬ Nat.testBit (mk j) (ow M0 big id) = true := by
      intro hb
      have := hm.lt _ _ hb
      rw [ow_lt hbig] at this
      omega
    refine ⟨by rw [memA_get, if_neg h1, if_neg h2], restr_not ?_⟩
    rintro (h3 | h3)
    · exact h1 h3
    · exact h2 h3

theorem DInv.tmpsA (hm : MaskOk ops.toList mk) (hd : dstsOk ops.toList = true) {listed : Nat → Prop} {φ : Phi} {w : World} {a : Act} (h : DInv N n ds ops mk big M0 st0 φ0 w0 m R G listed φ w a) {j : Nat} (hanc : ∀ i, Nat.testBit (mk j) i = true → listed i) :
    TmpsRel (restr φ (domA mk M0 big j)) (stA R st0 (mk j) ops.toList 0) a.tmps := by
  have h0 : ∀ id, M0.next ≤ id → φ0 id = none := fun id hid => (h.i6.fresh id hid).2
  intro t
  rcases stA_spec (R := R) (st0 := st0) (anc := mk j) ops.toList 0 t with ⟨i, o, ho, hdt, hv⟩ | ⟨hno, hv⟩
  · rw [hv]
    simp only [Nat.zero_add]
    split
    · rename_i hb
      refine (h.iv i (hanc i hb) o t (by simpa using ho) hdt).mono (restr_le fun id' hid' => ?_)
      rcases hid' with hid' | hid' | hid'
      · exact .inl hid'
      · right; rw [hid']; exact hb
      · right; exact hm.trans _ _ _ hb hid'
    · exact .top _
  · rw [hv]
    exact (h.i4 t fun k o _ ho => hno k o (by simpa using ho)).mono (restr_ge h.i1 h0 fun id hid => .inl hid)

theorem own_lt {N : Nat} {φ : Phi} {M : Mem} {w : World} (h : Rep N φ M w) {id : Nat} {p : Pl} (ho : isOwn (M.get id)) (hp : φ id = some (some p)) : p.b < w.heap.size := by
  have := h.objs id
  cases hg : M.get id with
  | dead => rw [hg] at ho; exact ho.elim
  | ro => rw [hg] at ho; exact ho.elim
  | own e rs cells => rw [hg] at this; obtain ⟨p', hp', _, _, h2, _⟩ := this; rw [hp] at hp'; cases hp'; exact h2.lt
  | vec e n cols => rw [hg] at this; obtain ⟨_, p', hp', _, _, h2, _⟩ := this; rw [hp] at hp'; cases hp'; exact h2.lt
theorem Rep.same {N : Nat} {φ : Phi} {M : Mem} {w w' : World} (h : Rep N φ M w) (hk : ∀ b, b < w.heap.size → w'.heap[b]? = w.heap[b]?) (hs : w.heap.size ≤ w'.heap.size) : Rep N φ M w' :=
  ⟨fun id => (h.objs id).step (.refl _) (fun b hb => hk b (Nat.lt_of_lt_of_le hb h.size)) (fun ho p hp => hk _ (own_lt h ho hp)), h.sep, h.high, h.fresh, Nat.le_trans h.size hs⟩

theorem cell?_lt {w : World} {a : Addr} {z : Value} (h : w.cell? a = some z) : a.block < w.heap.size := by
  simp only [World.cell?] at h
  rcases Nat.lt_or_ge a.block w.heap.size with h1 | h1
  · exact h1
  · rw [Array.getElem?_eq_none h1] at h; simp at h
/-- Behind operation j. -/
theorem DInv.after (hm : MaskOk ops.toList mk) (hd : dstsOk ops.toList = true) (hbig : 0 < big) {listed : Nat → Prop} {φ : Phi} {w : World} {a : Act} (h : DInv N n ds ops mk big M0 st0 φ0 w0 m R G listed φ w a)
    {j : Nat} (hj : j < m) {o : Oper} (ho : ops[j]? = some o) (hdn : ∀ d, o.dst = some d → d < n) (hnl : ¬ listed j) (hanc : ∀ i, Nat.testBit (mk j) i = true → listed i) (hnext : (R j).2.next ≤ M0.next + (j + 1) * big) (hGj : G j = none)
    {v : Value} {w' : World} (hg : Good N (restr φ (domA mk M0 big j)) (memA M0 big R (mk j) j) w (· = R j) v w') :
    ∃ φn, DInv N n ds ops mk big M0 st0 φ0 w0 m R G (fun k => listed k ∨ k = j) φn w' (a.put o.dst v) := by
  obtain ⟨φ', x, M', hq, hv, hr', he⟩ := hg
  have hq1 : (R j).1 = x := by rw [← hq]
  have hq2 : (R j).2 = M' := by rw [← hq]
  subst hq1 hq2
  have hA := h.repA hm hbig hanc
  have h0 : ∀ id, M0.next ≤ id → φ0 id = none := fun id hid => (h.i6.fresh id hid).2
  -- all blocks stay
  have hkeep : ∀ b, b < w.heap.size → w'.heap[b]? = w.heap[b]? := by
    intro b hb
    refine he.keep b hb ?_
    intro id p hl hown _ _
    have hl : M0.next + j * big ≤ id := hl
    rw [(hA.fresh id hl).1] at hown
    exact hown
  have hAnext : (memA M0 big R (mk j) j).next = M0.next + j * big := rfl
  let φn : Phi := fun id => if M0.next ≤ id ∧ ow M0 big id = j then φ' id else φ id
  have hn1 : ∀ id, M0.next ≤ id → ow M0 big id = j → φn id = φ' id := fun id h1 h2 => if_pos ⟨h1, h2⟩
  have hn2 : ∀ id, (id < M0.next ∨ ow M0 big id ≠ j) → φn id = φ id := fun id h1 => if_neg (by rintro ⟨h2, h3⟩; rcases h1 with h1 | h1 <;> omega)
  have hφ'lt : ∀ id, id < M0.next + j * big → φ' id = restr φ (domA mk M0 big j) id := fun id hid => he.phi0 id hid
  have hjj : Nat.testBit (mk j) j = false := by
    cases hb : Nat.testBit (mk j) j with
    | false => rfl
    | true => have := hm.lt _ _ hb; omega
  -- what operation j's part of the places is
  have hrj : restr φn (domP mk M0 big j) = φ' := by
    funext id
    by_cases h1 : id < M0.next
    · rw [restr_of (.inl h1), hn2 id (.inl h1), hφ'lt id (by omega), restr_of (.inl h1)]
    · by_cases h2 : ow M0 big id = j
      · rw [restr_of (.inr (.inl h2)), hn1 id (by omega) h2]
      · by_cases h3 : Nat.testBit (mk j) (ow M0 big id) = true
        · rw [restr_of (.inr (.inr h3)), hn2 id (.inr h2)]
          have hlt := hm.lt _ _ h3
          rw [ow_lt hbig] at hlt
          rw [hφ'lt id (by omega), restr_of (.inr h3)]
        · rw [restr_not (fun h4 => h4.elim h1 fun h4 => h4.elim h2 h3)]
          by_cases h4 : id < M0.next + j * big
          · rw [hφ'lt id h4, restr_not (fun h5 => h5.elim h1 h3)]
          · have h5 : M0.next + (j + 1) * big ≤ id := by
              rcases Nat.lt_or_ge id (M0.next + (j + 1) * big) with h6 | h6
              · exact absurd ((ow_eq_range hbig (by omega)).2 ⟨by omega, h6⟩) h2
              · exact h6
            exact ((hr'.fresh id (Nat.le_trans hnext h5)).2).symm
  have hrk : ∀ k, listed k → restr φn (domP mk M0 big k) = restr φ (domP mk M0 big k) := by
    intro k hk
    funext id
    by_cases hp : domP mk M0 big k id
    · rw [restr_of hp, restr_of hp]
      refine hn2 id ?_
      rcases hp with hp | hp | hp
      · exact .inl hp
      · right; rw [hp]; intro e; subst e; exact hnl hk
      · right; intro e; rw [e] at hp; exact hnl (h.cl k hk j hp)
    · rw [restr_not hp, restr_not hp]
  have hownj : ∀ id p, M0.next ≤ id → ow M0 big id = j → isOwn ((R j).2.get id) → φ' id = some (some p) → w.heap.size ≤ p.b := by
    intro id p h1 h2 h3 h4
    rcases Nat.lt_or_ge p.b w.heap.size with h5 | h5
    · obtain ⟨id', p', h6, _, _, h7⟩ := he.old id p h3 h4 h5
      have := (ow_eq_range hbig h1).1 h2
      have h8 : M0.next + j * big ≤ id' := h7 this.1
      rw [(hA.fresh id' h8).1] at h6
      exact h6.elim
    · exact h5
  have hownk : ∀ id p, ownS M0 big R listed id → φ id = some (some p) → p.b < w.heap.size := by
    intro id p h1 h2
    rcases h1 with ⟨h1, h3⟩ | ⟨h1, h3, h4⟩
    · rw [h.i1 id h1] at h2; exact own_lt h.i6 h3 h2
    · refine own_lt (id := id) (h.ir _ h3) (by rw [onlyM_get h1 rfl]; exact h4) ?_
      rw [restr_of (.inr (.inl rfl))]; exact h2
  have hcase : ∀ id, ownS M0 big R (fun k => listed k ∨ k = j) id → (ownS M0 big R listed id ∧ (id < M0.next ∨ ow M0 big id ≠ j)) ∨ (M0.next ≤ id ∧ ow M0 big id = j ∧ isOwn ((R j).2.get id)) := by
    intro id hid
    rcases hid with ⟨h1, h2⟩ | ⟨h1, h2, h3⟩
    · exact .inl ⟨.inl ⟨h1, h2⟩, .inl h1⟩
    · by_cases e : ow M0 big id = j
      · right; refine ⟨h1, e, ?_⟩; rw [e] at h3; exact h3
      · rcases h2 with h2 | h2
        · exact .inl ⟨.inr ⟨h1, h2, h3⟩, .inr e⟩
        · exact absurd h2 e
  refine ⟨φn, fun id hid => by rw [hn2 id (.inl hid)]; exact h.i1 id hid, fun id hid hne => ?_, fun k hk => ?_, fun k hk => ?_, fun k hk o' d ho' hd' => ?_, fun t ht => ?_, fun id id' p p' ho1 ho2 hp hp' e => ?_, h.i6.same hkeep he.size,
    fun b hb hno => (hkeep b (Nat.lt_of_lt_of_le hb h.wsize)).trans (h.keep b hb hno), fun k hk id off l p hG hp i y hy => ?_, he.os.trans h.os, he.tape.trans h.tape, he.output.trans h.output, Nat.le_trans h.wsize he.size, (put_size ..).trans h.size, (put_defers ..).trans h.defers, fun id p hid ho1 hp => ?_, fun k hk i hi => ?_⟩
  · by_cases e : ow M0 big id = j
    · exact .inr e
    · rw [hn2 id (.inr e)] at hne; exact .inl (h.i2 id hid hne)
  · rcases hk with hk | rfl
    · exact h.im k hk
    · exact hj
  · rcases hk with hk | rfl
    · rw [hrk k hk]; exact (h.ir k hk).same hkeep he.size
    · rw [hrj]; exact hr'.only
  · rcases hk with hk | rfl
    · rw [hrk k hk]
      have hne : k ≠ j := fun e => hnl (e ▸ hk)
      have := h.iv k hk o' d ho' hd'
      have hsame : (a.put o.dst v).tmps.getD d undef = a.tmps.getD d undef := by
        cases hod : o.dst with
        | none => rfl
        | some d2 =>
          have : d2 ≠ d := by
            intro e; subst e
            exact hne (dstsOk_ne hd k j o' o d2 (by simpa using ho') (by simpa using ho) hd' hod)
          simp only [Act.put, Array.getD_eq_getD_getElem?, Array.getElem?_setIfInBounds, if_neg this]
      rw [hsame]; exact this
    · rw [hrj]
      rw [ho] at ho'; cases ho'
      have hlt : d < a.tmps.size := by rw [h.size]; exact hdn d hd'
      have : (a.put o.dst v).tmps.getD d undef = v := by rw [hd']; simp [Act.put, hlt]
      rw [this]; exact hv
  · have hsame : (a.put o.dst v).tmps.getD t undef = a.tmps.getD t undef := by
      have hne := ht j o (.inr rfl) ho
      cases hod : o.dst with
      | none => rfl
      | some d2 =>
        have : d2 ≠ t := fun e => hne (by rw [hod, e])
        simp only [Act.put, Array.getD_eq_getD_getElem?, Array.getElem?_setIfInBounds, if_neg this]
    rw [hsame]
    exact h.i4 t fun k o hk ho => ht k o (.inl hk) ho
  · rcases hcase id ho1 with ⟨h1, h2⟩ | ⟨h1, h2, h3⟩ <;> rcases hcase id' ho2 with ⟨h4, h5⟩ | ⟨h4, h5, h6⟩
    · rw [hn2 id h2] at hp; rw [hn2 id' h5] at hp'
      exact h.i5 id id' p p' h1 h4 hp hp' e
    · rw [hn2 id h2] at hp; rw [hn1 id' h4 h5] at hp'
      have k1 := hownk id p h1 hp
      have k2 := hownj id' p' h4 h5 h6 hp'
      omega
    · rw [hn1 id h1 h2] at hp; rw [hn2 id' h5] at hp'
      have k1 := hownk id' p' h4 hp'
      have k2 := hownj id p h1 h2 h3 hp
      omega
    · rw [hn1 id h1 h2] at hp; rw [hn1 id' h4 h5] at hp'
      exact hr'.sep id id' p p' h3 h6 hp hp' e
  · rcases hk with hk | rfl
    · obtain ⟨z, hz, hzr⟩ := h.fs k hk id off l p hG hp i y hy
      have hpb : p.b < w.heap.size := by
        have : (w.cell? ⟨p.b, off + i, none⟩).isSome = true := by rw [hz]; rfl
        exact (cell?_lt hz)
      refine ⟨z, by simp only [World.cell?, hkeep p.b hpb]; exact hz, ?_⟩
      have e : restr φn (domA mk M0 big k) = restr φ (domA mk M0 big k) := by
        funext id
        by_cases hp : domA mk M0 big k id
        · rw [restr_of hp, restr_of hp]
          refine hn2 id ?_
          rcases hp with hp | hp
          · exact .inl hp
          · right; intro e; rw [e] at hp; exact hnl (h.cl k hk j hp)
        · rw [restr_not hp, restr_not hp]
      rw [e]; exact hzr
    · rw [hGj] at hG; cases hG
  · rcases hcase id ho1 with ⟨h1, h2⟩ | ⟨h1, h2, h3⟩
    · rw [hn2 id h2] at hp; exact h.i9 id p hid h1 hp
    · rw [hn1 id h1 h2] at hp
      exact Nat.le_trans h.wsize (hownj id p h1 h2 h3 hp)
  · rcases hk with hk | rfl
    · exact .inl (h.cl k hk i hi)
    · exact .inl (hanc i hi)
end
end Go.Eng
