/- Lemmas about the evaluator of the code. -/
import Derived.Test.YtcmnaaopgffjdaaDoorRpeX
import Derived.Test.YtcmnaaopgffjdaaDoorBldX
set_option linter.all false
set_option linter.deprecated false
set_option maxRecDepth 1000000
set_option maxHeartbeats 4000000
namespace Go.Proofs.TabX
open Go Go.Eng
/-! ## A reply's bytes, by a builder -/
theorem bytesCol_len (s : ByteArray) : (bytesCol s).length = s.size := by unfold bytesCol; rw [List.length_map, size_list]
theorem bytesCol_app (s t : ByteArray) : bytesCol (s ++ t) = bytesCol s ++ bytesCol t := by unfold bytesCol; rw [ba_list, List.map_append]
theorem bytesCol_all (s : ByteArray) : (List.all (bytesCol s) fun x => decide (0 ≤ x) && decide (x < 256)) = true := by
  unfold bytesCol
  rw [List.all_eq_true]
  intro x hx
  obtain ⟨b, _, rfl⟩ := List.mem_map.1 hx
  have := b.toNat_lt
  rw [decide_eq_true (by omega), decide_eq_true (by omega)]; rfl
theorem strOf_col (s : ByteArray) : strOf (bytesCol s) = s := by
  unfold strOf bytesCol
  refine ByteArray.ext (Array.ext' ?_)
  show List.map _ (List.map _ s.data.toList) = s.data.toList
  rw [List.map_map]
  conv => rhs; rw [← List.map_id s.data.toList]
  refine List.map_congr_left fun b _ => ?_
  simp
noncomputable def S12 : Sp := fun f => bif2 (Nat.beq f 24) (some (viewS k24)) (bif2 (Nat.beq f 20) (some (treeS g20)) (bif2 (Nat.beq f 39) (some g39) (bif2 (Nat.beq f 26) (some g26) (Sn f))))
theorem s12 (k : Nat) : SOk Tryd.prog (nK k) S12 := sOk_view tok (fok false) hmix (s51 _) (s20 (s39 (s26 (sn _)))) v24
noncomputable def k12 : List AV → List AObj → T An
  | [.agg [.i .i64 c, .sl 0 r n _]], [.ro _ m [.cs l]] => .br (decide (atP r m n l)) (.br (mayO c l n) (.ret (.tup [.s (bytO c l), iv 0], [])) (.ret (.tup [.s ⟨#[]⟩, iv 1], []))) .fail
  | [.agg [.i .i64 c, .sl 0 r n _]], [.vec _ m [.cs l]] => .br (decide (atP r m n l)) (.br (mayO c l n) (.ret (.tup [.s (bytO c l), iv 0], [])) (.ret (.tup [.s ⟨#[]⟩, iv 1], []))) .fail
  | [.agg [.i .i64 c, .v (.slice none 0 0)]], [] => .ret (.tup [.s ⟨#[]⟩, iv 1], [])
  | _, _ => .fail
theorem mayO_of {c : Int} {l : List ByteArray} {n : Nat} (h : mayO c l n = true) : 200 ≤ c ∧ c ≤ 599 ∧ 1 ≤ n ∧ n ≤ 16 := by
  rw [mayO_eq] at h
  simp only [Bool.and_eq_true, decide_eq_true_eq] at h
  omega
theorem t12r {nl : Bool} {n : Nat} {cap : Option Nat} {l : List ByteArray} {c : Int} {Q : An → Prop} (hl : okL l n) (hq1 : mayO c l n = true → Q (.tup [.s (bytO c l), iv 0], [])) (hq2 : mayO c l n = false → Q (.tup [.s ⟨#[]⟩, iv 1], [])) : H (ev S12 5 12 [.agg [iv c, .sl 0 0 n cap]] (memL 1 [.ro nl n [.cs l]])) (fun x => Q (resV 1 x)) F0 := by
  have h0 := hl.2.1
  cases hm : mayO c l n with
  | false =>
    refine fn0 (fi := fi12 false) (by kernel_rfl) (by kernel_rfl) (by kernel_rfl) 1 rfl ?_
    refine pE_Q (k := 1) ?_
    refine H.kd 2 (fun b => b) (atP 0 n n l) ⟨rfl, rfl, hl⟩ (by kernel_rfl) ?_
    refine H.kb 1 (fun b => (!b)) (b := mayO c l n) (d := false) hm (by kernel_rfl) ?_
    exact H.lf (f := pE 1) 1 (Sum.inl (AV.tup [AV.s ⟨#[]⟩, AV.i IntKind.i64 1], [])) (by kernel_rfl) (hq2 hm)
  | true =>
    obtain ⟨hc1, hc2, hn1, hn16⟩ := mayO_of hm
    have hic := itO_le (n := c) (by omega)
    refine fn1 (fi := fi12 false) (by kernel_rfl) (by kernel_rfl) (by kernel_rfl) rfl [0, 1, 0, 1, 1, 1] 3 1 rfl (by kernel_rfl) (fun mm st => ∃ i : Nat, i ≤ n ∧ 1 ≤ n ∧ n ≤ 16 ∧ mm = n - i ∧
      ((i = 0 ∧ st = ([.ptr 1 0 0, .ptr 2 0 0, .sl 0 0 n cap, iv n, iv 0], 1, [.ro nl n [.cs l], .own 37 2 [iv c, .sl 0 0 n cap], .own 57 2 [.v (.pointer none), .v (.slice none 0 0)]])) ∨
        (0 < i ∧ ∃ s : ByteArray, s ++ bytV c (l.drop i) = bytO c l ∧ 0 < s.size ∧ s.size ≤ i * 10100 ∧
          st = ([.ptr 1 0 0, .ptr 2 0 0, .sl 0 0 n cap, iv n, iv i], 1, [.ro nl n [.cs l], .own 37 2 [iv c, .sl 0 0 n cap], .own 57 2 [.ptr 2 0 0, .sl 3 0 s.size none], .vec 5 s.size [.ci .u8 (bytesCol s)]])))) ?_ ?_
    · refine pE_Q (k := 1) ?_
      refine H.kd 2 (fun b => b) (atP 0 n n l) ⟨rfl, rfl, hl⟩ (by kernel_rfl) ?_
      refine H.kb 1 (fun b => (!b)) (b := mayO c l n) (d := true) hm (by kernel_rfl) ?_
      refine H.lf (f := pE 1) 2 (Sum.inr ([0, 1, 0, 1, 1, 1], 3, [.ptr 1 0 0, .ptr 2 0 0, .sl 0 0 n cap, iv n, iv 0], 1, [.ro nl n [.cs l], .own 37 2 [iv c, .sl 0 0 n cap], .own 57 2 [.v (.pointer none), .v (.slice none 0 0)]])) (by kernel_rfl) ?_
      exact ⟨rfl, rfl, n, by omega, 0, by omega, hn1, hn16, rfl, .inl ⟨rfl, rfl⟩⟩
    · intro mm st hi
      obtain ⟨i, hi, _, _, rfl, ⟨rfl, rfl⟩ | ⟨hi0, s, hp, hs0, hs, rfl⟩⟩ := hi
      · have hx := hl.2.2 0
        have h1 : ((0 : Nat) : Int) < (n : Int) := by omega
        refine pL_Q (k := 1) ?_
        refine H.kd 1 (fun b => b) ((0 : Int) < (↑n : Int)) h1 (by kernel_rfl) ?_
        refine H.kd 2 (fun b => b) ((0 : Int) < (↑n : Int)) h1 (by kernel_rfl) ?_
        refine H.kl 0 (fun b => b) (0) (n) (by omega) (by kernel_rfl) ?_
        refine H.se 3 (fun b => b) (0) (wr IntKind.i64 ((↑n : Int) - 1)) (by kernel_rfl) (fun h2 => ?_) (fun h2 => ?_)
        all_goals rw [wr64 (by omega) (by omega)] at h2
        · refine H.kd 1 (fun b => b) (-9223372036854775808 ≤ c ∧ c ≤ 9223372036854775807) (by omega) (by kernel_rfl) ?_
          refine H.kb 0 (fun b => b) (b := Nat.ble (ByteArray.size (itO c) + ByteArray.size ⟨#[32]⟩) 9223372036854775807) (d := true) (Nat.ble_eq_true_of_le (by first | omega | (simp only [emp, ba_size, z1, z2]; omega))) (by kernel_rfl) ?_
          refine H.kb 0 (fun b => b) (b := Nat.ble (ByteArray.size (itO c ++ ⟨#[32]⟩) + ByteArray.size (List.getD l 0 ByteArray.empty)) 9223372036854775807) (d := true) (Nat.ble_eq_true_of_le (by first | omega | (simp only [emp, ba_size, z1, z2]; omega))) (by kernel_rfl) ?_
          refine H.kb 0 (fun b => b) (b := Nat.ble (ByteArray.size (itO c ++ ⟨#[32]⟩ ++ (List.getD l 0 ByteArray.empty)) + ByteArray.size ⟨#[13, 10]⟩) 9223372036854775807) (d := true) (Nat.ble_eq_true_of_le (by first | omega | (simp only [emp, ba_size, z1, z2]; omega))) (by kernel_rfl) ?_
          have hL : ByteArray.size (itO c ++ ⟨#[32]⟩ ++ (List.getD l 0 ByteArray.empty) ++ ⟨#[13, 10]⟩) ≤ 10100 := (by first | omega | (simp only [emp, ba_size, z1, z2]; omega))
          have hL0 : 0 < ByteArray.size (itO c ++ ⟨#[32]⟩ ++ (List.getD l 0 ByteArray.empty) ++ ⟨#[13, 10]⟩) := (by first | omega | (simp only [emp, ba_size, z1, z2]; omega))
          refine H.kb 7 (fun b => b) (b := Nat.beq (ByteArray.size (itO c ++ ⟨#[32]⟩ ++ (List.getD l 0 ByteArray.empty) ++ ⟨#[13, 10]⟩)) 0) (d := false) (by cases hh : Nat.beq (ByteArray.size (itO c ++ ⟨#[32]⟩ ++ (List.getD l 0 ByteArray.empty) ++ ⟨#[13, 10]⟩)) 0 with | false => rfl | true => exact absurd (Nat.eq_of_beq_eq_true hh) (by omega)) (by kernel_rfl) ?_
          refine H.kb 0 (fun b => b) (b := Nat.blt 0 1 && Nat.ble (ByteArray.size (itO c ++ ⟨#[32]⟩ ++ (List.getD l 0 ByteArray.empty) ++ ⟨#[13, 10]⟩) * 1) 140737488355328) (d := true) (by rw [Nat.ble_eq_true_of_le (by omega)]; rfl) (by kernel_rfl) ?_
          refine H.kb 0 (fun b => b) (b := Nat.beq (ByteArray.size (itO c ++ ⟨#[32]⟩ ++ (List.getD l 0 ByteArray.empty) ++ ⟨#[13, 10]⟩)) (ByteArray.size (itO c ++ ⟨#[32]⟩ ++ (List.getD l 0 ByteArray.empty) ++ ⟨#[13, 10]⟩)) && Nat.beq 1 1) (d := true) (by rw [Nat.beq_refl]; rfl) (by kernel_rfl) ?_
          refine H.lf (f := pL 1) 7 (Sum.inl ([.ptr 1 0 0, .ptr 2 0 0, .sl 0 0 n cap, iv n, iv 1], 1, [.ro nl n [.cs l], .own 37 2 [iv c, .sl 0 0 n cap], .own 57 2 [.ptr 2 0 0, .sl 3 0 (ByteArray.size (itO c ++ ⟨#[32]⟩ ++ (List.getD l 0 ByteArray.empty) ++ ⟨#[13, 10]⟩)) none], .vec 5 (ByteArray.size (itO c ++ ⟨#[32]⟩ ++ (List.getD l 0 ByteArray.empty) ++ ⟨#[13, 10]⟩)) [.ci .u8 (bytesCol (itO c ++ ⟨#[32]⟩ ++ (List.getD l 0 ByteArray.empty) ++ ⟨#[13, 10]⟩))]])) (by kernel_rfl) ?_
          have hlt2 : n - 1 < n - 0 := by omega
          refine ⟨_, hlt2, 1, by omega, hn1, hn16, rfl, .inr ⟨by omega, (itO c ++ ⟨#[32]⟩ ++ (List.getD l 0 ByteArray.empty) ++ ⟨#[13, 10]⟩), ?_, hL0, by omega, rfl⟩⟩
          have h := byt_step (c := c) (i := 0) (s := ByteArray.empty) (last := true) hl h1 ((decide_eq_true (by omega)).symm) (by rw [bytO_eq]; exact ByteArray.empty_append)
          rw [← line_eq (⟨#[32]⟩) (by rfl), ByteArray.empty_append] at h
          exact h
        · refine H.kd 1 (fun b => b) (-9223372036854775808 ≤ c ∧ c ≤ 9223372036854775807) (by omega) (by kernel_rfl) ?_
          refine H.kb 0 (fun b => b) (b := Nat.ble (ByteArray.size (itO c) + ByteArray.size ⟨#[45]⟩) 9223372036854775807) (d := true) (Nat.ble_eq_true_of_le (by first | omega | (simp only [emp, ba_size, z1, z2]; omega))) (by kernel_rfl) ?_
          refine H.kb 0 (fun b => b) (b := Nat.ble (ByteArray.size (itO c ++ ⟨#[45]⟩) + ByteArray.size (List.getD l 0 ByteArray.empty)) 9223372036854775807) (d := true) (Nat.ble_eq_true_of_le (by first | omega | (simp only [emp, ba_size, z1, z2]; omega))) (by kernel_rfl) ?_
          refine H.kb 0 (fun b => b) (b := Nat.ble (ByteArray.size (itO c ++ ⟨#[45]⟩ ++ (List.getD l 0 ByteArray.empty)) + ByteArray.size ⟨#[13, 10]⟩) 9223372036854775807) (d := true) (Nat.ble_eq_true_of_le (by first | omega | (simp only [emp, ba_size, z1, z2]; omega))) (by kernel_rfl) ?_
          have hL : ByteArray.size (itO c ++ ⟨#[45]⟩ ++ (List.getD l 0 ByteArray.empty) ++ ⟨#[13, 10]⟩) ≤ 10100 := (by first | omega | (simp only [emp, ba_size, z1, z2]; omega))
          have hL0 : 0 < ByteArray.size (itO c ++ ⟨#[45]⟩ ++ (List.getD l 0 ByteArray.empty) ++ ⟨#[13, 10]⟩) := (by first | omega | (simp only [emp, ba_size, z1, z2]; omega))
          refine H.kb 7 (fun b => b) (b := Nat.beq (ByteArray.size (itO c ++ ⟨#[45]⟩ ++ (List.getD l 0 ByteArray.empty) ++ ⟨#[13, 10]⟩)) 0) (d := false) (by cases hh : Nat.beq (ByteArray.size (itO c ++ ⟨#[45]⟩ ++ (List.getD l 0 ByteArray.empty) ++ ⟨#[13, 10]⟩)) 0 with | false => rfl | true => exact absurd (Nat.eq_of_beq_eq_true hh) (by omega)) (by kernel_rfl) ?_
          refine H.kb 0 (fun b => b) (b := Nat.blt 0 1 && Nat.ble (ByteArray.size (itO c ++ ⟨#[45]⟩ ++ (List.getD l 0 ByteArray.empty) ++ ⟨#[13, 10]⟩) * 1) 140737488355328) (d := true) (by rw [Nat.ble_eq_true_of_le (by omega)]; rfl) (by kernel_rfl) ?_
          refine H.kb 0 (fun b => b) (b := Nat.beq (ByteArray.size (itO c ++ ⟨#[45]⟩ ++ (List.getD l 0 ByteArray.empty) ++ ⟨#[13, 10]⟩)) (ByteArray.size (itO c ++ ⟨#[45]⟩ ++ (List.getD l 0 ByteArray.empty) ++ ⟨#[13, 10]⟩)) && Nat.beq 1 1) (d := true) (by rw [Nat.beq_refl]; rfl) (by kernel_rfl) ?_
          refine H.lf (f := pL 1) 7 (Sum.inl ([.ptr 1 0 0, .ptr 2 0 0, .sl 0 0 n cap, iv n, iv 1], 1, [.ro nl n [.cs l], .own 37 2 [iv c, .sl 0 0 n cap], .own 57 2 [.ptr 2 0 0, .sl 3 0 (ByteArray.size (itO c ++ ⟨#[45]⟩ ++ (List.getD l 0 ByteArray.empty) ++ ⟨#[13, 10]⟩)) none], .vec 5 (ByteArray.size (itO c ++ ⟨#[45]⟩ ++ (List.getD l 0 ByteArray.empty) ++ ⟨#[13, 10]⟩)) [.ci .u8 (bytesCol (itO c ++ ⟨#[45]⟩ ++ (List.getD l 0 ByteArray.empty) ++ ⟨#[13, 10]⟩))]])) (by kernel_rfl) ?_
          have hlt2 : n - 1 < n - 0 := by omega
          refine ⟨_, hlt2, 1, by omega, hn1, hn16, rfl, .inr ⟨by omega, (itO c ++ ⟨#[45]⟩ ++ (List.getD l 0 ByteArray.empty) ++ ⟨#[13, 10]⟩), ?_, hL0, by omega, rfl⟩⟩
          have h := byt_step (c := c) (i := 0) (s := ByteArray.empty) (last := false) hl h1 ((decide_eq_false (by omega)).symm) (by rw [bytO_eq]; exact ByteArray.empty_append)
          rw [← line_eq (⟨#[45]⟩) (by rfl), ByteArray.empty_append] at h
          exact h
      · have hx := hl.2.2 (0 + Int.toNat (i : Int))
        refine pL_Q (k := 1) ?_
        refine H.sd 1 (fun b => b) ((↑i : Int) < (↑n : Int)) (by kernel_rfl) (fun h1 => ?_) (fun h1 => ?_)
        · refine H.kd 2 (fun b => b) ((↑i : Int) < (↑n : Int)) h1 (by kernel_rfl) ?_
          refine H.kl 0 (fun b => b) (0 + Int.toNat (↑i : Int)) (n) (by omega) (by kernel_rfl) ?_
          refine H.se 3 (fun b => b) ((↑i : Int)) (wr IntKind.i64 ((↑n : Int) - 1)) (by kernel_rfl) (fun h2 => ?_) (fun h2 => ?_)
          all_goals rw [wr64 (by omega) (by omega)] at h2
          · refine H.kd 1 (fun b => b) (-9223372036854775808 ≤ c ∧ c ≤ 9223372036854775807) (by omega) (by kernel_rfl) ?_
            refine H.kb 0 (fun b => b) (b := Nat.ble (ByteArray.size (itO c) + ByteArray.size ⟨#[32]⟩) 9223372036854775807) (d := true) (Nat.ble_eq_true_of_le (by first | omega | (simp only [emp, ba_size, z1, z2]; omega))) (by kernel_rfl) ?_
            refine H.kb 0 (fun b => b) (b := Nat.ble (ByteArray.size (itO c ++ ⟨#[32]⟩) + ByteArray.size (List.getD l (0 + Int.toNat (↑i : Int)) ByteArray.empty)) 9223372036854775807) (d := true) (Nat.ble_eq_true_of_le (by first | omega | (simp only [emp, ba_size, z1, z2]; omega))) (by kernel_rfl) ?_
            refine H.kb 0 (fun b => b) (b := Nat.ble (ByteArray.size (itO c ++ ⟨#[32]⟩ ++ (List.getD l (0 + Int.toNat (↑i : Int)) ByteArray.empty)) + ByteArray.size ⟨#[13, 10]⟩) 9223372036854775807) (d := true) (Nat.ble_eq_true_of_le (by first | omega | (simp only [emp, ba_size, z1, z2]; omega))) (by kernel_rfl) ?_
            have hL : ByteArray.size (itO c ++ ⟨#[32]⟩ ++ (List.getD l (0 + Int.toNat (↑i : Int)) ByteArray.empty) ++ ⟨#[13, 10]⟩) ≤ 10100 := (by first | omega | (simp only [emp, ba_size, z1, z2]; omega))
            have hL0 : 0 < ByteArray.size (itO c ++ ⟨#[32]⟩ ++ (List.getD l (0 + Int.toNat (↑i : Int)) ByteArray.empty) ++ ⟨#[13, 10]⟩) := (by first | omega | (simp only [emp, ba_size, z1, z2]; omega))
            refine H.kb 10 (fun b => b) (b := Nat.ble (0 + s.size) s.size) (d := true) (Nat.ble_eq_true_of_le (by omega)) (by kernel_rfl) ?_
            refine H.kb 0 (fun b => b) (b := Nat.blt 0 1 && Nat.ble ((s.size + ByteArray.size (itO c ++ ⟨#[32]⟩ ++ (List.getD l (0 + Int.toNat (↑i : Int)) ByteArray.empty) ++ ⟨#[13, 10]⟩)) * 1) 140737488355328) (d := true) (by rw [Nat.ble_eq_true_of_le (by omega)]; rfl) (by kernel_rfl) ?_
            refine H.kb 0 (fun b => b) (b := Nat.beq (s.size + ByteArray.size (itO c ++ ⟨#[32]⟩ ++ (List.getD l (0 + Int.toNat (↑i : Int)) ByteArray.empty) ++ ⟨#[13, 10]⟩)) (s.size + ByteArray.size (itO c ++ ⟨#[32]⟩ ++ (List.getD l (0 + Int.toNat (↑i : Int)) ByteArray.empty) ++ ⟨#[13, 10]⟩)) && Nat.beq 1 1) (d := true) (by rw [Nat.beq_refl]; rfl) (by kernel_rfl) ?_
            refine H.lf (f := pL 1) 7 (Sum.inl ([.ptr 1 0 0, .ptr 2 0 0, .sl 0 0 n cap, iv n, iv (wr .i64 ((i : Int) + 1))], 1, [.ro nl n [.cs l], .own 37 2 [iv c, .sl 0 0 n cap], .own 57 2 [.ptr 2 0 0, .sl 3 0 (s.size + ByteArray.size (itO c ++ ⟨#[32]⟩ ++ (List.getD l (0 + Int.toNat (↑i : Int)) ByteArray.empty) ++ ⟨#[13, 10]⟩)) none], .vec 5 (s.size + ByteArray.size (itO c ++ ⟨#[32]⟩ ++ (List.getD l (0 + Int.toNat (↑i : Int)) ByteArray.empty) ++ ⟨#[13, 10]⟩)) [.ci .u8 (List.take s.size (List.drop 0 (bytesCol s)) ++ bytesCol (itO c ++ ⟨#[32]⟩ ++ (List.getD l (0 + Int.toNat (↑i : Int)) ByteArray.empty) ++ ⟨#[13, 10]⟩))]])) (by kernel_rfl) ?_
            have hlt2 : n - (i + 1) < n - i := by omega
            refine ⟨_, hlt2, i + 1, by omega, hn1, hn16, rfl, .inr ⟨by omega, s ++ (itO c ++ ⟨#[32]⟩ ++ (List.getD l (0 + Int.toNat (↑i : Int)) ByteArray.empty) ++ ⟨#[13, 10]⟩), ?_, by rw [ba_size]; omega, by rw [ba_size]; omega, ?_⟩⟩
            · have h := byt_step (c := c) (i := i) (s := s) (last := true) hl h1 ((decide_eq_true (by omega)).symm) hp
              rw [← line_eq (⟨#[32]⟩) (by rfl)] at h
              simp only [ByteArray.append_assoc] at h ⊢
              exact h
            · rw [List.drop_zero, List.take_of_length_le (by rw [bytesCol_len]; exact Nat.le_refl _), ← bytesCol_app, ba_size s, wrN' (by omega)]
          · refine H.kd 1 (fun b => b) (-9223372036854775808 ≤ c ∧ c ≤ 9223372036854775807) (by omega) (by kernel_rfl) ?_
            refine H.kb 0 (fun b => b) (b := Nat.ble (ByteArray.size (itO c) + ByteArray.size ⟨#[45]⟩) 9223372036854775807) (d := true) (Nat.ble_eq_true_of_le (by first | omega | (simp only [emp, ba_size, z1, z2]; omega))) (by kernel_rfl) ?_
            refine H.kb 0 (fun b => b) (b := Nat.ble (ByteArray.size (itO c ++ ⟨#[45]⟩) + ByteArray.size (List.getD l (0 + Int.toNat (↑i : Int)) ByteArray.empty)) 9223372036854775807) (d := true) (Nat.ble_eq_true_of_le (by first | omega | (simp only [emp, ba_size, z1, z2]; omega))) (by kernel_rfl) ?_
            refine H.kb 0 (fun b => b) (b := Nat.ble (ByteArray.size (itO c ++ ⟨#[45]⟩ ++ (List.getD l (0 + Int.toNat (↑i : Int)) ByteArray.empty)) + ByteArray.size ⟨#[13, 10]⟩) 9223372036854775807) (d := true) (Nat.ble_eq_true_of_le (by first | omega | (simp only [emp, ba_size, z1, z2]; omega))) (by kernel_rfl) ?_
            have hL : ByteArray.size (itO c ++ ⟨#[45]⟩ ++ (List.getD l (0 + Int.toNat (↑i : Int)) ByteArray.empty) ++ ⟨#[13, 10]⟩) ≤ 10100 := (by first | omega | (simp only [emp, ba_size, z1, z2]; omega))
            have hL0 : 0 < ByteArray.size (itO c ++ ⟨#[45]⟩ ++ (List.getD l (0 + Int.toNat (↑i : Int)) ByteArray.empty) ++ ⟨#[13, 10]⟩) := (by first | omega | (simp only [emp, ba_size, z1, z2]; omega))
            refine H.kb 10 (fun b => b) (b := Nat.ble (0 + s.size) s.size) (d := true) (Nat.ble_eq_true_of_le (by omega)) (by kernel_rfl) ?_
            refine H.kb 0 (fun b => b) (b := Nat.blt 0 1 && Nat.ble ((s.size + ByteArray.size (itO c ++ ⟨#[45]⟩ ++ (List.getD l (0 + Int.toNat (↑i : Int)) ByteArray.empty) ++ ⟨#[13, 10]⟩)) * 1) 140737488355328) (d := true) (by rw [Nat.ble_eq_true_of_le (by omega)]; rfl) (by kernel_rfl) ?_
            refine H.kb 0 (fun b => b) (b := Nat.beq (s.size + ByteArray.size (itO c ++ ⟨#[45]⟩ ++ (List.getD l (0 + Int.toNat (↑i : Int)) ByteArray.empty) ++ ⟨#[13, 10]⟩)) (s.size + ByteArray.size (itO c ++ ⟨#[45]⟩ ++ (List.getD l (0 + Int.toNat (↑i : Int)) ByteArray.empty) ++ ⟨#[13, 10]⟩)) && Nat.beq 1 1) (d := true) (by rw [Nat.beq_refl]; rfl) (by kernel_rfl) ?_
            refine H.lf (f := pL 1) 7 (Sum.inl ([.ptr 1 0 0, .ptr 2 0 0, .sl 0 0 n cap, iv n, iv (wr .i64 ((i : Int) + 1))], 1, [.ro nl n [.cs l], .own 37 2 [iv c, .sl 0 0 n cap], .own 57 2 [.ptr 2 0 0, .sl 3 0 (s.size + ByteArray.size (itO c ++ ⟨#[45]⟩ ++ (List.getD l (0 + Int.toNat (↑i : Int)) ByteArray.empty) ++ ⟨#[13, 10]⟩)) none], .vec 5 (s.size + ByteArray.size (itO c ++ ⟨#[45]⟩ ++ (List.getD l (0 + Int.toNat (↑i : Int)) ByteArray.empty) ++ ⟨#[13, 10]⟩)) [.ci .u8 (List.take s.size (List.drop 0 (bytesCol s)) ++ bytesCol (itO c ++ ⟨#[45]⟩ ++ (List.getD l (0 + Int.toNat (↑i : Int)) ByteArray.empty) ++ ⟨#[13, 10]⟩))]])) (by kernel_rfl) ?_
            have hlt2 : n - (i + 1) < n - i := by omega
            refine ⟨_, hlt2, i + 1, by omega, hn1, hn16, rfl, .inr ⟨by omega, s ++ (itO c ++ ⟨#[45]⟩ ++ (List.getD l (0 + Int.toNat (↑i : Int)) ByteArray.empty) ++ ⟨#[13, 10]⟩), ?_, by rw [ba_size]; omega, by rw [ba_size]; omega, ?_⟩⟩
            · have h := byt_step (c := c) (i := i) (s := s) (last := false) hl h1 ((decide_eq_false (by omega)).symm) hp
              rw [← line_eq (⟨#[45]⟩) (by rfl)] at h
              simp only [ByteArray.append_assoc] at h ⊢
              exact h
            · rw [List.drop_zero, List.take_of_length_le (by rw [bytesCol_len]; exact Nat.le_refl _), ← bytesCol_app, ba_size s, wrN' (by omega)]
        · rw [drop_end hl (by omega)] at hp
          unfold bytV at hp
          rw [ByteArray.append_empty] at hp
          refine H.kb 3 (fun b => b) (b := true && (Nat.beq s.size s.size && (Nat.blt 0 s.size && (Nat.ble s.size 1000000 && List.all (bytesCol s) fun x => decide (0 ≤ x) && decide (x < 256))))) (d := true) (by rw [bytesCol_all, Nat.beq_refl, Nat.ble_eq_true_of_le (by omega)]; simpa [Nat.blt_eq] using hs0) (by kernel_rfl) ?_
          refine H.lf (f := pL 1) 2 (Sum.inr (Sum.inl (AV.tup [AV.s (strOf (bytesCol s)), AV.i IntKind.i64 0], []))) (by kernel_rfl) ?_
          show Q _
          rw [strOf_col, hp]
          exact hq1 hm
theorem t12v {el : Nat} {n : Nat} {cap : Option Nat} {l : List ByteArray} {c : Int} {Q : An → Prop} (hl : okL l n) (hq1 : mayO c l n = true → Q (.tup [.s (bytO c l), iv 0], [])) (hq2 : mayO c l n = false → Q (.tup [.s ⟨#[]⟩, iv 1], [])) : H (ev S12 5 12 [.agg [iv c, .sl 0 0 n cap]] (memL 1 [.vec el n [.cs l]])) (fun x => Q (resV 1 x)) F0 := by
  have h0 := hl.2.1
  cases hm : mayO c l n with
  | false =>
    refine fn0 (fi := fi12 false) (by kernel_rfl) (by kernel_rfl) (by kernel_rfl) 1 rfl ?_
    refine pE_Q (k := 1) ?_
    refine H.kd 2 (fun b => b) (atP 0 n n l) ⟨rfl, rfl, hl⟩ (by kernel_rfl) ?_
    refine H.kb 1 (fun b => (!b)) (b := mayO c l n) (d := false) hm (by kernel_rfl) ?_
    exact H.lf (f := pE 1) 1 (Sum.inl (AV.tup [AV.s ⟨#[]⟩, AV.i IntKind.i64 1], [])) (by kernel_rfl) (hq2 hm)
  | true =>
    obtain ⟨hc1, hc2, hn1, hn16⟩ := mayO_of hm
    have hic := itO_le (n := c) (by omega)
    refine fn1 (fi := fi12 false) (by kernel_rfl) (by kernel_rfl) (by kernel_rfl) rfl [0, 1, 0, 1, 1, 1] 3 1 rfl (by kernel_rfl) (fun mm st => ∃ i : Nat, i ≤ n ∧ 1 ≤ n ∧ n ≤ 16 ∧ mm = n - i ∧
      ((i = 0 ∧ st = ([.ptr 1 0 0, .ptr 2 0 0, .sl 0 0 n cap, iv n, iv 0], 1, [.vec el n [.cs l], .own 37 2 [iv c, .sl 0 0 n cap], .own 57 2 [.v (.pointer none), .v (.slice none 0 0)]])) ∨
        (0 < i ∧ ∃ s : ByteArray, s ++ bytV c (l.drop i) = bytO c l ∧ 0 < s.size ∧ s.size ≤ i * 10100 ∧
          st = ([.ptr 1 0 0, .ptr 2 0 0, .sl 0 0 n cap, iv n, iv i], 1, [.vec el n [.cs l], .own 37 2 [iv c, .sl 0 0 n cap], .own 57 2 [.ptr 2 0 0, .sl 3 0 s.size none], .vec 5 s.size [.ci .u8 (bytesCol s)]])))) ?_ ?_
    · refine pE_Q (k := 1) ?_
      refine H.kd 2 (fun b => b) (atP 0 n n l) ⟨rfl, rfl, hl⟩ (by kernel_rfl) ?_
      refine H.kb 1 (fun b => (!b)) (b := mayO c l n) (d := true) hm (by kernel_rfl) ?_
      refine H.lf (f := pE 1) 2 (Sum.inr ([0, 1, 0, 1, 1, 1], 3, [.ptr 1 0 0, .ptr 2 0 0, .sl 0 0 n cap, iv n, iv 0], 1, [.vec el n [.cs l], .own 37 2 [iv c, .sl 0 0 n cap], .own 57 2 [.v (.pointer none), .v (.slice none 0 0)]])) (by kernel_rfl) ?_
      exact ⟨rfl, rfl, n, by omega, 0, by omega, hn1, hn16, rfl, .inl ⟨rfl, rfl⟩⟩
    · intro mm st hi
      obtain ⟨i, hi, _, _, rfl, ⟨rfl, rfl⟩ | ⟨hi0, s, hp, hs0, hs, rfl⟩⟩ := hi
      · have hx := hl.2.2 0
        have h1 : ((0 : Nat) : Int) < (n : Int) := by omega
        refine pL_Q (k := 1) ?_
        refine H.kd 1 (fun b => b) ((0 : Int) < (↑n : Int)) h1 (by kernel_rfl) ?_
        refine H.kd 2 (fun b => b) ((0 : Int) < (↑n : Int)) h1 (by kernel_rfl) ?_
        refine H.kl 0 (fun b => b) (0) (n) (by omega) (by kernel_rfl) ?_
        refine H.se 3 (fun b => b) (0) (wr IntKind.i64 ((↑n : Int) - 1)) (by kernel_rfl) (fun h2 => ?_) (fun h2 => ?_)
        all_goals rw [wr64 (by omega) (by omega)] at h2
        · refine H.kd 1 (fun b => b) (-9223372036854775808 ≤ c ∧ c ≤ 9223372036854775807) (by omega) (by kernel_rfl) ?_
          refine H.kb 0 (fun b => b) (b := Nat.ble (ByteArray.size (itO c) + ByteArray.size ⟨#[32]⟩) 9223372036854775807) (d := true) (Nat.ble_eq_true_of_le (by first | omega | (simp only [emp, ba_size, z1, z2]; omega))) (by kernel_rfl) ?_
          refine H.kb 0 (fun b => b) (b := Nat.ble (ByteArray.size (itO c ++ ⟨#[32]⟩) + ByteArray.size (List.getD l 0 ByteArray.empty)) 9223372036854775807) (d := true) (Nat.ble_eq_true_of_le (by first | omega | (simp only [emp, ba_size, z1, z2]; omega))) (by kernel_rfl) ?_
          refine H.kb 0 (fun b => b) (b := Nat.ble (ByteArray.size (itO c ++ ⟨#[32]⟩ ++ (List.getD l 0 ByteArray.empty)) + ByteArray.size ⟨#[13, 10]⟩) 9223372036854775807) (d := true) (Nat.ble_eq_true_of_le (by first | omega | (simp only [emp, ba_size, z1, z2]; omega))) (by kernel_rfl) ?_
          have hL : ByteArray.size (itO c ++ ⟨#[32]⟩ ++ (List.getD l 0 ByteArray.empty) ++ ⟨#[13, 10]⟩) ≤ 10100 := (by first | omega | (simp only [emp, ba_size, z1, z2]; omega))
          have hL0 : 0 < ByteArray.size (itO c ++ ⟨#[32]⟩ ++ (List.getD l 0 ByteArray.empty) ++ ⟨#[13, 10]⟩) := (by first | omega | (simp only [emp, ba_size, z1, z2]; omega))
          refine H.kb 7 (fun b => b) (b := Nat.beq (ByteArray.size (itO c ++ ⟨#[32]⟩ ++ (List.getD l 0 ByteArray.empty) ++ ⟨#[13, 10]⟩)) 0) (d := false) (by cases hh : Nat.beq (ByteArray.size (itO c ++ ⟨#[32]⟩ ++ (List.getD l 0 ByteArray.empty) ++ ⟨#[13, 10]⟩)) 0 with | false => rfl | true => exact absurd (Nat.eq_of_beq_eq_true hh) (by omega)) (by kernel_rfl) ?_
          refine H.kb 0 (fun b => b) (b := Nat.blt 0 1 && Nat.ble (ByteArray.size (itO c ++ ⟨#[32]⟩ ++ (List.getD l 0 ByteArray.empty) ++ ⟨#[13, 10]⟩) * 1) 140737488355328) (d := true) (by rw [Nat.ble_eq_true_of_le (by omega)]; rfl) (by kernel_rfl) ?_
          refine H.kb 0 (fun b => b) (b := Nat.beq (ByteArray.size (itO c ++ ⟨#[32]⟩ ++ (List.getD l 0 ByteArray.empty) ++ ⟨#[13, 10]⟩)) (ByteArray.size (itO c ++ ⟨#[32]⟩ ++ (List.getD l 0 ByteArray.empty) ++ ⟨#[13, 10]⟩)) && Nat.beq 1 1) (d := true) (by rw [Nat.beq_refl]; rfl) (by kernel_rfl) ?_
          refine H.lf (f := pL 1) 7 (Sum.inl ([.ptr 1 0 0, .ptr 2 0 0, .sl 0 0 n cap, iv n, iv 1], 1, [.vec el n [.cs l], .own 37 2 [iv c, .sl 0 0 n cap], .own 57 2 [.ptr 2 0 0, .sl 3 0 (ByteArray.size (itO c ++ ⟨#[32]⟩ ++ (List.getD l 0 ByteArray.empty) ++ ⟨#[13, 10]⟩)) none], .vec 5 (ByteArray.size (itO c ++ ⟨#[32]⟩ ++ (List.getD l 0 ByteArray.empty) ++ ⟨#[13, 10]⟩)) [.ci .u8 (bytesCol (itO c ++ ⟨#[32]⟩ ++ (List.getD l 0 ByteArray.empty) ++ ⟨#[13, 10]⟩))]])) (by kernel_rfl) ?_
          have hlt2 : n - 1 < n - 0 := by omega
          refine ⟨_, hlt2, 1, by omega, hn1, hn16, rfl, .inr ⟨by omega, (itO c ++ ⟨#[32]⟩ ++ (List.getD l 0 ByteArray.empty) ++ ⟨#[13, 10]⟩), ?_, hL0, by omega, rfl⟩⟩
          have h := byt_step (c := c) (i := 0) (s := ByteArray.empty) (last := true) hl h1 ((decide_eq_true (by omega)).symm) (by rw [bytO_eq]; exact ByteArray.empty_append)
          rw [← line_eq (⟨#[32]⟩) (by rfl), ByteArray.empty_append] at h
          exact h
        · refine H.kd 1 (fun b => b) (-9223372036854775808 ≤ c ∧ c ≤ 9223372036854775807) (by omega) (by kernel_rfl) ?_
          refine H.kb 0 (fun b => b) (b := Nat.ble (ByteArray.size (itO c) + ByteArray.size ⟨#[45]⟩) 9223372036854775807) (d := true) (Nat.ble_eq_true_of_le (by first | omega | (simp only [emp, ba_size, z1, z2]; omega))) (by kernel_rfl) ?_
          refine H.kb 0 (fun b => b) (b := Nat.ble (ByteArray.size (itO c ++ ⟨#[45]⟩) + ByteArray.size (List.getD l 0 ByteArray.empty)) 9223372036854775807) (d := true) (Nat.ble_eq_true_of_le (by first | omega | (simp only [emp, ba_size, z1, z2]; omega))) (by kernel_rfl) ?_
          refine H.kb 0 (fun b => b) (b := Nat.ble (ByteArray.size (itO c ++ ⟨#[45]⟩ ++ (List.getD l 0 ByteArray.empty)) + ByteArray.size ⟨#[13, 10]⟩) 9223372036854775807) (d := true) (Nat.ble_eq_true_of_le (by first | omega | (simp only [emp, ba_size, z1, z2]; omega))) (by kernel_rfl) ?_
          have hL : ByteArray.size (itO c ++ ⟨#[45]⟩ ++ (List.getD l 0 ByteArray.empty) ++ ⟨#[13, 10]⟩) ≤ 10100 := (by first | omega | (simp only [emp, ba_size, z1, z2]; omega))
          have hL0 : 0 < ByteArray.size (itO c ++ ⟨#[45]⟩ ++ (List.getD l 0 ByteArray.empty) ++ ⟨#[13, 10]⟩) := (by first | omega | (simp only [emp, ba_size, z1, z2]; omega))
          refine H.kb 7 (fun b => b) (b := Nat.beq (ByteArray.size (itO c ++ ⟨#[45]⟩ ++ (List.getD l 0 ByteArray.empty) ++ ⟨#[13, 10]⟩)) 0) (d := false) (by cases hh : Nat.beq (ByteArray.size (itO c ++ ⟨#[45]⟩ ++ (List.getD l 0 ByteArray.empty) ++ ⟨#[13, 10]⟩)) 0 with | false => rfl | true => exact absurd (Nat.eq_of_beq_eq_true hh) (by omega)) (by kernel_rfl) ?_
          refine H.kb 0 (fun b => b) (b := Nat.blt 0 1 && Nat.ble (ByteArray.size (itO c ++ ⟨#[45]⟩ ++ (List.getD l 0 ByteArray.empty) ++ ⟨#[13, 10]⟩) * 1) 140737488355328) (d := true) (by rw [Nat.ble_eq_true_of_le (by omega)]; rfl) (by kernel_rfl) ?_
          refine H.kb 0 (fun b => b) (b := Nat.beq (ByteArray.size (itO c ++ ⟨#[45]⟩ ++ (List.getD l 0 ByteArray.empty) ++ ⟨#[13, 10]⟩)) (ByteArray.size (itO c ++ ⟨#[45]⟩ ++ (List.getD l 0 ByteArray.empty) ++ ⟨#[13, 10]⟩)) && Nat.beq 1 1) (d := true) (by rw [Nat.beq_refl]; rfl) (by kernel_rfl) ?_
          refine H.lf (f := pL 1) 7 (Sum.inl ([.ptr 1 0 0, .ptr 2 0 0, .sl 0 0 n cap, iv n, iv 1], 1, [.vec el n [.cs l], .own 37 2 [iv c, .sl 0 0 n cap], .own 57 2 [.ptr 2 0 0, .sl 3 0 (ByteArray.size (itO c ++ ⟨#[45]⟩ ++ (List.getD l 0 ByteArray.empty) ++ ⟨#[13, 10]⟩)) none], .vec 5 (ByteArray.size (itO c ++ ⟨#[45]⟩ ++ (List.getD l 0 ByteArray.empty) ++ ⟨#[13, 10]⟩)) [.ci .u8 (bytesCol (itO c ++ ⟨#[45]⟩ ++ (List.getD l 0 ByteArray.empty) ++ ⟨#[13, 10]⟩))]])) (by kernel_rfl) ?_
          have hlt2 : n - 1 < n - 0 := by omega
          refine ⟨_, hlt2, 1, by omega, hn1, hn16, rfl, .inr ⟨by omega, (itO c ++ ⟨#[45]⟩ ++ (List.getD l 0 ByteArray.empty) ++ ⟨#[13, 10]⟩), ?_, hL0, by omega, rfl⟩⟩
          have h := byt_step (c := c) (i := 0) (s := ByteArray.empty) (last := false) hl h1 ((decide_eq_false (by omega)).symm) (by rw [bytO_eq]; exact ByteArray.empty_append)
          rw [← line_eq (⟨#[45]⟩) (by rfl), ByteArray.empty_append] at h
          exact h
      · have hx := hl.2.2 (0 + Int.toNat (i : Int))
        refine pL_Q (k := 1) ?_
        refine H.sd 1 (fun b => b) ((↑i : Int) < (↑n : Int)) (by kernel_rfl) (fun h1 => ?_) (fun h1 => ?_)
        · refine H.kd 2 (fun b => b) ((↑i : Int) < (↑n : Int)) h1 (by kernel_rfl) ?_
          refine H.kl 0 (fun b => b) (0 + Int.toNat (↑i : Int)) (n) (by omega) (by kernel_rfl) ?_
          refine H.se 3 (fun b => b) ((↑i : Int)) (wr IntKind.i64 ((↑n : Int) - 1)) (by kernel_rfl) (fun h2 => ?_) (fun h2 => ?_)
          all_goals rw [wr64 (by omega) (by omega)] at h2
          · refine H.kd 1 (fun b => b) (-9223372036854775808 ≤ c ∧ c ≤ 9223372036854775807) (by omega) (by kernel_rfl) ?_
            refine H.kb 0 (fun b => b) (b := Nat.ble (ByteArray.size (itO c) + ByteArray.size ⟨#[32]⟩) 9223372036854775807) (d := true) (Nat.ble_eq_true_of_le (by first | omega | (simp only [emp, ba_size, z1, z2]; omega))) (by kernel_rfl) ?_
            refine H.kb 0 (fun b => b) (b := Nat.ble (ByteArray.size (itO c ++ ⟨#[32]⟩) + ByteArray.size (List.getD l (0 + Int.toNat (↑i : Int)) ByteArray.empty)) 9223372036854775807) (d := true) (Nat.ble_eq_true_of_le (by first | omega | (simp only [emp, ba_size, z1, z2]; omega))) (by kernel_rfl) ?_
            refine H.kb 0 (fun b => b) (b := Nat.ble (ByteArray.size (itO c ++ ⟨#[32]⟩ ++ (List.getD l (0 + Int.toNat (↑i : Int)) ByteArray.empty)) + ByteArray.size ⟨#[13, 10]⟩) 9223372036854775807) (d := true) (Nat.ble_eq_true_of_le (by first | omega | (simp only [emp, ba_size, z1, z2]; omega))) (by kernel_rfl) ?_
            have hL : ByteArray.size (itO c ++ ⟨#[32]⟩ ++ (List.getD l (0 + Int.toNat (↑i : Int)) ByteArray.empty) ++ ⟨#[13, 10]⟩) ≤ 10100 := (by first | omega | (simp only [emp, ba_size, z1, z2]; omega))
            have hL0 : 0 < ByteArray.size (itO c ++ ⟨#[32]⟩ ++ (List.getD l (0 + Int.toNat (↑i : Int)) ByteArray.empty) ++ ⟨#[13, 10]⟩) := (by first | omega | (simp only [emp, ba_size, z1, z2]; omega))
            refine H.kb 10 (fun b => b) (b := Nat.ble (0 + s.size) s.size) (d := true) (Nat.ble_eq_true_of_le (by omega)) (by kernel_rfl) ?_
            refine H.kb 0 (fun b => b) (b := Nat.blt 0 1 && Nat.ble ((s.size + ByteArray.size (itO c ++ ⟨#[32]⟩ ++ (List.getD l (0 + Int.toNat (↑i : Int)) ByteArray.empty) ++ ⟨#[13, 10]⟩)) * 1) 140737488355328) (d := true) (by rw [Nat.ble_eq_true_of_le (by omega)]; rfl) (by kernel_rfl) ?_
            refine H.kb 0 (fun b => b) (b := Nat.beq (s.size + ByteArray.size (itO c ++ ⟨#[32]⟩ ++ (List.getD l (0 + Int.toNat (↑i : Int)) ByteArray.empty) ++ ⟨#[13, 10]⟩)) (s.size + ByteArray.size (itO c ++ ⟨#[32]⟩ ++ (List.getD l (0 + Int.toNat (↑i : Int)) ByteArray.empty) ++ ⟨#[13, 10]⟩)) && Nat.beq 1 1) (d := true) (by rw [Nat.beq_refl]; rfl) (by kernel_rfl) ?_
            refine H.lf (f := pL 1) 7 (Sum.inl ([.ptr 1 0 0, .ptr 2 0 0, .sl 0 0 n cap, iv n, iv (wr .i64 ((i : Int) + 1))], 1, [.vec el n [.cs l], .own 37 2 [iv c, .sl 0 0 n cap], .own 57 2 [.ptr 2 0 0, .sl 3 0 (s.size + ByteArray.size (itO c ++ ⟨#[32]⟩ ++ (List.getD l (0 + Int.toNat (↑i : Int)) ByteArray.empty) ++ ⟨#[13, 10]⟩)) none], .vec 5 (s.size + ByteArray.size (itO c ++ ⟨#[32]⟩ ++ (List.getD l (0 + Int.toNat (↑i : Int)) ByteArray.empty) ++ ⟨#[13, 10]⟩)) [.ci .u8 (List.take s.size (List.drop 0 (bytesCol s)) ++ bytesCol (itO c ++ ⟨#[32]⟩ ++ (List.getD l (0 + Int.toNat (↑i : Int)) ByteArray.empty) ++ ⟨#[13, 10]⟩))]])) (by kernel_rfl) ?_
            have hlt2 : n - (i + 1) < n - i := by omega
            refine ⟨_, hlt2, i + 1, by omega, hn1, hn16, rfl, .inr ⟨by omega, s ++ (itO c ++ ⟨#[32]⟩ ++ (List.getD l (0 + Int.toNat (↑i : Int)) ByteArray.empty) ++ ⟨#[13, 10]⟩), ?_, by rw [ba_size]; omega, by rw [ba_size]; omega, ?_⟩⟩
            · have h := byt_step (c := c) (i := i) (s := s) (last := true) hl h1 ((decide_eq_true (by omega)).symm) hp
              rw [← line_eq (⟨#[32]⟩) (by rfl)] at h
              simp only [ByteArray.append_assoc] at h ⊢
              exact h
            · rw [List.drop_zero, List.take_of_length_le (by rw [bytesCol_len]; exact Nat.le_refl _), ← bytesCol_app, ba_size s, wrN' (by omega)]
          · refine H.kd 1 (fun b => b) (-9223372036854775808 ≤ c ∧ c ≤ 9223372036854775807) (by omega) (by kernel_rfl) ?_
            refine H.kb 0 (fun b => b) (b := Nat.ble (ByteArray.size (itO c) + ByteArray.size ⟨#[45]⟩) 9223372036854775807) (d := true) (Nat.ble_eq_true_of_le (by first | omega | (simp only [emp, ba_size, z1, z2]; omega))) (by kernel_rfl) ?_
            refine H.kb 0 (fun b => b) (b := Nat.ble (ByteArray.size (itO c ++ ⟨#[45]⟩) + ByteArray.size (List.getD l (0 + Int.toNat (↑i : Int)) ByteArray.empty)) 9223372036854775807) (d := true) (Nat.ble_eq_true_of_le (by first | omega | (simp only [emp, ba_size, z1, z2]; omega))) (by kernel_rfl) ?_
            refine H.kb 0 (fun b => b) (b := Nat.ble (ByteArray.size (itO c ++ ⟨#[45]⟩ ++ (List.getD l (0 + Int.toNat (↑i : Int)) ByteArray.empty)) + ByteArray.size ⟨#[13, 10]⟩) 9223372036854775807) (d := true) (Nat.ble_eq_true_of_le (by first | omega | (simp only [emp, ba_size, z1, z2]; omega))) (by kernel_rfl) ?_
            have hL : ByteArray.size (itO c ++ ⟨#[45]⟩ ++ (List.getD l (0 + Int.toNat (↑i : Int)) ByteArray.empty) ++ ⟨#[13, 10]⟩) ≤ 10100 := (by first | omega | (simp only [emp, ba_size, z1, z2]; omega))
            have hL0 : 0 < ByteArray.size (itO c ++ ⟨#[45]⟩ ++ (List.getD l (0 + Int.toNat (↑i : Int)) ByteArray.empty) ++ ⟨#[13, 10]⟩) := (by first | omega | (simp only [emp, ba_size, z1, z2]; omega))
            refine H.kb 10 (fun b => b) (b := Nat.ble (0 + s.size) s.size) (d := true) (Nat.ble_eq_true_of_le (by omega)) (by kernel_rfl) ?_
            refine H.kb 0 (fun b => b) (b := Nat.blt 0 1 && Nat.ble ((s.size + ByteArray.size (itO c ++ ⟨#[45]⟩ ++ (List.getD l (0 + Int.toNat (↑i : Int)) ByteArray.empty) ++ ⟨#[13, 10]⟩)) * 1) 140737488355328) (d := true) (by rw [Nat.ble_eq_true_of_le (by omega)]; rfl) (by kernel_rfl) ?_
            refine H.kb 0 (fun b => b) (b := Nat.beq (s.size + ByteArray.size (itO c ++ ⟨#[45]⟩ ++ (List.getD l (0 + Int.toNat (↑i : Int)) ByteArray.empty) ++ ⟨#[13, 10]⟩)) (s.size + ByteArray.size (itO c ++ ⟨#[45]⟩ ++ (List.getD l (0 + Int.toNat (↑i : Int)) ByteArray.empty) ++ ⟨#[13, 10]⟩)) && Nat.beq 1 1) (d := true) (by rw [Nat.beq_refl]; rfl) (by kernel_rfl) ?_
            refine H.lf (f := pL 1) 7 (Sum.inl ([.ptr 1 0 0, .ptr 2 0 0, .sl 0 0 n cap, iv n, iv (wr .i64 ((i : Int) + 1))], 1, [.vec el n [.cs l], .own 37 2 [iv c, .sl 0 0 n cap], .own 57 2 [.ptr 2 0 0, .sl 3 0 (s.size + ByteArray.size (itO c ++ ⟨#[45]⟩ ++ (List.getD l (0 + Int.toNat (↑i : Int)) ByteArray.empty) ++ ⟨#[13, 10]⟩)) none], .vec 5 (s.size + ByteArray.size (itO c ++ ⟨#[45]⟩ ++ (List.getD l (0 + Int.toNat (↑i : Int)) ByteArray.empty) ++ ⟨#[13, 10]⟩)) [.ci .u8 (List.take s.size (List.drop 0 (bytesCol s)) ++ bytesCol (itO c ++ ⟨#[45]⟩ ++ (List.getD l (0 + Int.toNat (↑i : Int)) ByteArray.empty) ++ ⟨#[13, 10]⟩))]])) (by kernel_rfl) ?_
            have hlt2 : n - (i + 1) < n - i := by omega
            refine ⟨_, hlt2, i + 1, by omega, hn1, hn16, rfl, .inr ⟨by omega, s ++ (itO c ++ ⟨#[45]⟩ ++ (List.getD l (0 + Int.toNat (↑i : Int)) ByteArray.empty) ++ ⟨#[13, 10]⟩), ?_, by rw [ba_size]; omega, by rw [ba_size]; omega, ?_⟩⟩
            · have h := byt_step (c := c) (i := i) (s := s) (last := false) hl h1 ((decide_eq_false (by omega)).symm) hp
              rw [← line_eq (⟨#[45]⟩) (by rfl)] at h
              simp only [ByteArray.append_assoc] at h ⊢
              exact h
            · rw [List.drop_zero, List.take_of_length_le (by rw [bytesCol_len]; exact Nat.le_refl _), ← bytesCol_app, ba_size s, wrN' (by omega)]
        · rw [drop_end hl (by omega)] at hp
          unfold bytV at hp
          rw [ByteArray.append_empty] at hp
          refine H.kb 3 (fun b => b) (b := true && (Nat.beq s.size s.size && (Nat.blt 0 s.size && (Nat.ble s.size 1000000 && List.all (bytesCol s) fun x => decide (0 ≤ x) && decide (x < 256))))) (d := true) (by rw [bytesCol_all, Nat.beq_refl, Nat.ble_eq_true_of_le (by omega)]; simpa [Nat.blt_eq] using hs0) (by kernel_rfl) ?_
          refine H.lf (f := pL 1) 2 (Sum.inr (Sum.inl (AV.tup [AV.s (strOf (bytesCol s)), AV.i IntKind.i64 0], []))) (by kernel_rfl) ?_
          show Q _
          rw [strOf_col, hp]
          exact hq1 hm
theorem t12n {c : Int} {Q : An → Prop} (hq : Q (.tup [.s ⟨#[]⟩, iv 1], [])) : H (ev S12 5 12 [.agg [iv c, .v (.slice none 0 0)]] (memL 0 [])) (fun x => Q (resV 0 x)) F0 := by
  refine fn0 (fi := fi12 false) (by kernel_rfl) (by kernel_rfl) (by kernel_rfl) 0 rfl ?_
  refine pE_Q (k := 0) ?_
  exact H.lf (f := pE 0) 50 (Sum.inl (AV.tup [AV.s ⟨#[]⟩, AV.i IntKind.i64 1], [])) (by kernel_rfl) hq
theorem v12 : Vw S12 12 k12 := by
  intro args objs Q h
  unfold k12 at h
  split at h
  · obtain ⟨h3, hq⟩ := br_ok h
    obtain ⟨rfl, rfl, hl⟩ := of_decide_eq_true h3
    exact t12r hl (fun e => hq.1 e) (fun e => hq.2 e)
  · obtain ⟨h3, hq⟩ := br_ok h
    obtain ⟨rfl, rfl, hl⟩ := of_decide_eq_true h3
    exact t12v hl (fun e => hq.1 e) (fun e => hq.2 e)
  · exact t12n h
  · exact h.elim
end Go.Proofs.TabX
