/- Text for FnExactWeighingsOf: written by a program of this session on the pattern of the kit's print. -/
import Derived.Test.YtffohdlbkigehaaHFnExactWeighingsOfx0
import Derived.Test.YtffohdlbkigehaaHFnExactWeighingsOfx1
import Derived.Test.YtffohdlbkigehaaHFnExactWeighingsOfx2
import Derived.Test.YtffohdlbkigehaaHFnExactWeighingsOfx3
import Derived.Test.YtffohdlbkigehaaHFnExactWeighingsOfx4
namespace Go.Proofs.Ytffohdlbkigehaa.HFnExactWeighingsOf
open Go.RowKit Go.Proofs.YtffohdlbkigehaaW.PrintWords Go.Proofs.YtffohdlbkigehaaW.PrintLast Go.Proofs.YtffohdlbkigehaaW.PrintMore
attribute [local go_sem] max2_int min2_int max_two min_two max_three min_three max_four min_four   -- for this text's walks alone
set_option linter.unusedVariables false
set_option linter.unusedSimpArgs false

/-! ### laws_markWeighingS: function 47 -/
theorem laws_markWeighingS.cellAt {w : World} {go i : Nat} {v : Value} (t : Nat) (h : w.cell? ⟨go, t, none⟩ = some v) (e : t = i) : w.cell? ⟨go, i, none⟩ = some v := e ▸ h
theorem laws_markWeighingS.get0 {dn rs : List (List Int)} {x : List Int} {n : Nat} (h : dn.length = n) : (dn ++ x :: rs).getD (n : Int).toNat [] = x := by subst h; simp [List.getD_eq_getElem?_getD]
theorem laws_markWeighingS.get1 {dn rs : List (List Int)} {x y : List Int} {n : Nat} (h : dn.length = n) : (dn ++ x :: y :: rs).getD ((n + 1 : Nat) : Int).toNat [] = y := by subst h; simp [List.getD_eq_getElem?_getD, -Int.natCast_add]
theorem laws_markWeighingS.set0 {dn rs : List (List Int)} {x z : List Int} {n : Nat} (h : dn.length = n) : (dn ++ x :: rs).set (n : Int).toNat z = dn ++ z :: rs := by subst h; simp
theorem laws_markWeighingS.set1 {dn rs : List (List Int)} {x y z : List Int} {n : Nat} (h : dn.length = n) : (dn ++ x :: y :: rs).set ((n + 1 : Nat) : Int).toNat z = (dn ++ [x, z]) ++ rs := by subst h; simp [-Int.natCast_add]
theorem laws_markWeighingS.back {wr w1 w : World} {b : Nat} {P0 oki : Nat → Prop} {V : Value} {L : List (List Int)} {t : Int} {v : Value} {p2 : List Int} (hH : Kd.H (Kd.slice 3 (Kd.int .i64)) 29 wr b (fun k_ => P0 k_ ∨ w.heap.size ≤ k_) V L t oki [v]) (hK1 : Kept wr w1 oki) (hR1 : Kd.R (Kd.int .i64) 3 w1 b (fun k_ => oki k_ ∨ wr.heap.size ≤ k_) v p2) (hK : Kept w wr P0) : Kd.S (Kd.slice 3 (Kd.int .i64)) 29 w1 b (fun k_ => P0 k_ ∨ w.heap.size ≤ k_) V (L.set t.toNat p2) := by
  have hH1 := Kd.H_kept (Kd.H_widen hH) hK1 (fun k_ _ hn hs => hn (.inl hs))
  exact Kd.H_back hH1 (x' := p2) (okp := fun k_ => oki k_ ∨ wr.heap.size ≤ k_) ⟨_, rfl, hR1⟩ (fun k_ hk => hk.imp id (fun h2 => ⟨.inr (Nat.le_trans hK.1 h2), h2⟩))
theorem laws_markWeighingS.kept {w wr w1 : World} {P0 oki X : Nat → Prop} (hK : Kept w wr P0) (hK1 : Kept wr w1 oki) (hoki : ∀ k, oki k → (P0 k ∨ w.heap.size ≤ k) ∧ X k) : Kept w w1 P0 :=
  ⟨Nat.le_trans hK.1 hK1.1, fun i hi hn => (hK1.2 i (by have := hK.1; omega) (fun ho => ((hoki i ho).1.elim hn (fun h2 => by omega)))).trans (hK.2 i hi hn)⟩
theorem laws_markWeighingS.elem {w : World} {b : Nat} {ok : Nat → Prop} {go m i : Nat} {L : List (List Int)} {x : List Int} (h : Kd.S (Kd.slice 3 (Kd.int .i64)) 29 w b ok (.slice (some ⟨go, 0, none⟩) (2 * m) (2 * m)) L) (hi : i < 2 * m) (hl : L.length = 2 * m) (hx : L.getD (i : Int).toNat [] = x) : ∃ (A : Option Addr) (c : Nat) (oki : Nat → Prop), w.cell? ⟨go, i, none⟩ = some (.slice A x.length c) ∧ Kd.R (Kd.int .i64) 3 w b oki (.slice A x.length c) x ∧ (∀ k, oki k → ok k ∧ k ≠ go) ∧ Kd.H (Kd.slice 3 (Kd.int .i64)) 29 w b ok (.slice (some ⟨go, 0, none⟩) (2 * m) (2 * m)) L (i : Int) oki [.slice A x.length c] := by
  obtain ⟨oki, c, hcs, hM, hcell, hfr, hoki, hH⟩ := Kd.S_elem h [] (i : Int) (by omega) (by omega)
  rw [hx] at hM
  obtain ⟨v, rfl, hR⟩ := hM
  obtain ⟨Av, cv, rfl⟩ := Kd.R_slice hR
  exact ⟨Av, cv, oki, by simpa [Kd.slice] using hcell 0 _ rfl, hR, hoki, hH⟩
def laws_markWeighingS.s (k : Nat) : List (List Int) → Int → Option (Int × List (List Int))
  | [], a => some (a, [])
  | x :: xs, a => (laws_markIntS.f k x a).bind fun p => (laws_markWeighingS.s k xs p.1).bind fun q => some (q.1, p.2 :: q.2)
theorem laws_markWeighingS.s_mono (k : Nat) : ∀ l a, LeO (laws_markWeighingS.s k l a) (laws_markWeighingS.s (k + 1) l a)
  | [], _ => LeO.refl _
  | x :: xs, a => LeO.bind (laws_markIntS.mono x a k) (fun p => LeO.bind (laws_markWeighingS.s_mono k xs p.1) (fun _ => LeO.refl _))
def laws_markWeighingS.flat : List S29 → List (List Int)
  | [] => []
  | x :: xs => x.f0 :: x.f1 :: laws_markWeighingS.flat xs
def laws_markWeighingS.f (k : Nat) (l0 : List S29) (a1 : Int) : Option Int := (laws_markWeighingS.s k (laws_markWeighingS.flat l0) a1).bind fun p => some p.1
theorem laws_markWeighingS.mono : ∀ a0 a1 k, LeO (laws_markWeighingS.f k a0 a1) (laws_markWeighingS.f (k + 1) a0 a1) := fun l a k => LeO.bind (laws_markWeighingS.s_mono k _ a) (fun _ => LeO.refl _)
set_option maxHeartbeats 8000000 in
set_option maxRecDepth 100000 in
theorem laws_markWeighingS.calls0 (k : Nat) (P0_ : Nat → Prop) (go m : Nat) (l0 : List (List Int)) (a1 : Int) (r1 : Int) (r2 : List (List Int)) (w0 w : World) (hB : Below w0.heap.size w0 w) (hl : l0.length = 2 * m) (ho0 : Kd.S (Kd.slice 3 (Kd.int .i64)) 29 w w0.heap.size P0_ (.slice (some ⟨go, 0, none⟩) (2 * m) (2 * m)) l0) (h : laws_markWeighingS.s k l0 a1 = some (r1, r2)) :
    Calls Try.prog 47 #[.slice (some ⟨go, 0, none⟩) m m, .int .i64 a1] w fun e w' => e = .returned (.int .i64 r1) ∧ Kd.S (Kd.slice 3 (Kd.int .i64)) 29 w' w0.heap.size (fun k_ => (P0_ k_ ∨ w.heap.size ≤ k_)) (.slice (some ⟨go, 0, none⟩) (2 * m) (2 * m)) r2 ∧ Below w0.heap.size w0 w' ∧ Kept w w' (fun k_ => P0_ k_) := by
  have HO0 := Aside0.mk (show Kd.S (Kd.slice 3 (Kd.int .i64)) 29 w w0.heap.size (fun k_ => (P0_ k_ ∨ w.heap.size ≤ k_)) (.slice (some ⟨go, 0, none⟩) (2 * m) (2 * m)) l0 from Kd.S_mono ho0 (fun k_ hk => (.inl hk)))
  have HK := Aside0.mk (Kept.refl w (fun k_ => P0_ k_))
  have HB := Aside0.mk hB
  clear hB
  have hlen : l0.length ≤ 9223372036854775807 := by
    obtain ⟨A, c, e, hc, hC⟩ := Kd.S_reads ho0
    exact hC.2.1
  have H' := Aside0.mk (show laws_markWeighingS.s k l0 a1 = some (r1, r2) from h)
  clear h ho0
  replace hl := Aside0.mk hl
  have hm2 : 2 * m ≤ 9223372036854775807 := by have := hl.out; omega
  clear hlen
  go_enter Try.func47, Try.ntmps47
  go_wp2
  go_loopg [1, 5] m (fun kq v1 v5 w' => ∃ (ii : Nat) (dn rs : List (List Int)) (x1 : Int) (ys : List (List Int)), v1 = .int .i64 x1 ∧ v5 = .int .i64 (ii : Int) ∧ Aside0 (dn.length = 2 * ii ∧ 2 * ii + rs.length = 2 * m) ∧ ii ≤ m ∧ m - ii ≤ kq ∧ Aside0 (laws_markWeighingS.s k rs x1 = some (r1, ys) ∧ r2 = dn ++ ys) ∧ Aside0 (Kd.S (Kd.slice 3 (Kd.int .i64)) 29 w' w0.heap.size (fun k_ => (P0_ k_ ∨ w.heap.size ≤ k_)) (.slice (some ⟨go, 0, none⟩) (2 * m) (2 * m)) (dn ++ rs)) ∧ Aside0 (Kept w w' (fun k_ => P0_ k_)) ∧ Aside0 (Below w0.heap.size w0 w'))
  case atStart => exact ⟨0, [], l0, a1, r2, rfl, rfl, ⟨by have := hl.out; simp; omega⟩, by omega, by omega, ⟨H'.out, rfl⟩, HO0, HK, HB⟩
  case round =>
    clear H' HO0 HK HB
    obtain ⟨ii, dn, rs, x1, ys, rfl, rfl, HL, hii, hgk, HA, HO, HK, HB⟩ := hrel
    by_cases hlt : ii < m
    · obtain ⟨x, rs1, e1⟩ : ∃ x rs1, rs = x :: rs1 := by
        cases rs with
        | nil => have := HL.out; simp only [List.length_nil] at this; omega
        | cons x rs1 => exact ⟨x, rs1, rfl⟩
      subst e1
      obtain ⟨y, rs2, e2⟩ : ∃ y rs2, rs1 = y :: rs2 := by
        cases rs1 with
        | nil => have := HL.out; simp only [List.length_nil, List.length_cons] at this; omega
        | cons x rs1 => exact ⟨x, rs1, rfl⟩
      subst e2
      obtain ⟨hd, hL⟩ := HL.out
      simp only [List.length_cons] at hL
      have hltz : decide ((ii : Int) < (m : Int)) = true := decide_eq_true (by omega)
      obtain ⟨ha, hb⟩ := HA.out
      obtain ⟨⟨p1, p2⟩, hp, ha⟩ := Option.bind_eq_some_iff.1 ha
      obtain ⟨⟨q1, q2⟩, hq, ha⟩ := Option.bind_eq_some_iff.1 ha
      obtain ⟨e3, e4⟩ := Prod.mk.inj (Option.some.inj ha)
      dsimp only at e3 e4 hq
      subst e3 e4
      clear ha HA
      obtain ⟨⟨s1, s2⟩, hs, ha⟩ := Option.bind_eq_some_iff.1 hq
      clear hq
      obtain ⟨⟨t1, t2⟩, hq, ha⟩ := Option.bind_eq_some_iff.1 ha
      obtain ⟨e3, e4⟩ := Prod.mk.inj (Option.some.inj ha)
      dsimp only at e3 e4 hq
      subst e3 e4
      clear ha
      have hlen1 : (dn ++ x :: y :: rs2).length = 2 * m := by simp; omega
      obtain ⟨Av, cv, oki, hx, hR, hoki, hH⟩ := laws_markWeighingS.elem HO.out (by omega) hlen1 (laws_markWeighingS.get0 hd)
      rw [show 2 * ii = ii * 2 by omega] at hx
      have hlen2 : (dn ++ p2 :: y :: rs2).length = 2 * m := by simp; omega
      replace hlen1 := Aside0.mk hlen1
      replace hlen2 := Aside0.mk hlen2
      have b6 : (0 ≤ (ii : Int)) = True := eq_true (by omega)
      have b7 : ((ii : Int) < (m : Int)) = True := eq_true (by omega)
      have b8 : (ii < m) = True := eq_true hlt
      replace hd := Aside0.mk hd
      replace hb := Aside0.mk hb
      go_wp2_with (first | (go_at_call 26; with_reducible refine (laws_markIntS.calls k oki _ x x1 p1 p2 w0 _ ?sb ?so hp).mono ?_; (case sb => exact HB.out); (case so => exact hR); rintro e w1 ⟨rfl, hR1, hB1, hK1⟩; have hS1 := laws_markWeighingS.back hH hK1 hR1 HK.out; rw [laws_markWeighingS.set0 hd.out] at hS1; have HK1 := Aside0.mk (laws_markWeighingS.kept HK.out hK1 hoki); obtain ⟨Av2, cv2, oki2, hx2, hR2, hoki2, hH2⟩ := laws_markWeighingS.elem hS1 (by omega) hlen2.out (laws_markWeighingS.get1 hd.out); rw [show 2 * ii + 1 = ii * 2 + 1 by omega] at hx2; replace hB1 := Aside0.mk hB1; clear hS1 hH hR hR1 hoki hK1 HB HO HK hx) | (go_at_call 26; with_reducible refine (laws_markIntS.calls k oki2 _ y p1 s1 s2 w0 _ ?sb ?so hs).mono ?_; (case sb => exact hB1.out); (case so => exact hR2); rintro e w2 ⟨rfl, hR3, hB2, hK2⟩))
      have hS3 := laws_markWeighingS.back hH2 hK2 hR3 HK1.out
      rw [laws_markWeighingS.set1 hd.out] at hS3
      have hk1 : ii + 1 ≤ m := hlt
      go_roundg (m - (ii + 1))
      case measure => omega
      case rel => exact ⟨ii + 1, dn ++ [p2, s2], rs2, s1, t2, rfl, by go_num, ⟨by have := hd.out; simp; omega⟩, hk1, by omega, ⟨hq, by simp [hb.out]⟩, ⟨hS3⟩, ⟨laws_markWeighingS.kept HK1.out hK2 hoki2⟩, ⟨hB2⟩⟩
    · have hltz : decide ((ii : Int) < (m : Int)) = false := decide_eq_false (by omega)
      obtain ⟨ha, hb⟩ := HA.out
      obtain ⟨hd, hL⟩ := HL.out
      have hr0 : rs = [] := List.eq_nil_of_length_eq_zero (by omega)
      subst hr0
      simp only [laws_markWeighingS.s, Option.some.injEq, Prod.mk.injEq] at ha
      obtain ⟨rfl, rfl⟩ := ha
      subst hb
      clear HA
      go_wp2
      go_ret
      exact ⟨rfl, HO.out, HB.out, HK.out⟩

/-! ### laws_heldIntS: function 27 -/
def laws_heldIntS.l0 : Nat → List Int → Int → Int → Option (Int)
  | 0, _, _, _ => none
  | k + 1, x0, x1, x5 => if x5 < (x0.length : Int) then (if 0 ≤ x5 then (if (rd x0 x5) = x1 then (laws_heldIntS.l0 k x0 (wrap64 (x1 + 1)) (wrap64 (x5 + 1))) else (some (-1))) else (none)) else (some x1)
def laws_heldIntS.f (k : Nat) (l0 : List Int) (a1 : Int) : Option (Int) := laws_heldIntS.l0 k l0 a1 0
theorem laws_heldIntS.mono_l : ∀ k, (∀ y0 y1 y2, LeO (laws_heldIntS.l0 k y0 y1 y2) (laws_heldIntS.l0 (k + 1) y0 y1 y2))
  | 0 => fun _ _ _ r h => by simp [laws_heldIntS.l0] at h
  | k + 1 => by
    have ih0 := laws_heldIntS.mono_l k
    · intro y0 y1 y2
      unfold laws_heldIntS.l0
      repeat' first
      | (with_reducible exact ih0 _ _ _)
      | (with_reducible exact LeO.refl _)
      | (with_reducible exact LeO.none _)
      | (with_reducible refine LeO.ite ?_ ?_)
      | (with_reducible refine LeO.bind ?_ (fun _ => ?_))
      | exact ih0 _ _ _
      | exact LeO.none _
      | refine LeO.ite ?_ ?_
      | refine LeO.bind ?_ (fun _ => ?_)
theorem laws_heldIntS.mono : ∀ a0 a1 k, LeO (laws_heldIntS.f k a0 a1) (laws_heldIntS.f (k + 1) a0 a1) := by
  intro a0 a1 k
  have ih0 := laws_heldIntS.mono_l k
  unfold laws_heldIntS.f
  repeat' first
      | (with_reducible exact ih0 _ _ _)
      | (with_reducible exact LeO.refl _)
      | (with_reducible exact LeO.none _)
      | (with_reducible refine LeO.ite ?_ ?_)
      | (with_reducible refine LeO.bind ?_ (fun _ => ?_))
      | exact ih0 _ _ _
      | exact LeO.none _
      | refine LeO.ite ?_ ?_
      | refine LeO.bind ?_ (fun _ => ?_)
set_option maxHeartbeats 8000000 in
set_option maxRecDepth 100000 in
theorem laws_heldIntS.calls (k : Nat) (A0 : Option Addr) (c0 : Nat) (l0 : List Int) (a1 : Int) (r : Int) (w : World) (hr0 : Kd.C (Kd.int .i64) w A0 l0.length l0) (hc0 : l0.length ≤ c0) (h : laws_heldIntS.f k l0 a1 = some r) :
    Calls Try.prog 27 #[.slice A0 l0.length c0, .int .i64 a1] w fun e w' => e = .returned (.int .i64 r) ∧ Drawn0 w w' := by
  have HR0 := Aside0.mk hr0
  have HC0 := Aside0.mk hc0
  clear hr0 hc0
  have H : (laws_heldIntS.l0 k l0 a1 0) = some r := h
  clear h
  have H' := Aside0.mk H
  clear H
  go_enter Try.func27, Try.ntmps27
  go_wp2
  go_loopg [1, 5] k (fun kq v1 v5 w' => ∃ (x1_1 : Int) (x5_1 : Int), v1 = .int .i64 x1_1 ∧ v5 = .int .i64 x5_1 ∧ Aside0 (laws_heldIntS.l0 kq l0 x1_1 x5_1 = some r) ∧ Aside0 (kq ≤ k) ∧ Drawn0 w w')
  case atStart => exact ⟨(a1), (0), (by first | rfl | (simp; done) | (simp [*]; done)), (by first | rfl | (simp; done) | (simp [*]; done)), H', ⟨Nat.le_refl _⟩, by repeat (first | exact Drawn0.refl _ | apply Drawn0.step)⟩
  case round =>
    clear H'
    try clear c2
    try clear p2
    obtain ⟨x1_1, x5_1, rfl, rfl, HA, HK1, ⟨m1, rfl⟩⟩ := hrel
    cases gk with
    | zero => exact absurd HA.out (by simp [laws_heldIntS.l0])
    | succ k1 =>
      have H := HA.out
      clear HA
      simp only [laws_heldIntS.l0] at H
      by_cases c3 : x5_1 < (l0.length : Int)
      · rw [if_pos c3] at H
        have c3b0 : decide (x5_1 < (l0.length : Int)) = true := decide_eq_true c3
        clear c3
        by_cases c4 : 0 ≤ x5_1
        · rw [if_pos c4] at H
          have c4b0 : decide (0 ≤ x5_1) = true := decide_eq_true c4
          clear c4
          by_cases c5 : (rd l0 x5_1) = x1_1
          · rw [if_pos c5] at H
            have c5b0 : ((rd l0 x5_1) == x1_1) = true := beq_iff_eq.mpr c5
            have c5b1 : ((rd l0 x5_1) != x1_1) = false := bne_eq_false_iff_eq.mpr c5
            clear c5
            have H' := Aside0.mk H
            clear H
            have p163 : 0 ≤ (x5_1 : Int) := of_decide_eq_true (by first | (with_reducible assumption) | assumption)
            have q163 : x5_1 < (l0.length : Int) := of_decide_eq_true (by first | (with_reducible assumption) | assumption)
            obtain ⟨ad163, e163, hx163_0⟩ := Kd.at_int HR0.out x5_1 p163 q163
            cases e163
            replace p163 := eq_true p163
            replace q163 := eq_true q163
            go_wp2
            go_roundg k1
            case measure => have := HK1.out; omega
            case rel => exact ⟨(wrap64 (x1_1 + 1)), (wrap64 (x5_1 + 1)), (by first | rfl | (simp; done) | (simp [*]; done)), (by first | rfl | (simp; done) | (simp [*]; done)), H', ⟨by have := HK1.out; omega⟩, by repeat (first | exact Drawn0.refl _ | apply Drawn0.step)⟩
          · rw [if_neg c5] at H
            have c5b0 : ((rd l0 x5_1) == x1_1) = false := beq_eq_false_iff_ne.mpr c5
            have c5b1 : ((rd l0 x5_1) != x1_1) = true := bne_iff_ne.mpr c5
            obtain rfl := Option.some.inj H
            have p163 : 0 ≤ (x5_1 : Int) := of_decide_eq_true (by first | (with_reducible assumption) | assumption)
            have q163 : x5_1 < (l0.length : Int) := of_decide_eq_true (by first | (with_reducible assumption) | assumption)
            obtain ⟨ad163, e163, hx163_0⟩ := Kd.at_int HR0.out x5_1 p163 q163
            cases e163
            replace p163 := eq_true p163
            replace q163 := eq_true q163
            go_wp2
            go_ret
            exact ⟨by first | rfl | (simp; done) | (simp [*]; done), by repeat (first | exact Drawn0.refl _ | apply Drawn0.step)⟩
        · rw [if_neg c4] at H
          exact absurd H (by simp)
      · rw [if_neg c3] at H
        have c3b0 : decide (x5_1 < (l0.length : Int)) = false := decide_eq_false c3
        clear c3
        obtain rfl := Option.some.inj H
        go_wp2
        go_ret
        exact ⟨by first | rfl | (simp; done) | (simp [*]; done), by repeat (first | exact Drawn0.refl _ | apply Drawn0.step)⟩

/-! ### laws_heldWeighingS: function 48 -/
def laws_heldWeighingS.l0 : Nat → List (S29) → Int → Int → Option (Int)
  | 0, _, _, _ => none
  | k + 1, x0, x1, x5 => if x5 < (x0.length : Int) then (if 0 ≤ x5 then ((laws_heldIntS.f k ((rd_T29 x0 x5).f0) x1).bind fun t165 => (if t165 < 0 then (some (-1)) else ((laws_heldIntS.f k ((rd_T29 x0 x5).f1) t165).bind fun t167 => (if t167 < 0 then (some (-1)) else (laws_heldWeighingS.l0 k x0 t167 (wrap64 (x5 + 1))))))) else (none)) else (some x1)
def laws_heldWeighingS.f (k : Nat) (l0 : List (S29)) (a1 : Int) : Option (Int) := laws_heldWeighingS.l0 k l0 a1 0
theorem laws_heldWeighingS.mono_l : ∀ k, (∀ y0 y1 y2, LeO (laws_heldWeighingS.l0 k y0 y1 y2) (laws_heldWeighingS.l0 (k + 1) y0 y1 y2))
  | 0 => fun _ _ _ r h => by simp [laws_heldWeighingS.l0] at h
  | k + 1 => by
    have ih0 := laws_heldWeighingS.mono_l k
    · intro y0 y1 y2
      unfold laws_heldWeighingS.l0
      repeat' first
      | (with_reducible exact ih0 _ _ _)
      | (with_reducible exact laws_heldIntS.mono _ _ _)
      | (with_reducible exact LeO.refl _)
      | (with_reducible exact LeO.none _)
      | (with_reducible refine LeO.ite ?_ ?_)
      | (with_reducible refine LeO.bind ?_ (fun _ => ?_))
      | exact ih0 _ _ _
      | exact laws_heldIntS.mono _ _ _
      | exact LeO.none _
      | refine LeO.ite ?_ ?_
      | refine LeO.bind ?_ (fun _ => ?_)
theorem laws_heldWeighingS.mono : ∀ a0 a1 k, LeO (laws_heldWeighingS.f k a0 a1) (laws_heldWeighingS.f (k + 1) a0 a1) := by
  intro a0 a1 k
  have ih0 := laws_heldWeighingS.mono_l k
  unfold laws_heldWeighingS.f
  repeat' first
      | (with_reducible exact ih0 _ _ _)
      | (with_reducible exact laws_heldIntS.mono _ _ _)
      | (with_reducible exact LeO.refl _)
      | (with_reducible exact LeO.none _)
      | (with_reducible refine LeO.ite ?_ ?_)
      | (with_reducible refine LeO.bind ?_ (fun _ => ?_))
      | exact ih0 _ _ _
      | exact laws_heldIntS.mono _ _ _
      | exact LeO.none _
      | refine LeO.ite ?_ ?_
      | refine LeO.bind ?_ (fun _ => ?_)
set_option maxHeartbeats 8000000 in
set_option maxRecDepth 100000 in
theorem laws_heldWeighingS.calls (k : Nat) (A0 : Option Addr) (c0 : Nat) (l0 : List (S29)) (a1 : Int) (r : Int) (w : World) (hr0 : Kd.C k29 w A0 l0.length l0) (hc0 : l0.length ≤ c0) (h : laws_heldWeighingS.f k l0 a1 = some r) :
    Calls Try.prog 48 #[.slice A0 l0.length c0, .int .i64 a1] w fun e w' => e = .returned (.int .i64 r) ∧ Drawn0 w w' := by
  have HR0 := Aside0.mk hr0
  have HC0 := Aside0.mk hc0
  clear hr0 hc0
  have H : (laws_heldWeighingS.l0 k l0 a1 0) = some r := h
  clear h
  have H' := Aside0.mk H
  clear H
  go_enter Try.func48, Try.ntmps48
  go_wp2
  go_loopg [1, 5] k (fun kq v1 v5 w' => ∃ (x1_1 : Int) (x5_1 : Int), v1 = .int .i64 x1_1 ∧ v5 = .int .i64 x5_1 ∧ Aside0 (laws_heldWeighingS.l0 kq l0 x1_1 x5_1 = some r) ∧ Aside0 (kq ≤ k) ∧ Drawn0 w w')
  case atStart => exact ⟨(a1), (0), (by first | rfl | (simp; done) | (simp [*]; done)), (by first | rfl | (simp; done) | (simp [*]; done)), H', ⟨Nat.le_refl _⟩, by repeat (first | exact Drawn0.refl _ | apply Drawn0.step)⟩
  case round =>
    clear H'
    try clear p2
    obtain ⟨x1_1, x5_1, rfl, rfl, HA, HK1, ⟨m1, rfl⟩⟩ := hrel
    cases gk with
    | zero => exact absurd HA.out (by simp [laws_heldWeighingS.l0])
    | succ k1 =>
      have H := HA.out
      clear HA
      simp only [laws_heldWeighingS.l0] at H
      by_cases c3 : x5_1 < (l0.length : Int)
      · rw [if_pos c3] at H
        have c3b0 : decide (x5_1 < (l0.length : Int)) = true := decide_eq_true c3
        clear c3
        by_cases c4 : 0 ≤ x5_1
        · rw [if_pos c4] at H
          have c4b0 : decide (0 ≤ x5_1) = true := decide_eq_true c4
          clear c4
          replace H := Option.bind_eq_some_iff.mp H
          obtain ⟨t165, A50, H⟩ := H
          replace H : (if t165 < 0 then (some (-1)) else ((laws_heldIntS.f k1 ((rd_T29 l0 x5_1).f1) t165).bind fun t167 => (if t167 < 0 then (some (-1)) else (laws_heldWeighingS.l0 k1 l0 t167 (wrap64 (x5_1 + 1)))))) = some r := H
          have A5 := Aside0.mk A50
          clear A50
          by_cases c6 : t165 < 0
          · rw [if_pos c6] at H
            have c6b0 : decide (t165 < 0) = true := decide_eq_true c6
            clear c6
            obtain rfl := Option.some.inj H
            have p164 : 0 ≤ (x5_1 : Int) := of_decide_eq_true (by first | (with_reducible assumption) | assumption)
            have q164 : x5_1 < (l0.length : Int) := of_decide_eq_true (by first | (with_reducible assumption) | assumption)
            obtain ⟨ad164, A164_0, c164_0, A164_1, c164_1, e164, hx164_0, hx164_1, hl164_0, hi164_0, hl164_1, hi164_1⟩ := at_T29 HR0.out x5_1 p164 q164
            cases e164
            have HR164_0 := Aside0.mk hi164_0
            have HC164_0 := Aside0.mk hl164_0
            clear hi164_0 hl164_0
            have HR164_1 := Aside0.mk hi164_1
            have HC164_1 := Aside0.mk hl164_1
            clear hi164_1 hl164_1
            replace p164 := eq_true p164
            replace q164 := eq_true q164
            go_wp2_with (first | ((with_reducible refine gate_callee (f := 27) rfl ?_); refine goesL_ (some 18) rfl rfl Try.func27 (by kernel_rfl) rfl #[.slice A164_0 ((rd_T29 l0 x5_1).f0).length c164_0, .int .i64 x1_1] rfl (by (try simp only [List.map_toArray, List.map_cons, List.map_nil]); first | done | rfl | (simp only [List.length_drop, List.length_take]; rfl)) ?_; (with_reducible refine (laws_heldIntS.calls k1 _ _ ((rd_T29 l0 x5_1).f0) x1_1 t165 _ ?side1 ?side2 A5.out).mono ?_); (case side1 => repeat (first | exact HR164_0.out | (with_reducible refine Kd.C_alloc ?_ _) | (with_reducible refine Kd.C_drewN ?_ _) | (with_reducible refine Kd.C_drew ?_))); (case side2 => exact HC164_0.out); rintro e w' ⟨rfl, ⟨nd, rfl⟩⟩; refine ⟨_, rfl, ?_⟩))
            go_ret
            exact ⟨by first | rfl | (simp; done) | (simp [*]; done), by repeat (first | exact Drawn0.refl _ | apply Drawn0.step)⟩
          · rw [if_neg c6] at H
            have c6b0 : decide (t165 < 0) = false := decide_eq_false c6
            clear c6
            replace H := Option.bind_eq_some_iff.mp H
            obtain ⟨t167, A70, H⟩ := H
            replace H : (if t167 < 0 then (some (-1)) else (laws_heldWeighingS.l0 k1 l0 t167 (wrap64 (x5_1 + 1)))) = some r := H
            have A7 := Aside0.mk A70
            clear A70
            by_cases c8 : t167 < 0
            · rw [if_pos c8] at H
              have c8b0 : decide (t167 < 0) = true := decide_eq_true c8
              clear c8
              obtain rfl := Option.some.inj H
              have p164 : 0 ≤ (x5_1 : Int) := of_decide_eq_true (by first | (with_reducible assumption) | assumption)
              have q164 : x5_1 < (l0.length : Int) := of_decide_eq_true (by first | (with_reducible assumption) | assumption)
              obtain ⟨ad164, A164_0, c164_0, A164_1, c164_1, e164, hx164_0, hx164_1, hl164_0, hi164_0, hl164_1, hi164_1⟩ := at_T29 HR0.out x5_1 p164 q164
              cases e164
              have HR164_0 := Aside0.mk hi164_0
              have HC164_0 := Aside0.mk hl164_0
              clear hi164_0 hl164_0
              have HR164_1 := Aside0.mk hi164_1
              have HC164_1 := Aside0.mk hl164_1
              clear hi164_1 hl164_1
              replace p164 := eq_true p164
              replace q164 := eq_true q164
              go_wp2_with (first | ((with_reducible refine gate_callee (f := 27) rfl ?_); refine goesL_ (some 18) rfl rfl Try.func27 (by kernel_rfl) rfl #[.slice A164_0 ((rd_T29 l0 x5_1).f0).length c164_0, .int .i64 x1_1] rfl (by (try simp only [List.map_toArray, List.map_cons, List.map_nil]); first | done | rfl | (simp only [List.length_drop, List.length_take]; rfl)) ?_; (with_reducible refine (laws_heldIntS.calls k1 _ _ ((rd_T29 l0 x5_1).f0) x1_1 t165 _ ?side1 ?side2 A5.out).mono ?_); (case side1 => repeat (first | exact HR164_0.out | (with_reducible refine Kd.C_alloc ?_ _) | (with_reducible refine Kd.C_drewN ?_ _) | (with_reducible refine Kd.C_drew ?_))); (case side2 => exact HC164_0.out); rintro e w' ⟨rfl, ⟨nd, rfl⟩⟩; refine ⟨_, rfl, ?_⟩; have p166 : 0 ≤ (x5_1 : Int) := of_decide_eq_true (by first | (with_reducible assumption) | assumption); have q166 : x5_1 < (l0.length : Int) := of_decide_eq_true (by first | (with_reducible assumption) | assumption); obtain ⟨ad166, A166_0, c166_0, A166_1, c166_1, e166, hx166_0, hx166_1, hl166_0, hi166_0, hl166_1, hi166_1⟩ := at_T29 HR0.out x5_1 p166 q166; obtain rfl : ad164 = ad166 := (by injection e166); have HR166_0 := Aside0.mk hi166_0; have HC166_0 := Aside0.mk hl166_0; clear hi166_0 hl166_0; have HR166_1 := Aside0.mk hi166_1; have HC166_1 := Aside0.mk hl166_1; clear hi166_1 hl166_1; replace p166 := eq_true p166; replace q166 := eq_true q166; have ea_ := Option.some.inj (hx164_0.symm.trans hx166_0); injection ea_ with ea_ en_ ec_; subst ea_; subst ec_; clear en_; have ea_ := Option.some.inj (hx164_1.symm.trans hx166_1); injection ea_ with ea_ en_ ec_; subst ea_; subst ec_; clear en_) | ((with_reducible refine gate_callee (f := 27) rfl ?_); refine goesL_ (some 27) rfl rfl Try.func27 (by kernel_rfl) rfl #[.slice A164_1 ((rd_T29 l0 x5_1).f1).length c164_1, .int .i64 t165] rfl (by (try simp only [List.map_toArray, List.map_cons, List.map_nil]); first | done | rfl | (simp only [List.length_drop, List.length_take]; rfl)) ?_; (with_reducible refine (laws_heldIntS.calls k1 _ _ ((rd_T29 l0 x5_1).f1) t165 t167 _ ?side1 ?side2 A7.out).mono ?_); (case side1 => repeat (first | exact HR166_1.out | (with_reducible refine Kd.C_alloc ?_ _) | (with_reducible refine Kd.C_drewN ?_ _) | (with_reducible refine Kd.C_drew ?_))); (case side2 => exact HC166_1.out); rintro e w' ⟨rfl, ⟨nd, rfl⟩⟩; refine ⟨_, rfl, ?_⟩))
              go_ret
              exact ⟨by first | rfl | (simp; done) | (simp [*]; done), by repeat (first | exact Drawn0.refl _ | apply Drawn0.step)⟩
            · rw [if_neg c8] at H
              have c8b0 : decide (t167 < 0) = false := decide_eq_false c8
              clear c8
              have H' := Aside0.mk H
              clear H
              have p164 : 0 ≤ (x5_1 : Int) := of_decide_eq_true (by first | (with_reducible assumption) | assumption)
              have q164 : x5_1 < (l0.length : Int) := of_decide_eq_true (by first | (with_reducible assumption) | assumption)
              obtain ⟨ad164, A164_0, c164_0, A164_1, c164_1, e164, hx164_0, hx164_1, hl164_0, hi164_0, hl164_1, hi164_1⟩ := at_T29 HR0.out x5_1 p164 q164
              cases e164
              have HR164_0 := Aside0.mk hi164_0
              have HC164_0 := Aside0.mk hl164_0
              clear hi164_0 hl164_0
              have HR164_1 := Aside0.mk hi164_1
              have HC164_1 := Aside0.mk hl164_1
              clear hi164_1 hl164_1
              replace p164 := eq_true p164
              replace q164 := eq_true q164
              go_wp2_with (first | ((with_reducible refine gate_callee (f := 27) rfl ?_); refine goesL_ (some 18) rfl rfl Try.func27 (by kernel_rfl) rfl #[.slice A164_0 ((rd_T29 l0 x5_1).f0).length c164_0, .int .i64 x1_1] rfl (by (try simp only [List.map_toArray, List.map_cons, List.map_nil]); first | done | rfl | (simp only [List.length_drop, List.length_take]; rfl)) ?_; (with_reducible refine (laws_heldIntS.calls k1 _ _ ((rd_T29 l0 x5_1).f0) x1_1 t165 _ ?side1 ?side2 A5.out).mono ?_); (case side1 => repeat (first | exact HR164_0.out | (with_reducible refine Kd.C_alloc ?_ _) | (with_reducible refine Kd.C_drewN ?_ _) | (with_reducible refine Kd.C_drew ?_))); (case side2 => exact HC164_0.out); rintro e w' ⟨rfl, ⟨nd, rfl⟩⟩; refine ⟨_, rfl, ?_⟩; have p166 : 0 ≤ (x5_1 : Int) := of_decide_eq_true (by first | (with_reducible assumption) | assumption); have q166 : x5_1 < (l0.length : Int) := of_decide_eq_true (by first | (with_reducible assumption) | assumption); obtain ⟨ad166, A166_0, c166_0, A166_1, c166_1, e166, hx166_0, hx166_1, hl166_0, hi166_0, hl166_1, hi166_1⟩ := at_T29 HR0.out x5_1 p166 q166; obtain rfl : ad164 = ad166 := (by injection e166); have HR166_0 := Aside0.mk hi166_0; have HC166_0 := Aside0.mk hl166_0; clear hi166_0 hl166_0; have HR166_1 := Aside0.mk hi166_1; have HC166_1 := Aside0.mk hl166_1; clear hi166_1 hl166_1; replace p166 := eq_true p166; replace q166 := eq_true q166; have ea_ := Option.some.inj (hx164_0.symm.trans hx166_0); injection ea_ with ea_ en_ ec_; subst ea_; subst ec_; clear en_; have ea_ := Option.some.inj (hx164_1.symm.trans hx166_1); injection ea_ with ea_ en_ ec_; subst ea_; subst ec_; clear en_) | ((with_reducible refine gate_callee (f := 27) rfl ?_); refine goesL_ (some 27) rfl rfl Try.func27 (by kernel_rfl) rfl #[.slice A164_1 ((rd_T29 l0 x5_1).f1).length c164_1, .int .i64 t165] rfl (by (try simp only [List.map_toArray, List.map_cons, List.map_nil]); first | done | rfl | (simp only [List.length_drop, List.length_take]; rfl)) ?_; (with_reducible refine (laws_heldIntS.calls k1 _ _ ((rd_T29 l0 x5_1).f1) t165 t167 _ ?side1 ?side2 A7.out).mono ?_); (case side1 => repeat (first | exact HR166_1.out | (with_reducible refine Kd.C_alloc ?_ _) | (with_reducible refine Kd.C_drewN ?_ _) | (with_reducible refine Kd.C_drew ?_))); (case side2 => exact HC166_1.out); rintro e w' ⟨rfl, ⟨nd, rfl⟩⟩; refine ⟨_, rfl, ?_⟩))
              go_roundg k1
              case measure => have := HK1.out; omega
              case rel => exact ⟨(t167), (wrap64 (x5_1 + 1)), (by first | rfl | (simp; done) | (simp [*]; done)), (by first | rfl | (simp; done) | (simp [*]; done)), H', ⟨by have := HK1.out; omega⟩, by repeat (first | exact Drawn0.refl _ | apply Drawn0.step)⟩
        · rw [if_neg c4] at H
          exact absurd H (by simp)
      · rw [if_neg c3] at H
        have c3b0 : decide (x5_1 < (l0.length : Int)) = false := decide_eq_false c3
        clear c3
        obtain rfl := Option.some.inj H
        go_wp2
        go_ret
        exact ⟨by first | rfl | (simp; done) | (simp [*]; done), by repeat (first | exact Drawn0.refl _ | apply Drawn0.step)⟩

/-! ### laws_FnExactWeighingsOf: function 9 -/
theorem laws_FnExactWeighingsOf.F_lower {w : World} {b b' : Nat} {v : Value} {xs : List S29} (h : impl_WeighingsOf.Flat w b v xs) (hb : b' ≤ b) : impl_WeighingsOf.Flat w b' v xs := by
  rcases h with h | ⟨g, m, rs, h1, h2, h3, h4⟩
  · exact .inl h
  · exact .inr ⟨g, m, rs, h1, h2, h3, Kd.S_mono (Kd.S_lower h4 hb) (fun _ hk => Nat.le_trans hb hk)⟩
theorem laws_FnExactWeighingsOf.F_below {w w1 : World} {b : Nat} {v : Value} {xs : List S29} (h : impl_WeighingsOf.Flat w b v xs) (hb : Below w.heap.size w w1) : impl_WeighingsOf.Flat w1 b v xs := by
  rcases h with h | ⟨g, m, rs, h1, h2, h3, h4⟩
  · exact .inl h
  · exact .inr ⟨g, m, rs, h1, h2, h3, Kd.S_below h4 hb⟩
theorem laws_FnExactWeighingsOf.F_alloc {w : World} {b : Nat} {v : Value} {xs : List S29} (h : impl_WeighingsOf.Flat w b v xs) (o : Obj) : impl_WeighingsOf.Flat (w.alloc o) b v xs := laws_FnExactWeighingsOf.F_below h (below_alloc (Below.refl _ _) o)
theorem laws_FnExactWeighingsOf.F_drew {w : World} {b : Nat} {v : Value} {xs : List S29} (h : impl_WeighingsOf.Flat w b v xs) : impl_WeighingsOf.Flat w.drew b v xs := laws_FnExactWeighingsOf.F_below h (below_drew (Below.refl _ _))
theorem laws_FnExactWeighingsOf.F_drewN {w : World} {b : Nat} {v : Value} {xs : List S29} (h : impl_WeighingsOf.Flat w b v xs) (m : Nat) : impl_WeighingsOf.Flat (w.drewN m) b v xs := laws_FnExactWeighingsOf.F_below h (pw_below_drewN (Below.refl _ _) m)
theorem laws_FnExactWeighingsOf.F_kept {w w1 : World} {b : Nat} {P : Nat → Prop} {v : Value} {xs : List S29} (h : impl_WeighingsOf.Flat w b v xs) (hk : Kept w w1 P) (hP : ∀ k, P k → k < b) : impl_WeighingsOf.Flat w1 b v xs := by
  rcases h with h | ⟨g, m, rs, h1, h2, h3, h4⟩
  · exact .inl h
  · exact .inr ⟨g, m, rs, h1, h2, h3, Kd.S_kept h4 hk (fun k hk2 hp => absurd (hP k hp) (Nat.not_lt.2 hk2))⟩
theorem laws_FnExactWeighingsOf.F_S {w : World} {b : Nat} {v : Value} {xs : List S29} (h : impl_WeighingsOf.Flat w b v xs) : Kd.S k29 29 w b (fun _ => True) v xs := by
  rcases h with ⟨rfl, rfl⟩ | ⟨g, m, rs, rfl, rfl, hl, hS⟩
  · exact Kd.S_nil _ _ _ _ _
  · exact impl_WeighingsOf.flatK hl hS
theorem laws_FnExactWeighingsOf.flatP (rs : List (List Int)) : ∀ (d i m : Nat), i + d = m → rs.length = 2 * m → laws_markWeighingS.flat ((List.range' i d).map (fun i => (⟨rs.getD (2 * i) [], rs.getD (2 * i + 1) []⟩ : S29))) = rs.drop (2 * i)
  | 0, i, m, h, hl => by rw [List.drop_eq_nil_of_le (by omega)]; rfl
  | d + 1, i, m, h, hl => by
    have h0 : 2 * i < rs.length := by omega
    have h1 : 2 * i + 1 < rs.length := by omega
    rw [List.range'_succ, List.map_cons, laws_markWeighingS.flat, laws_FnExactWeighingsOf.flatP rs d (i + 1) m (by omega) hl, List.drop_eq_getElem_cons h0, List.drop_eq_getElem_cons h1]
    simp [List.getD_eq_getElem?_getD, List.getElem?_eq_getElem h0, List.getElem?_eq_getElem h1, show 2 * (i + 1) = 2 * i + 1 + 1 by omega]
theorem laws_FnExactWeighingsOf.flatPairs (rs : List (List Int)) (m : Nat) (hl : rs.length = 2 * m) : laws_markWeighingS.flat (impl_WeighingsOf.pairs rs m) = rs := by
  have := laws_FnExactWeighingsOf.flatP rs m 0 m (by omega) hl
  rwa [← List.range_eq_range', Nat.mul_zero, List.drop_zero] at this
theorem laws_FnExactWeighingsOf.pairsLen (rs : List (List Int)) (m : Nat) : (impl_WeighingsOf.pairs rs m).length = m := by simp [impl_WeighingsOf.pairs]
theorem laws_FnExactWeighingsOf.tight {w : World} {b : Nat} {v : Value} {xs : List (List Int)} {ok : Nat → Prop} (h : Kd.S (Kd.slice 3 (Kd.int .i64)) 22 w b ok v xs) : Kd.S (Kd.slice 3 (Kd.int .i64)) 22 w b (fun k => k < w.heap.size) v xs := Kd.S_mono (Kd.S_bound h) (fun _ hk => hk.2.2.1)
theorem laws_FnExactWeighingsOf.atN {w w1 : World} {nd : Nat} {ok : Nat → Prop} {v : Value} {xs : List (List Int)} (h : Kd.S (Kd.slice 3 (Kd.int .i64)) 22 w1 (w.drewN nd).heap.size ok v xs) : Kd.S (Kd.slice 3 (Kd.int .i64)) 22 w1 w.heap.size ok v xs := h
theorem laws_FnExactWeighingsOf.bAtN {w w1 : World} {nd : Nat} (h : Below (w.drewN nd).heap.size (w.drewN nd) w1) : Below w.heap.size w w1 := below_step (pw_below_drewN (Below.refl _ _) nd) h
set_option maxHeartbeats 8000000 in
set_option maxRecDepth 100000 in
theorem laws_FnExactWeighingsOf.mark0 (a1 : Int) (w : World) : Calls Try.prog 47 #[.slice none 0 0, .int .i64 a1] w fun e w' => e = .returned (.int .i64 a1) ∧ Below w.heap.size w w' := by
  have HB := Aside0.mk (Below.refl w.heap.size w)
  go_enter Try.func47, Try.ntmps47
  go_wp2
  go_loopg [1, 5] 0 (fun kq v1 v5 w' => v1 = .int .i64 a1 ∧ v5 = .int .i64 0 ∧ Aside0 (Below w.heap.size w w'))
  case atStart => exact ⟨rfl, rfl, HB⟩
  case round =>
    clear HB
    obtain ⟨rfl, rfl, HB⟩ := hrel
    have hltz : decide ((0 : Int) < 0) = false := by decide
    have hltz2 : decide ((0 : Int) < ((0 : Nat) : Int)) = false := by decide
    go_wp2
    go_ret
    exact ⟨rfl, HB.out⟩
theorem laws_FnExactWeighingsOf.mark (k : Nat) (v : Value) (gs : List S29) (a1 r1 : Int) (r2 : List (List Int)) (w0 w : World) (hB : Below w0.heap.size w0 w) (hF : impl_WeighingsOf.Flat w w0.heap.size v gs) (h : laws_markWeighingS.s k (laws_markWeighingS.flat gs) a1 = some (r1, r2)) :
    Calls Try.prog 47 #[v, .int .i64 a1] w fun e w' => e = .returned (.int .i64 r1) ∧ impl_WeighingsOf.Flat w' w0.heap.size v (impl_WeighingsOf.pairs r2 gs.length) ∧ Below w0.heap.size w0 w' := by
  rcases hF with ⟨rfl, rfl⟩ | ⟨g, m, rs, rfl, rfl, hl, hS⟩
  · simp only [laws_markWeighingS.flat, laws_markWeighingS.s, Option.some.injEq, Prod.mk.injEq] at h
    obtain ⟨rfl, rfl⟩ := h
    refine (laws_FnExactWeighingsOf.mark0 a1 w).mono ?_
    rintro e w' ⟨rfl, hb⟩
    exact ⟨rfl, .inl ⟨rfl, rfl⟩, below_step hB hb⟩
  · rw [laws_FnExactWeighingsOf.flatPairs rs m hl] at h
    refine (laws_markWeighingS.calls0 k _ g m rs a1 r1 r2 w0 w hB hl hS h).mono ?_
    rintro e w' ⟨rfl, hS2, hb, _⟩
    refine ⟨rfl, .inr ⟨g, m, r2, rfl, by rw [laws_FnExactWeighingsOf.pairsLen], (Kd.S_reads' hS2).1.symm, Kd.S_mono hS2 (fun k hk => hk.elim id (fun h2 => Nat.le_trans hB.size h2))⟩, hb⟩
def laws_FnExactWeighingsOf.f (k : Nat) (l0 : List (List Int)) : Option Bool := (laws_szIntSS.f k l0 1048576).bind fun left => if left < 0 then some true else (laws_toIntSS.f k l0).bind fun x => (spec_WeighingsOf.f k x).bind fun ws => (impl_WeighingsOf.f k x).bind fun gs => if gs.2 = ws.2 then (laws_eqWeighingS.f k gs.1 ws.1).bind fun t => if t = true then (laws_eqIntSS.f k x x).bind fun t2 => if t2 = true then (laws_markIntSS.f k x 1).bind fun k1 => if 0 ≤ k1 then (laws_markWeighingS.s k (laws_markWeighingS.flat gs.1) 1).bind fun p => (laws_heldWeighingS.f k (impl_WeighingsOf.pairs p.2 gs.1.length) 1).bind fun q => if 0 ≤ q ∧ q = p.1 then some true else none else none else none else none else none
theorem laws_FnExactWeighingsOf.mono : ∀ a0 k, LeO (laws_FnExactWeighingsOf.f k a0) (laws_FnExactWeighingsOf.f (k + 1) a0) := fun l k => LeO.bind (laws_szIntSS.mono _ _ k) (fun left => LeO.ite (LeO.refl _) (LeO.bind (laws_toIntSS.mono _ k) (fun x => LeO.bind (spec_WeighingsOf.mono _ k) (fun ws => LeO.bind (impl_WeighingsOf.mono _ k) (fun gs => LeO.ite (LeO.bind (laws_eqWeighingS.mono _ _ k) (fun t => LeO.ite (LeO.bind (laws_eqIntSS.mono _ _ k) (fun t2 => LeO.ite (LeO.bind (laws_markIntSS.mono _ _ k) (fun k1 => LeO.ite (LeO.bind (laws_markWeighingS.s_mono k _ 1) (fun p => LeO.bind (laws_heldWeighingS.mono _ _ k) (fun q => LeO.refl _))) (LeO.refl _))) (LeO.refl _))) (LeO.refl _))) (LeO.refl _))))))
set_option maxHeartbeats 8000000 in
set_option maxRecDepth 100000 in
theorem laws_FnExactWeighingsOf.calls (k : Nat) (A0 : Option Addr) (c0 : Nat) (l0 : List (List Int)) (r : Bool) (w : World) (hr0 : Kd.C (Kd.slice 3 (Kd.int .i64)) w A0 l0.length l0) (hc0 : l0.length ≤ c0) (h : laws_FnExactWeighingsOf.f k l0 = some r) :
    Calls Try.prog 9 #[.slice A0 l0.length c0] w fun e w' => e = .returned (.bool r) ∧ Below w.heap.size w w' := by
  unfold laws_FnExactWeighingsOf.f at h
  obtain ⟨left, hsz, h1⟩ := Option.bind_eq_some_iff.1 h
  clear h
  replace hsz := Aside0.mk hsz
  have HR0 := Aside0.mk hr0
  have HC0 := Aside0.mk hc0
  clear hr0 hc0
  by_cases hneg : left < 0
  · rw [if_pos hneg] at h1
    obtain rfl := Option.some.inj h1
    clear h1
    have hnb : decide (left < 0) = true := decide_eq_true hneg
    clear hneg
    go_enter Try.func9, Try.ntmps9
    go_wp2_with (first | (go_at_call 20; with_reducible refine (laws_szIntSS.calls k A0 c0 l0 1048576 left _ (by with_reducible repeat (first | exact HR0.out | refine Kd.C_alloc ?_ _ | refine Kd.C_drewN ?_ _ | refine Kd.C_drew ?_)) HC0.out hsz.out).mono ?_; rintro e w9000 ⟨rfl, ⟨nd0, rfl⟩⟩; clear hsz))
    go_ret
    exact ⟨by first | rfl | simp, (by repeat (first | (with_reducible first | exact (Below.refl _ _) | apply below_alloc | apply pw_below_drewN | apply below_drew1) | exact (Below.refl _ _)))⟩
  · rw [if_neg hneg] at h1
    have hnb : decide (left < 0) = false := decide_eq_false hneg
    clear hneg
    obtain ⟨x, hto, h⟩ := Option.bind_eq_some_iff.1 h1
    clear h1
    obtain ⟨⟨ws, wf⟩, hsp, h1⟩ := Option.bind_eq_some_iff.1 h
    clear h
    obtain ⟨⟨gs, gf⟩, him, h⟩ := Option.bind_eq_some_iff.1 h1
    clear h1
    dsimp only at h
    by_cases hf : gf = wf
    · rw [if_pos hf] at h
      subst hf
      obtain ⟨t, heq, h1⟩ := Option.bind_eq_some_iff.1 h
      clear h
      by_cases ht : t = true
      · rw [if_pos ht] at h1
        subst ht
        obtain ⟨t2, hex, h⟩ := Option.bind_eq_some_iff.1 h1
        clear h1
        by_cases ht2 : t2 = true
        · rw [if_pos ht2] at h
          subst ht2
          obtain ⟨k1, hmx, h1⟩ := Option.bind_eq_some_iff.1 h
          clear h
          by_cases hk1 : 0 ≤ k1
          · rw [if_pos hk1] at h1
            have hk1b : decide (k1 < 0) = false := decide_eq_false (by omega)
            clear hk1
            obtain ⟨⟨m, rs⟩, hmk, h⟩ := Option.bind_eq_some_iff.1 h1
            clear h1
            obtain ⟨q, hhd, h1⟩ := Option.bind_eq_some_iff.1 h
            clear h
            dsimp only at hhd h1
            by_cases hq : 0 ≤ q ∧ q = m
            · rw [if_pos hq] at h1
              obtain rfl := Option.some.inj h1
              obtain ⟨hq0, rfl⟩ := hq
              have hqb : decide (q < 0) = false := decide_eq_false (by omega)
              have hqe : (q != q) = false := by simp
              have hfe : (gf != gf) = false := by simp
              clear h1 hq0
              have hN1 : True := trivial
              replace hto := Aside0.mk hto
              replace hsp := Aside0.mk hsp
              replace him := Aside0.mk him
              replace heq := Aside0.mk heq
              replace hex := Aside0.mk hex
              replace hmx := Aside0.mk hmx
              replace hmk := Aside0.mk hmk
              go_enter Try.func9, Try.ntmps9
              go_wp2_with (first | (go_at_call 20; with_reducible refine (laws_szIntSS.calls k A0 c0 l0 1048576 left _ (by with_reducible repeat (first | exact HR0.out | refine Kd.C_alloc ?_ _ | refine Kd.C_drewN ?_ _ | refine Kd.C_drew ?_)) HC0.out hsz.out).mono ?_; rintro e w9000 ⟨rfl, ⟨nd0, rfl⟩⟩; clear hsz) | (go_at_call 22; with_reducible refine (laws_toIntSS.calls k A0 c0 l0 x _ (by with_reducible repeat (first | exact HR0.out | refine Kd.C_alloc ?_ _ | refine Kd.C_drewN ?_ _ | refine Kd.C_drew ?_)) HC0.out hto.out).mono ?_; rintro e w1 ⟨v1, rfl, HX1, HB1⟩; obtain ⟨Ax1, cx1, rfl⟩ := Kd.S_slice HX1; replace HB1 := Aside0.mk (laws_FnExactWeighingsOf.bAtN HB1); replace HX1 := Aside0.mk HX1; clear hN1) | (go_at_call 44; with_reducible refine (spec_WeighingsOf.calls k Ax1 cx1 x ws gf w1 (Kd.S_reads' HX1.out).2.2 (Kd.S_reads' HX1.out).2.1 hsp.out).mono ?_; rintro e w2 ⟨v2, rfl, HS2, HB2⟩; obtain ⟨Aw, cw, rfl⟩ := Kd.S_slice HS2; replace HB2 := Aside0.mk (below_step HB1.out HB2); replace HS2 := Aside0.mk HS2; have HR2 := Aside0.mk (Kd.C_below HR0.out HB2.out); clear HR0 HX1 HB1 hsp) | (go_at_call 22; with_reducible refine (laws_toIntSS.calls k A0 c0 l0 x w2 HR2.out HC0.out hto.out).mono ?_; rintro e w3 ⟨v3, rfl, HX3, HB3⟩; obtain ⟨Ax, cx, rfl⟩ := Kd.S_slice HX3; replace HB3 := Aside0.mk HB3; replace HX3 := Aside0.mk (laws_FnExactWeighingsOf.tight HX3)) | (go_at_call 45; with_reducible refine (impl_WeighingsOf.calls0 k Ax cx x gs gf w3 (Kd.S_reads' HX3.out).2.2 (Kd.S_reads' HX3.out).2.1 him.out).mono ?_; rintro e w4 ⟨v4, rfl, HF4, HB4⟩; obtain ⟨Ag, cg, rfl⟩ := Kd.S_slice (laws_FnExactWeighingsOf.F_S HF4); have HX4 := Aside0.mk (Kd.S_below HX3.out HB4); replace HB4 := Aside0.mk (below_step HB3.out HB4); replace HF4 := Aside0.mk HF4; have HS4 := Aside0.mk (Kd.S_below HS2.out HB4.out); clear HX3) | (go_at_call 46; with_reducible refine (laws_eqWeighingS.calls k Ag cg gs Aw cw ws true w4 (Kd.S_reads' (laws_FnExactWeighingsOf.F_S HF4.out)).2.2 (Kd.S_reads' (laws_FnExactWeighingsOf.F_S HF4.out)).2.1 (Kd.S_reads' HS4.out).2.2 (Kd.S_reads' HS4.out).2.1 heq.out).mono ?_; rintro e w5 ⟨rfl, HB5⟩; have HX5 := Aside0.mk (Kd.S_below HX4.out HB5); have HF5 := Aside0.mk (laws_FnExactWeighingsOf.F_below HF4.out HB5); replace HB5 := Aside0.mk (below_step HB4.out HB5); clear HX4 HF4 HB4 HS4) | (go_at_call 22; with_reducible refine (laws_toIntSS.calls k A0 c0 l0 x _ (Kd.C_below HR2.out (by repeat (first | (with_reducible first | exact HB5.out | apply below_alloc | apply pw_below_drewN | apply below_drew1) | exact HB5.out))) HC0.out hto.out).mono ?_; rintro e w6 ⟨v6, rfl, HY6, HB6⟩; obtain ⟨Ay, cy, rfl⟩ := Kd.S_slice HY6; have HX6 := Aside0.mk (Kd.S_below (by with_reducible repeat (first | exact HX5.out | apply Kd.S_alloc | apply Kd.S_drewN | apply Kd.S_drew)) HB6); have HF6 := Aside0.mk (laws_FnExactWeighingsOf.F_below (by with_reducible repeat (first | exact HF5.out | apply laws_FnExactWeighingsOf.F_alloc | apply laws_FnExactWeighingsOf.F_drewN | apply laws_FnExactWeighingsOf.F_drew)) HB6); replace HB6 := Aside0.mk (below_step (by repeat (first | (with_reducible first | exact HB5.out | apply below_alloc | apply pw_below_drewN | apply below_drew1) | exact HB5.out)) HB6); replace HY6 := Aside0.mk HY6; clear HX5 HF5 HB5) | (go_at_call 24; with_reducible refine (laws_eqIntSS.calls k Ax cx x Ay cy x true _ (by with_reducible repeat (first | exact (Kd.S_reads' HX6.out).2.2 | refine Kd.C_alloc ?_ _ | refine Kd.C_drewN ?_ _ | refine Kd.C_drew ?_)) (Kd.S_reads' HX6.out).2.1 (by with_reducible repeat (first | exact (Kd.S_reads' HY6.out).2.2 | refine Kd.C_alloc ?_ _ | refine Kd.C_drewN ?_ _ | refine Kd.C_drew ?_)) (Kd.S_reads' HY6.out).2.1 hex.out).mono ?_; rintro e w9001 ⟨rfl, ⟨nd1, rfl⟩⟩; clear HY6) | (go_at_call 25; with_reducible refine (laws_markIntSS.calls1 k _ _ x 1 k1 w2 _ (by repeat (first | (with_reducible first | exact HB6.out | apply below_alloc | apply pw_below_drewN | apply below_drew1) | exact HB6.out)) (by with_reducible repeat (first | exact HX6.out | apply Kd.S_alloc | apply Kd.S_drewN | apply Kd.S_drew)) hmx.out).mono ?_; rintro e w7 ⟨rfl, HB7, HK7⟩; have HF7 := Aside0.mk (laws_FnExactWeighingsOf.F_kept (by with_reducible repeat (first | exact HF6.out | apply laws_FnExactWeighingsOf.F_alloc | apply laws_FnExactWeighingsOf.F_drewN | apply laws_FnExactWeighingsOf.F_drew)) HK7 (fun k_ hk_ => hk_)); replace HB7 := Aside0.mk HB7; have HS7 := Aside0.mk (Kd.S_below HS2.out HB7.out); clear HX6 HF6 HB6 HK7 hmx) | (go_at_call 46; with_reducible refine (laws_eqWeighingS.calls k Ag cg gs Aw cw ws true w7 (Kd.S_reads' (laws_FnExactWeighingsOf.F_S HF7.out)).2.2 (Kd.S_reads' (laws_FnExactWeighingsOf.F_S HF7.out)).2.1 (Kd.S_reads' HS7.out).2.2 (Kd.S_reads' HS7.out).2.1 heq.out).mono ?_; rintro e w8 ⟨rfl, HB8⟩; have HF8 := Aside0.mk (laws_FnExactWeighingsOf.F_lower (laws_FnExactWeighingsOf.F_below HF7.out HB8) HB3.out.size); replace HB8 := Aside0.mk (below_step HB7.out HB8); clear HF7 HB7 HS7 HB3) | (go_at_call 47; with_reducible refine (laws_FnExactWeighingsOf.mark k _ gs 1 q rs w2 _ (by repeat (first | (with_reducible first | exact HB8.out | apply below_alloc | apply pw_below_drewN | apply below_drew1) | exact HB8.out)) (by with_reducible repeat (first | exact HF8.out | apply laws_FnExactWeighingsOf.F_alloc | apply laws_FnExactWeighingsOf.F_drewN | apply laws_FnExactWeighingsOf.F_drew)) hmk.out).mono ?_; rintro e w9 ⟨rfl, HF9, HB9⟩; generalize hps : impl_WeighingsOf.pairs rs gs.length = ps at HF9; rw [hps] at hhd; have hlen := Aside0.mk (show gs.length = ps.length from (Kd.S_reads' (laws_FnExactWeighingsOf.F_S HF9)).1); replace HF9 := Aside0.mk HF9; replace HB9 := Aside0.mk HB9; replace hhd := Aside0.mk hhd; clear hps HF8 HB8 hmk) | (go_at_call 48; refine calls_of_args (args' := #[.slice Ag ps.length cg, .int .i64 1]) (by rw [← hlen.out]) ?_; with_reducible refine (laws_heldWeighingS.calls k Ag cg ps 1 q _ (by with_reducible repeat (first | exact (Kd.S_reads' (laws_FnExactWeighingsOf.F_S HF9.out)).2.2 | refine Kd.C_alloc ?_ _ | refine Kd.C_drewN ?_ _ | refine Kd.C_drew ?_)) (by rw [← hlen.out]; exact (Kd.S_reads' (laws_FnExactWeighingsOf.F_S HF9.out)).2.1) hhd.out).mono ?_; rintro e w9002 ⟨rfl, ⟨nd2, rfl⟩⟩) | (go_at_call 22; with_reducible refine (laws_toIntSS.calls k A0 c0 l0 x _ (Kd.C_below HR2.out (by repeat (first | (with_reducible first | exact HB9.out | apply below_alloc | apply pw_below_drewN | apply below_drew1) | exact HB9.out))) HC0.out hto.out).mono ?_; rintro e w10 ⟨v10, rfl, HY10, HB10⟩; obtain ⟨Az, cz, rfl⟩ := Kd.S_slice HY10; have HF10 := Aside0.mk (laws_FnExactWeighingsOf.F_below (by with_reducible repeat (first | exact HF9.out | apply laws_FnExactWeighingsOf.F_alloc | apply laws_FnExactWeighingsOf.F_drewN | apply laws_FnExactWeighingsOf.F_drew)) HB10); replace HB10 := Aside0.mk (below_step (by repeat (first | (with_reducible first | exact HB9.out | apply below_alloc | apply pw_below_drewN | apply below_drew1) | exact HB9.out)) HB10); replace HY10 := Aside0.mk HY10; clear HF9 HB9) | (go_at_call 45; with_reducible refine (impl_WeighingsOf.calls k Az cz x gs gf w10 (Kd.S_reads' HY10.out).2.2 (Kd.S_reads' HY10.out).2.1 him.out).mono ?_; rintro e w11 ⟨v11, rfl, HH11, HB11⟩; obtain ⟨Ah, ch, rfl⟩ := Kd.S_slice HH11; have HF11 := Aside0.mk (laws_FnExactWeighingsOf.F_below HF10.out HB11); replace HB11 := Aside0.mk (below_step HB10.out HB11); replace HH11 := Aside0.mk HH11; have HS11 := Aside0.mk (Kd.S_below HS2.out HB11.out); clear HF10 HB10 HY10) | (go_at_call 46; with_reducible refine (laws_eqWeighingS.calls k Ah ch gs Aw cw ws true w11 (Kd.S_reads' HH11.out).2.2 (Kd.S_reads' HH11.out).2.1 (Kd.S_reads' HS11.out).2.2 (Kd.S_reads' HS11.out).2.1 heq.out).mono ?_; rintro e w12 ⟨rfl, HB12⟩; have HF12 := Aside0.mk (laws_FnExactWeighingsOf.F_below HF11.out HB12); replace HB12 := Aside0.mk (below_step HB11.out HB12); clear HF11 HB11 HS11 HH11) | (go_at_call 48; refine calls_of_args (args' := #[.slice Ag ps.length cg, .int .i64 1]) (by rw [← hlen.out]) ?_; with_reducible refine (laws_heldWeighingS.calls k Ag cg ps 1 q _ (by with_reducible repeat (first | exact (Kd.S_reads' (laws_FnExactWeighingsOf.F_S HF12.out)).2.2 | refine Kd.C_alloc ?_ _ | refine Kd.C_drewN ?_ _ | refine Kd.C_drew ?_)) (by rw [← hlen.out]; exact (Kd.S_reads' (laws_FnExactWeighingsOf.F_S HF12.out)).2.1) hhd.out).mono ?_; rintro e w9003 ⟨rfl, ⟨nd3, rfl⟩⟩))
              go_ret
              exact ⟨by first | rfl | simp, (by repeat (first | (with_reducible first | exact (HB2.out.trans (HB12.out.mono (HB2.out.size))) | apply below_alloc | apply pw_below_drewN | apply below_drew1) | exact (HB2.out.trans (HB12.out.mono (HB2.out.size)))))⟩
            · rw [if_neg hq] at h1
              exact absurd h1 (by simp)
          · rw [if_neg hk1] at h1
            exact absurd h1 (by simp)
        · rw [if_neg ht2] at h
          exact absurd h (by simp)
      · rw [if_neg ht] at h1
        exact absurd h1 (by simp)
    · rw [if_neg hf] at h
      exact absurd h (by simp)

end Go.Proofs.Ytffohdlbkigehaa.HFnExactWeighingsOf
