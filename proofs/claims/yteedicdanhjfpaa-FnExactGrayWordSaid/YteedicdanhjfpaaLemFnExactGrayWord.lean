/- Lemmas: what each function that this statement reaches computes. -/
import Derived.Test.YteedicdanhjfpaaPFnExactGrayWordx2
import Derived.Test.YteedicdanhjfpaaBase
import Derived.Test.YteedicdanhjfpaaGrayM
set_option linter.unusedVariables false
set_option linter.unusedSimpArgs false
namespace Go.Proofs.Yteedicdanhjfpaa.LemFnExactGrayWord
open Go.RowKit Go.Proofs.YteedicdanhjfpaaW.PrintWords Go.Proofs.YteedicdanhjfpaaW.PrintLast Go.Proofs.YteedicdanhjfpaaW.PrintMore Go.Proofs.Yteedicdanhjfpaa.PFnExactGrayWord Go.Proofs.Yteedicdanhjfpaa.Base

theorem laws_eqIntS_l (x0 x1 : List Int) (hl : x0.length = x1.length) (hn : x0.length ≤ 35184372088832) : ∀ (d i : Nat), i + d = x0.length → Ev (fun k => laws_eqIntS.l0 k x0 x1 i) (decide (x0.drop i = x1.drop i)) := by
  intro d
  induction d with
  | zero =>
    intro i hi
    apply Ev.succ
    simp only [laws_eqIntS.l0.eq_2]
    refine Ev.neg (by omega) (Ev.ret ?_)
    rw [List.drop_eq_nil_of_le (by omega), List.drop_eq_nil_of_le (by omega)]; simp
  | succ d ih =>
    intro i hi
    apply Ev.succ
    simp only [laws_eqIntS.l0.eq_2]
    refine Ev.pos (by omega) (Ev.pos (by omega) (Ev.pos (by omega) ?_))
    rw [rd_get x0 i (by omega), rd_get x1 i (by omega), drop_cons x0 i (by omega), drop_cons x1 i (by omega)]
    refine Ev.ite (fun h => ?_) (fun h => ?_)
    · rw [w64 (by omega) (by omega)]
      exact evTo (ih (i + 1) (by omega)) (by simp only [List.cons.injEq, h, true_and])
    · exact Ev.ret (by simp only [List.cons.injEq, h, false_and, decide_false])
theorem laws_eqIntS_ev (x0 x1 : List Int) (hn : x0.length ≤ 35184372088832) : Ev (fun k => laws_eqIntS.f k x0 x1) (decide (x0 = x1)) := by
  simp only [laws_eqIntS.f]
  refine Ev.ite (fun h => ?_) (fun h => Ev.ret ?_)
  · exact evTo (laws_eqIntS_l x0 x1 (by omega) hn x0.length 0 (by omega)) (by simp)
  · symm; rw [decide_eq_false_iff_not]; intro e; rw [e] at h; exact h rfl

theorem laws_markIntS_l (n : Nat) (a : Int) (ha0 : 0 ≤ a) (ha : a ≤ 1000000000000000) (hn : n ≤ 35184372088832) : ∀ (d i : Nat) (x0 : List Int), i + d = n → x0.length = n → Ev (fun k => laws_markIntS.l0 k x0 (a + i) i) (a + n, x0.take i ++ (marked n a).drop i) := by
  intro d
  induction d with
  | zero =>
    intro i x0 hi hx
    apply Ev.succ
    simp only [laws_markIntS.l0.eq_2]
    refine Ev.neg (by omega) (Ev.ret ?_)
    rw [List.drop_eq_nil_of_le (by rw [marked_length]; omega), List.take_of_length_le (by omega)]
    simp; omega
  | succ d ih =>
    intro i x0 hi hx
    apply Ev.succ
    simp only [laws_markIntS.l0.eq_2]
    refine Ev.pos (by omega) (Ev.pos (by omega) ?_)
    rw [w64 (by omega) (by omega), w64 (by omega) (by omega)]
    have e1 : a + (i : Int) + 1 = a + ((i + 1 : Nat) : Int) := by omega
    rw [e1]
    refine evTo (ih (i + 1) _ (by omega) (by simp [hx])) ?_
    refine congrArg (Prod.mk _) ?_
    rw [take_snoc _ i (by simp; omega), drop_cons (marked n a) i (by rw [marked_length]; omega)]
    simp [marked, List.take_set_of_le]
theorem laws_markIntS_ev (x0 : List Int) (a : Int) (ha0 : 0 ≤ a) (ha : a ≤ 1000000000000000) (hn : x0.length ≤ 35184372088832) : Ev (fun k => laws_markIntS.f k x0 a) (a + x0.length, marked x0.length a) := by
  have h := laws_markIntS_l x0.length a ha0 ha hn x0.length 0 x0 (by omega) rfl
  simp only [laws_markIntS.f]
  simpa using h

theorem laws_heldIntS_l (n : Nat) (a : Int) (ha0 : 0 ≤ a) (ha : a ≤ 1000000000000000) (hn : n ≤ 35184372088832) : ∀ (d i : Nat), i + d = n → Ev (fun k => laws_heldIntS.l0 k (marked n a) (a + i) i) (a + n) := by
  intro d
  induction d with
  | zero =>
    intro i hi
    apply Ev.succ
    simp only [laws_heldIntS.l0.eq_2, marked_length]
    refine Ev.neg (by omega) (Ev.ret (by omega))
  | succ d ih =>
    intro i hi
    apply Ev.succ
    simp only [laws_heldIntS.l0.eq_2, marked_length]
    refine Ev.pos (by omega) (Ev.pos (by omega) (Ev.pos ?_ ?_))
    · rw [rd_get _ i (by rw [marked_length]; omega)]; simp [marked]
    · rw [w64 (by omega) (by omega), w64 (by omega) (by omega)]
      have e1 : a + (i : Int) + 1 = a + ((i + 1 : Nat) : Int) := by omega
      rw [e1]
      exact ih (i + 1) (by omega)
theorem laws_heldIntS_ev (n : Nat) (a : Int) (ha0 : 0 ≤ a) (ha : a ≤ 1000000000000000) (hn : n ≤ 35184372088832) : Ev (fun k => laws_heldIntS.f k (marked n a) a) (a + n) := by
  have h := laws_heldIntS_l n a ha0 ha hn n 0 (by omega)
  simp only [laws_heldIntS.f]
  simpa using h

theorem spec_l1In_eq (a b c : Int) : spec_l1In.f a b c = some (decide (b ≤ a ∧ a ≤ c)) := by
  unfold spec_l1In.f
  by_cases h : b ≤ a
  · rw [if_pos (by omega)]; simp [h]
  · rw [if_neg (by omega)]; simp [h]

theorem spec_LimitOf_l (n : Nat) (hn : n ≤ 30) : ∀ (d i : Nat), i + d = n → Ev (fun k => spec_LimitOf.l0 k n (((3 : Int) ^ i - 1) / 2) i) (((3 : Int) ^ n - 1) / 2) := by
  intro d
  induction d with
  | zero =>
    intro i hi
    apply Ev.succ
    simp only [spec_LimitOf.l0.eq_2]
    refine Ev.neg (by omega) (Ev.ret ?_)
    rw [← hi]; rfl
  | succ d ih =>
    intro i hi
    apply Ev.succ
    simp only [spec_LimitOf.l0.eq_2]
    have h1 := pow3_30 (i := i + 1) (by omega)
    have h2 := pow3_pos i
    have h3 := pow3_lim i
    have h4 := pow3_lim (i + 1)
    rw [pow3_succ] at h1 h4
    refine Ev.pos (by omega) ?_
    rw [w64 (n := _ * _) (by omega) (by omega), w64 (by omega) (by omega), w64 (by omega) (by omega)]
    refine (ih (i + 1) (by omega)).congr (fun k => ?_)
    refine congrArg (fun z => spec_LimitOf.l0 k n z _) ?_
    rw [pow3_succ]; omega
theorem spec_LimitOf_ev (n : Int) : Ev (fun k => spec_LimitOf.f k n) (lim n) := by
  simp only [spec_LimitOf.f, spec_l1In_eq, Option.bind_some, decide_eq_true_eq]
  unfold lim
  refine Ev.ite (fun h => ?_) (fun h => Ev.ret (by rw [if_neg h]))
  obtain ⟨m, rfl⟩ : ∃ m : Nat, n = m := ⟨n.toNat, by omega⟩
  rw [if_pos h]
  exact spec_LimitOf_l m (by omega) m 0 (by omega)

/-- The digits of a number, the lowest one first. -/
def digs (i : Int) (k : Nat) : List Int := (List.range k).map (fun p : Nat => i / 3 ^ p % 3)
theorem digs_length (i : Int) (k : Nat) : (digs i k).length = k := by simp [digs]
theorem digs_succ (i : Int) (k : Nat) : digs i (k + 1) = digs i k ++ [i / 3 ^ k % 3] := by simp [digs, List.range_succ]
theorem digs_get (i : Int) (k p : Nat) (h : p < (digs i k).length) : (digs i k)[p] = i / 3 ^ p % 3 := by simp [digs]
theorem ediv_pow_succ (i : Int) (p : Nat) : i / 3 ^ p / 3 = i / 3 ^ (p + 1) := by
  rw [Int.ediv_ediv_of_nonneg (Int.pow_nonneg (by omega)), Int.pow_succ]
theorem emod_pow_succ (i : Int) (p : Nat) : i % 3 ^ (p + 1) = (i / 3 ^ p % 3) * 3 ^ p + i % 3 ^ p := by
  have h1 := Int.mul_ediv_add_emod i (3 ^ p)
  have h2 := Int.mul_ediv_add_emod (i / 3 ^ p) 3
  have h3 := Int.emod_nonneg i (show (3 : Int) ^ p ≠ 0 by have := pow3_pos p; omega)
  have h4 := Int.emod_lt_of_pos i (show (0 : Int) < 3 ^ p by have := pow3_pos p; omega)
  have h5 := Int.emod_nonneg (i / 3 ^ p) (show (3 : Int) ≠ 0 by omega)
  have h6 := Int.emod_lt_of_pos (i / 3 ^ p) (show (0 : Int) < 3 by omega)
  generalize hq : i / 3 ^ p / 3 = q at *
  generalize hd : i / 3 ^ p % 3 = d at *
  generalize hr : i % 3 ^ p = r at *
  rw [← h2] at h1
  have e : i = 3 ^ (p + 1) * q + (d * 3 ^ p + r) := by
    rw [← h1, pow3_succ, Int.mul_add, Int.mul_comm (3 ^ p) d, ← Int.mul_assoc, Int.mul_comm (3 ^ p) 3, Int.add_assoc]
  have hp := pow3_pos p
  have b1 : 0 ≤ d * 3 ^ p := Int.mul_nonneg h5 (by omega)
  have b2 : d * 3 ^ p ≤ 2 * 3 ^ p := Int.mul_le_mul_of_nonneg_right (by omega) (by omega)
  rw [e, Int.add_comm, Int.add_mul_emod_self_left]
  apply Int.emod_eq_of_lt
  · omega
  · rw [pow3_succ]; omega
theorem spec_GrayWord_l1 (i : Int) (n : Nat) : ∀ (p : Nat) (x : List Int) (b : Bool), p ≤ 30 → p ≤ n → x.length = n → Ev (fun k => spec_GrayWord.l1 k (digs i n) x b ((p : Int) - 1)) (grayG p (if b = true then 3 ^ p - 1 - i % 3 ^ p else i % 3 ^ p) ++ x.drop p, true) := by
  intro p
  induction p with
  | zero =>
    intro x b _ _ _
    apply Ev.succ
    simp only [spec_GrayWord.l1.eq_2]
    refine Ev.neg (by omega) (Ev.ret ?_)
    simp [grayG]
  | succ p ih =>
    intro x b hp hn hx
    apply Ev.succ
    simp only [spec_GrayWord.l1.eq_2]
    have e0 : (((p + 1 : Nat) : Int) - 1) = (p : Int) := by omega
    have e1 : (p : Int).toNat = p := by omega
    have h2 := pow3_pos p
    rw [e0, e1, digs_length, rd_get _ p (by rw [digs_length]; omega), digs_get]
    have d0 := Int.emod_nonneg (i / 3 ^ p) (show (3 : Int) ≠ 0 by omega)
    have d1 := Int.emod_lt_of_pos (i / 3 ^ p) (show (0 : Int) < 3 by omega)
    have r0 := Int.emod_nonneg i (show (3 : Int) ^ p ≠ 0 by omega)
    have r1 := Int.emod_lt_of_pos i (show (0 : Int) < 3 ^ p by omega)
    have em := emod_pow_succ i p
    have hd : ∀ v : Int, (x.set p v).drop p = v :: x.drop (p + 1) := by
      intro v
      rw [drop_cons _ p (by simp; omega)]
      simp [List.drop_set_of_lt]
    have ih2 := fun (v : Int) (b' : Bool) => ih (x.set p v) b' (by omega) (by omega) (by simpa using hx)
    generalize i / 3 ^ p % 3 = d at *
    generalize i % 3 ^ p = r at *
    rw [em, grayG, pow3_succ]
    refine Ev.pos (by omega) (Ev.pos (by omega) (Ev.pos (by omega) ?_))
    rw [w64 (n := 2 - d) (by omega) (by omega), w64 (n := 2 - d - 1) (by omega) (by omega), w64 (n := d - 1) (by omega) (by omega), w64 (n := (p : Int) - 1) (by omega) (by omega)]
    refine Ev.ite (fun hb => ?_) (fun hb => ?_)
    · refine Ev.pos (by omega) (evTo (ih2 _ _) ?_)
      rw [hd, hb]
      simp only [if_true]
      rcases (show d = 0 ∨ d = 1 ∨ d = 2 by omega) with rfl | rfl | rfl
      · rcases ediv_cases (i := 3 * 3 ^ p - 1 - (0 * 3 ^ p + r)) h2 (by omega) (by omega) with ⟨c1, c2, c3⟩ | ⟨c1, c2, c3⟩ | ⟨c1, c2, c3⟩ <;> first | (exfalso; omega) | skip
        have e : (3 : Int) * 3 ^ p - 1 - (0 * 3 ^ p + r) - 2 * 3 ^ p = 3 ^ p - 1 - r := by omega
        rw [c1, c2, e]
        simp
      · rcases ediv_cases (i := 3 * 3 ^ p - 1 - (1 * 3 ^ p + r)) h2 (by omega) (by omega) with ⟨c1, c2, c3⟩ | ⟨c1, c2, c3⟩ | ⟨c1, c2, c3⟩ <;> first | (exfalso; omega) | skip
        rw [c1, c2]
        have e : (3 : Int) ^ p - 1 - (3 * 3 ^ p - 1 - (1 * 3 ^ p + r) - 3 ^ p) = r := by omega
        simp only [if_true]
        rw [e]; simp
      · rcases ediv_cases (i := 3 * 3 ^ p - 1 - (2 * 3 ^ p + r)) h2 (by omega) (by omega) with ⟨c1, c2, c3⟩ | ⟨c1, c2, c3⟩ | ⟨c1, c2, c3⟩ <;> first | (exfalso; omega) | skip
        have e : (3 : Int) * 3 ^ p - 1 - (2 * 3 ^ p + r) = 3 ^ p - 1 - r := by omega
        rw [c1, c2, e]
        simp
    · rw [Bool.not_eq_true] at hb
      refine Ev.pos (by omega) (evTo (ih2 _ _) ?_)
      rw [hd, hb]
      rcases (show d = 0 ∨ d = 1 ∨ d = 2 by omega) with rfl | rfl | rfl
      · rcases ediv_cases (i := 0 * 3 ^ p + r) h2 (by omega) (by omega) with ⟨c1, c2, c3⟩ | ⟨c1, c2, c3⟩ | ⟨c1, c2, c3⟩ <;> first | (exfalso; omega) | skip
        simp only [Bool.false_eq_true, if_false]
        rw [c1, c2]
        simp
      · rcases ediv_cases (i := 1 * 3 ^ p + r) h2 (by omega) (by omega) with ⟨c1, c2, c3⟩ | ⟨c1, c2, c3⟩ | ⟨c1, c2, c3⟩ <;> first | (exfalso; omega) | skip
        simp only [Bool.false_eq_true, if_false]
        rw [c1, c2]
        have e : (1 : Int) * 3 ^ p + r - 3 ^ p = r := by omega
        rw [e]
        simp
      · rcases ediv_cases (i := 2 * 3 ^ p + r) h2 (by omega) (by omega) with ⟨c1, c2, c3⟩ | ⟨c1, c2, c3⟩ | ⟨c1, c2, c3⟩ <;> first | (exfalso; omega) | skip
        simp only [Bool.false_eq_true, if_false]
        rw [c1, c2]
        have e : (2 : Int) * 3 ^ p + r - 2 * 3 ^ p = r := by omega
        rw [e]
        simp
theorem spec_GrayWord_l0 (i : Int) (n : Nat) (hn : n ≤ 30) (h0 : 0 ≤ i) (h1 : i < 3 ^ n) : ∀ (d p : Nat), p + d = n → Ev (fun k => spec_GrayWord.l0 k (i / 3 ^ p) n (digs i p)) (grayG n i, true) := by
  intro d
  induction d with
  | zero =>
    intro p hp
    apply Ev.succ
    simp only [spec_GrayWord.l0.eq_2, digs_length]
    refine Ev.neg (by omega) (Ev.pos (by omega) (Ev.pos (by omega) ?_))
    obtain rfl : p = n := by omega
    rw [w64 (by omega) (by omega)]
    refine evTo (spec_GrayWord_l1 i p p _ false hn (by omega) (by simp)) ?_
    rw [Int.emod_eq_of_lt h0 h1]
    simp
  | succ d ih =>
    intro p hp
    apply Ev.succ
    simp only [spec_GrayWord.l0.eq_2, digs_length]
    have h2 := pow3_pos p
    have h3 : 0 ≤ i / 3 ^ p := Int.ediv_nonneg h0 (by omega)
    have h4 : i / 3 ^ p ≤ i := Int.ediv_le_self _ h0
    have h5 := pow3_30 (i := n) (by omega)
    refine Ev.pos (by omega) (Ev.pos (by omega) ?_)
    rw [Int.tdiv_eq_ediv_of_nonneg h3, Int.tmod_eq_emod_of_nonneg h3, w64 (by omega) (by omega), ← digs_succ, ediv_pow_succ]
    exact ih (p + 1) (by omega)
theorem spec_GrayWord_ev (i k : Int) (hi : -9223372036854775808 ≤ i ∧ i < 9223372036854775808) : Ev (fun n => spec_GrayWord.f n i k) (if 1 ≤ k ∧ k ≤ 30 ∧ 0 ≤ i ∧ i < 3 ^ k.toNat then (grayG k.toNat i, true) else ([], false)) := by
  simp only [spec_GrayWord.f, spec_l1In_eq, Option.bind_some, decide_eq_true_eq]
  have no : ¬ (1 ≤ k ∧ k ≤ 30 ∧ 0 ≤ i ∧ i < 3 ^ k.toNat) → Ev (fun n => spec_GrayWord.j0 n i k true) (if 1 ≤ k ∧ k ≤ 30 ∧ 0 ≤ i ∧ i < 3 ^ k.toNat then (grayG k.toNat i, true) else ([], false)) := by
    intro h
    apply Ev.succ
    simp only [spec_GrayWord.j0.eq_2]
    refine Ev.pos (by simp) (Ev.ret ?_)
    rw [if_neg h]
  refine Ev.ite (fun h => ?_) (fun h => no (by omega))
  refine Ev.bind (spec_LimitOf_ev k) ?_
  have h2 := pow3_pos k.toNat
  have h3 := pow3_30 (i := k.toNat) (by omega)
  have h4 := pow3_lim k.toNat
  have h5 : lim k = (3 ^ k.toNat - 1) / 2 := by unfold lim; rw [if_pos (by omega)]
  rw [h5, w64 (by omega) (by omega)]
  by_cases h6 : 0 ≤ i ∧ i < 3 ^ k.toNat
  · rw [decide_eq_true (by omega)]
    apply Ev.succ
    simp only [spec_GrayWord.j0.eq_2]
    refine Ev.neg (by decide) ?_
    rw [if_pos ⟨h.1, h.2, h6.1, h6.2⟩]
    have hl := spec_GrayWord_l0 i k.toNat (by omega) h6.1 h6.2 k.toNat 0 (by omega)
    have e1 : ((k.toNat : Nat) : Int) = k := by omega
    rw [e1] at hl
    simpa [digs] using hl
  · rw [decide_eq_false (by omega)]
    exact no (by omega)

theorem impl_power_l (n : Nat) (hn : n ≤ 30) : ∀ (d i : Nat), i + d = n → Ev (fun k => impl_power.l0 k ((3 : Int) ^ i) n i) ((3 : Int) ^ n) := by
  intro d
  induction d with
  | zero =>
    intro i hi
    apply Ev.succ
    simp only [impl_power.l0.eq_2]
    refine Ev.neg (by omega) (Ev.ret ?_)
    rw [← hi]; rfl
  | succ d ih =>
    intro i hi
    apply Ev.succ
    simp only [impl_power.l0.eq_2]
    have h1 := pow3_30 (i := i + 1) (by omega)
    have h2 := pow3_pos i
    rw [pow3_succ] at h1
    refine Ev.pos (by omega) ?_
    rw [w64 (by omega) (by omega), w64 (by omega) (by omega), Int.mul_comm, ← pow3_succ]
    exact ih (i + 1) (by omega)
theorem impl_power_ev (n : Int) (h0 : 0 ≤ n) (hn : n ≤ 30) : Ev (fun k => impl_power.f k n) ((3 : Int) ^ n.toNat) := by
  obtain ⟨m, rfl⟩ : ∃ m : Nat, n = m := ⟨n.toNat, by omega⟩
  exact impl_power_l m (by omega) m 0 (by omega)

theorem rd_set (xs : List Int) (i : Nat) (h : i < xs.length) (v : Int) : rd (xs.set i v) (i : Int) = v := by
  rw [rd_get _ i (by simpa using h)]; simp
theorem impl_GrayWord_l : ∀ (p : Nat) (i : Int) (x : List Int), p ≤ 30 → p ≤ x.length → 0 ≤ i → i < 3 ^ p → Ev (fun k => impl_GrayWord.l0 k i x ((p : Int) - 1)) (grayG p i ++ x.drop p, true) := by
  intro p
  induction p with
  | zero =>
    intro i x _ _ _ _
    apply Ev.succ
    simp only [impl_GrayWord.l0.eq_2]
    refine Ev.neg (by omega) (Ev.ret ?_)
    simp [grayG]
  | succ p ih =>
    intro i x hp hx h0 h1
    apply Ev.succ
    simp only [impl_GrayWord.l0.eq_2]
    have e0 : (((p + 1 : Nat) : Int) - 1) = (p : Int) := by omega
    rw [e0]
    refine Ev.pos (by omega) ?_
    refine Ev.bind (impl_power_ev p (by omega) (by omega)) ?_
    have e1 : (p : Int).toNat = p := by omega
    have h2 := pow3_pos p
    have h3 := pow3_30 (i := p) (by omega)
    rw [pow3_succ] at h1
    rw [e1]
    refine Ev.neg (by omega) (Ev.pos (by omega) (Ev.pos (by omega) ?_))
    simp only [Option.bind_some]
    rw [Int.tdiv_eq_ediv_of_nonneg h0, Int.tmod_eq_emod_of_nonneg h0, rd_set _ _ (by omega), grayG]
    have hd : ∀ v : Int, (x.set p v).drop p = v :: x.drop (p + 1) := by
      intro v
      rw [drop_cons _ p (by simp; omega)]
      simp [List.drop_set_of_lt]
    rcases ediv_cases h2 h0 h1 with ⟨c1, c2, c3⟩ | ⟨c1, c2, c3⟩ | ⟨c1, c2, c3⟩ <;> rw [c1, c2]
    · rw [w64 (n := 0) (by omega) (by omega), w64 (n := 0 - 1) (by omega) (by omega), w64 (n := (p : Int) - 1) (by omega) (by omega)]
      refine Ev.neg (by omega) ?_
      refine evTo (ih i _ (by omega) (by simp; omega) (by omega) (by omega)) ?_
      rw [hd]; simp
    · rw [w64 (n := 1) (by omega) (by omega), w64 (n := 1 - 1) (by omega) (by omega), w64 (n := (p : Int) - 1) (by omega) (by omega), w64 (n := (3 : Int) ^ p - 1) (by omega) (by omega), w64 (n := (3 : Int) ^ p - 1 - (i - 3 ^ p)) (by omega) (by omega)]
      refine Ev.pos (by omega) ?_
      refine evTo (ih _ _ (by omega) (by simp; omega) (by omega) (by omega)) ?_
      rw [hd]; simp
    · rw [w64 (n := 2) (by omega) (by omega), w64 (n := 2 - 1) (by omega) (by omega), w64 (n := (p : Int) - 1) (by omega) (by omega)]
      refine Ev.neg (by omega) ?_
      refine evTo (ih _ _ (by omega) (by simp; omega) (by omega) (by omega)) ?_
      rw [hd]; simp
/-- What GrayWord gives. -/
def grayW (i k : Int) : List Int × Bool := if 1 ≤ k ∧ k ≤ 30 ∧ 0 ≤ i ∧ i < 3 ^ k.toNat then (grayG k.toNat i, true) else ([], false)
theorem impl_GrayWord_ev (i k : Int) (hi : -9223372036854775808 ≤ i ∧ i < 9223372036854775808) : Ev (fun n => impl_GrayWord.f n i k) (grayW i k) := by
  simp only [impl_GrayWord.f]
  have no : ¬ (1 ≤ k ∧ k ≤ 30 ∧ 0 ≤ i ∧ i < 3 ^ k.toNat) → Ev (fun n => impl_GrayWord.j0 n i k true) (grayW i k) := by
    intro h
    apply Ev.succ
    simp only [impl_GrayWord.j0.eq_2]
    refine Ev.pos (by simp) (Ev.ret ?_)
    unfold grayW; rw [if_neg h]
  refine Ev.ite (fun h => no (by omega)) (fun h => Ev.ite (fun h1 => no (by omega)) (fun h1 => Ev.ite (fun h2 => no (by omega)) (fun h2 => ?_)))
  refine Ev.bind (impl_power_ev k (by omega) (by omega)) ?_
  by_cases h3 : i < 3 ^ k.toNat
  · rw [decide_eq_false (by omega)]
    apply Ev.succ
    simp only [impl_GrayWord.j0.eq_2]
    refine Ev.neg (by decide) (Ev.pos (by omega) (Ev.pos (by omega) ?_))
    rw [w64 (by omega) (by omega)]
    have hl := impl_GrayWord_l k.toNat i (List.replicate k.toNat 0) (by omega) (by simp) (by omega) h3
    have e2 : ((k.toNat : Nat) : Int) - 1 = k - 1 := by omega
    rw [e2] at hl
    refine evTo hl ?_
    unfold grayW; rw [if_pos ⟨by omega, by omega, by omega, h3⟩]
    simp
  · rw [decide_eq_true (by omega)]
    exact no (fun hh => h3 hh.2.2.2)

end Go.Proofs.Yteedicdanhjfpaa.LemFnExactGrayWord
