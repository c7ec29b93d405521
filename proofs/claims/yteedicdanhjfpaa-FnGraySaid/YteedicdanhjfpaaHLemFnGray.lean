/- Lemmas: what each function that this statement reaches computes. -/
import Derived.Test.YteedicdanhjfpaaHFnGrayx4
import Derived.Test.YteedicdanhjfpaaBase
import Derived.Test.YteedicdanhjfpaaGrayM
set_option linter.unusedVariables false
set_option linter.unusedSimpArgs false
namespace Go.Proofs.Yteedicdanhjfpaa.LemFnGray
open Go.RowKit Go.Proofs.YteedicdanhjfpaaW.PrintWords Go.Proofs.YteedicdanhjfpaaW.PrintLast Go.Proofs.YteedicdanhjfpaaW.PrintMore Go.Proofs.Yteedicdanhjfpaa.HFnGray Go.Proofs.Yteedicdanhjfpaa.Base

def atv (l : List Int) (i : Nat) : Int := if i < l.length then rd l i else ((i : Int) * 37 + l.length * 11) % 256
theorem atv_range (l : List Int) (i : Nat) (h : ∀ x ∈ l, (Lit.int .u8 x).wf = true) : 0 ≤ atv l i ∧ atv l i < 256 := by
  unfold atv
  by_cases hi : i < l.length
  · rw [if_pos hi]
    exact wf8 (h _ (rd_mem (by omega) (by omega)))
  · rw [if_neg hi]; omega
theorem laws_at_eq (l : List Int) (i : Nat) (hn : l.length ≤ 1048576) (hi : i ≤ 100) (h : ∀ x ∈ l, (Lit.int .u8 x).wf = true) : laws_at.f l (i : Int) = some (atv l i) := by
  unfold laws_at.f atv
  by_cases hi : i < l.length
  · rw [if_pos (by omega), if_pos (by omega), if_pos hi]
    have := wf8 (h _ (rd_mem (xs := l) (i := i) (by omega) (by omega)))
    rw [w64 (by omega) (by omega)]
  · rw [if_neg (by omega), if_neg hi]
    rw [w64 (n := (i : Int) * 37) (by omega) (by omega), w64 (n := (l.length : Int) * 11) (by omega) (by omega), w64 (by omega) (by omega), Int.tmod_eq_emod_of_nonneg (by omega)]

theorem laws_ints_l (x0 x1 : List Int) (hl : x0.length = x1.length) (hn : x0.length ≤ 35184372088832) : ∀ (d i : Nat), i + d = x0.length → Ev (fun k => laws_ints.l0 k x0 x1 x0.length i) (decide (x0.drop i = x1.drop i)) := by
  intro d
  induction d with
  | zero =>
    intro i hi
    apply Ev.succ
    simp only [laws_ints.l0.eq_2]
    refine Ev.neg (by omega) (Ev.ret ?_)
    rw [List.drop_eq_nil_of_le (by omega), List.drop_eq_nil_of_le (by omega)]; simp
  | succ d ih =>
    intro i hi
    apply Ev.succ
    simp only [laws_ints.l0.eq_2]
    refine Ev.pos (by omega) (Ev.pos (by omega) (Ev.pos (by omega) (Ev.pos (by omega) ?_)))
    rw [rd_get x0 i (by omega), rd_get x1 i (by omega), drop_cons x0 i (by omega), drop_cons x1 i (by omega)]
    refine Ev.ite (fun h => ?_) (fun h => ?_)
    · rw [w64 (by omega) (by omega)]
      exact evTo (ih (i + 1) (by omega)) (by simp only [List.cons.injEq, h, true_and])
    · exact Ev.ret (by simp only [List.cons.injEq, h, false_and, decide_false])
theorem laws_ints_ev (x0 x1 : List Int) (hn : x0.length ≤ 35184372088832) : Ev (fun k => laws_ints.f k x0 x1) (decide (x0 = x1)) := by
  simp only [laws_ints.f]
  refine Ev.ite (fun h => ?_) (fun h => Ev.ret ?_)
  · exact evTo (laws_ints_l x0 x1 (by omega) hn x0.length 0 (by omega)) (by simp)
  · symm; rw [decide_eq_false_iff_not]; intro e; rw [e] at h; exact h rfl

theorem impl_power_l (n : Nat) (hn : n ≤ 30) : ∀ (d i : Nat), i + d = n → Ev (fun k => impl_power.l0 k ((3 : Int) ^ i) n i) ((3 : Int) ^ n) := by
  intro d
  induction d with
  | zero =>
    intro i hi
    apply Ev.succ
    simp only [impl_power.l0.eq_2]
    refine Ev.neg (by omega) (Ev.ret ?_)
    rw [← hi]; rfl
  | succ d ih =>
    intro i hi
    apply Ev.succ
    simp only [impl_power.l0.eq_2]
    have h1 := pow3_30 (i := i + 1) (by omega)
    have h2 := pow3_pos i
    rw [pow3_succ] at h1
    refine Ev.pos (by omega) ?_
    rw [w64 (by omega) (by omega), w64 (by omega) (by omega), Int.mul_comm, ← pow3_succ]
    exact ih (i + 1) (by omega)
theorem impl_power_ev (n : Int) (h0 : 0 ≤ n) (hn : n ≤ 30) : Ev (fun k => impl_power.f k n) ((3 : Int) ^ n.toNat) := by
  obtain ⟨m, rfl⟩ : ∃ m : Nat, n = m := ⟨n.toNat, by omega⟩
  exact impl_power_l m (by omega) m 0 (by omega)

theorem impl_IsTrit_eq (a : Int) : impl_IsTrit.f a = some (isTrit a) := by
  unfold impl_IsTrit.f isTrit
  by_cases h : -1 ≤ a
  · rw [if_pos (by omega)]; simp [h]
  · rw [if_neg (by omega)]; simp [h]

theorem impl_trits_l (x : List Int) (hn : x.length ≤ 35184372088832) : ∀ (d i : Nat), i + d = x.length → Ev (fun k => impl_trits.l0 k x x.length i) ((x.drop i).all isTrit) := by
  intro d
  induction d with
  | zero =>
    intro i hi
    apply Ev.succ
    simp only [impl_trits.l0.eq_2]
    refine Ev.neg (by omega) (Ev.ret ?_)
    rw [List.drop_eq_nil_of_le (by omega)]; rfl
  | succ d ih =>
    intro i hi
    apply Ev.succ
    simp only [impl_trits.l0.eq_2, impl_IsTrit_eq, Option.bind_some]
    refine Ev.pos (by omega) (Ev.pos (by omega) (Ev.pos (by omega) ?_))
    rw [rd_get x i (by omega), drop_cons x i (by omega), List.all_cons, w64 (by omega) (by omega)]
    refine Ev.ite (fun h => ?_) (fun h => Ev.ret ?_)
    · exact evTo (ih (i + 1) (by omega)) (by rw [h, Bool.true_and])
    · rw [Bool.not_eq_true] at h; rw [h, Bool.false_and]
theorem impl_trits_ev (x : List Int) (hn : x.length ≤ 35184372088832) : Ev (fun k => impl_trits.f k x) (x.all isTrit) := by
  simp only [impl_trits.f]
  exact impl_trits_l x hn x.length 0 (by omega)

theorem impl_IsWord_ev (x : List Int) : Ev (fun k => impl_IsWord.f k x) (isWord x) := by
  simp only [impl_IsWord.f, isWord]
  refine Ev.ite (fun h => Ev.ite (fun h1 => ?_) (fun h1 => Ev.ret ?_)) (fun h => Ev.ret ?_)
  · refine Ev.bind (impl_trits_ev x (by omega)) (Ev.ret ?_)
    rw [decide_eq_true (by omega), Bool.true_and]
  · rw [decide_eq_false (by omega), Bool.false_and]
  · rw [decide_eq_false (by omega), Bool.false_and]

theorem impl_GrayRank_l (w : List Int) (hw : w.length ≤ 30) (ht : ∀ a ∈ w, -1 ≤ a ∧ a ≤ 1) : ∀ (d i : Nat), i + d = w.length → Ev (fun k => impl_GrayRank.l0 k (grayR (w.take i)) w w.length i) (grayR w) := by
  intro d
  induction d with
  | zero =>
    intro i hi
    apply Ev.succ
    simp only [impl_GrayRank.l0.eq_2]
    refine Ev.neg (by omega) (Ev.ret ?_)
    rw [List.take_of_length_le (by omega)]
  | succ d ih =>
    intro i hi
    apply Ev.succ
    simp only [impl_GrayRank.l0.eq_2]
    refine Ev.pos (by omega) (Ev.pos (by omega) (Ev.pos (by omega) ?_))
    refine Ev.bind (impl_power_ev i (by omega) (by omega)) ?_
    have e0 : (i : Int).toNat = i := by omega
    rw [rd_get w i (by omega), e0]
    have h := ih (i + 1) (by omega)
    have ha := ht w[i] (List.getElem_mem _)
    have hr := grayR_range (w.take i) (fun a ha => ht a (List.mem_of_mem_take ha))
    have el : (w.take i).length = i := by simp; omega
    rw [el] at hr
    rw [take_snoc w i (by omega), grayR_snoc, el] at h
    have h1 := pow3_30 (i := i) (by omega)
    have h2 := pow3_pos i
    generalize w[i] = a at *
    have h3 : 0 ≤ (a + 1) * 3 ^ i ∧ (a + 1) * 3 ^ i ≤ 2 * 3 ^ i := ⟨Int.mul_nonneg (by omega) (by omega), Int.mul_le_mul_of_nonneg_right (by omega) (by omega)⟩
    rw [w64 (n := a + 1) (by omega) (by omega), w64 (n := (a + 1) * 3 ^ i) (by omega) (by omega), w64 (n := (3 : Int) ^ i - 1) (by omega) (by omega), w64 (n := (3 : Int) ^ i - 1 - grayR (w.take i)) (by omega) (by omega), w64 (n := (i : Int) + 1) (by omega) (by omega), w64 (n := grayR (w.take i) + (a + 1) * 3 ^ i) (by omega) (by omega), w64 (n := (3 : Int) ^ i - 1 - grayR (w.take i) + (a + 1) * 3 ^ i) (by omega) (by omega)]
    refine Ev.ite (fun hz => ?_) (fun hz => ?_)
    · rw [if_pos hz] at h; exact h
    · rw [if_neg hz] at h; exact h
theorem impl_GrayRank_ev (w : List Int) : Ev (fun k => impl_GrayRank.f k w) (if isWord w = true then grayR w else 0) := by
  simp only [impl_GrayRank.f]
  refine Ev.bind (impl_IsWord_ev w) ?_
  refine Ev.ite (fun h => ?_) (fun h => Ev.ret (by rw [if_neg h]))
  rw [if_pos h]
  have hw := (isWord_iff w).1 h
  exact impl_GrayRank_l w hw.1.2 hw.2 w.length 0 (by omega)

theorem rd_set (xs : List Int) (i : Nat) (h : i < xs.length) (v : Int) : rd (xs.set i v) (i : Int) = v := by
  rw [rd_get _ i (by simpa using h)]; simp
theorem impl_GrayWord_l : ∀ (p : Nat) (i : Int) (x : List Int), p ≤ 30 → p ≤ x.length → 0 ≤ i → i < 3 ^ p → Ev (fun k => impl_GrayWord.l0 k i x ((p : Int) - 1)) (grayG p i ++ x.drop p, true) := by
  intro p
  induction p with
  | zero =>
    intro i x _ _ _ _
    apply Ev.succ
    simp only [impl_GrayWord.l0.eq_2]
    refine Ev.neg (by omega) (Ev.ret ?_)
    simp [grayG]
  | succ p ih =>
    intro i x hp hx h0 h1
    apply Ev.succ
    simp only [impl_GrayWord.l0.eq_2]
    have e0 : (((p + 1 : Nat) : Int) - 1) = (p : Int) := by omega
    rw [e0]
    refine Ev.pos (by omega) ?_
    refine Ev.bind (impl_power_ev p (by omega) (by omega)) ?_
    have e1 : (p : Int).toNat = p := by omega
    have h2 := pow3_pos p
    have h3 := pow3_30 (i := p) (by omega)
    rw [pow3_succ] at h1
    rw [e1]
    refine Ev.neg (by omega) (Ev.pos (by omega) (Ev.pos (by omega) ?_))
    simp only [Option.bind_some]
    rw [Int.tdiv_eq_ediv_of_nonneg h0, Int.tmod_eq_emod_of_nonneg h0, rd_set _ _ (by omega), grayG]
    have hd : ∀ v : Int, (x.set p v).drop p = v :: x.drop (p + 1) := by
      intro v
      rw [drop_cons _ p (by simp; omega)]
      simp [List.drop_set_of_lt]
    rcases ediv_cases h2 h0 h1 with ⟨c1, c2, c3⟩ | ⟨c1, c2, c3⟩ | ⟨c1, c2, c3⟩ <;> rw [c1, c2]
    · rw [w64 (n := 0) (by omega) (by omega), w64 (n := 0 - 1) (by omega) (by omega), w64 (n := (p : Int) - 1) (by omega) (by omega)]
      refine Ev.neg (by omega) ?_
      refine evTo (ih i _ (by omega) (by simp; omega) (by omega) (by omega)) ?_
      rw [hd]; simp
    · rw [w64 (n := 1) (by omega) (by omega), w64 (n := 1 - 1) (by omega) (by omega), w64 (n := (p : Int) - 1) (by omega) (by omega), w64 (n := (3 : Int) ^ p - 1) (by omega) (by omega), w64 (n := (3 : Int) ^ p - 1 - (i - 3 ^ p)) (by omega) (by omega)]
      refine Ev.pos (by omega) ?_
      refine evTo (ih _ _ (by omega) (by simp; omega) (by omega) (by omega)) ?_
      rw [hd]; simp
    · rw [w64 (n := 2) (by omega) (by omega), w64 (n := 2 - 1) (by omega) (by omega), w64 (n := (p : Int) - 1) (by omega) (by omega)]
      refine Ev.neg (by omega) ?_
      refine evTo (ih _ _ (by omega) (by simp; omega) (by omega) (by omega)) ?_
      rw [hd]; simp
/-- What GrayWord gives. -/
def grayW (i k : Int) : List Int × Bool := if 1 ≤ k ∧ k ≤ 30 ∧ 0 ≤ i ∧ i < 3 ^ k.toNat then (grayG k.toNat i, true) else ([], false)
theorem impl_GrayWord_ev (i k : Int) (hi : -9223372036854775808 ≤ i ∧ i < 9223372036854775808) : Ev (fun n => impl_GrayWord.f n i k) (grayW i k) := by
  simp only [impl_GrayWord.f]
  have no : ¬ (1 ≤ k ∧ k ≤ 30 ∧ 0 ≤ i ∧ i < 3 ^ k.toNat) → Ev (fun n => impl_GrayWord.j0 n i k true) (grayW i k) := by
    intro h
    apply Ev.succ
    simp only [impl_GrayWord.j0.eq_2]
    refine Ev.pos (by simp) (Ev.ret ?_)
    unfold grayW; rw [if_neg h]
  refine Ev.ite (fun h => no (by omega)) (fun h => Ev.ite (fun h1 => no (by omega)) (fun h1 => Ev.ite (fun h2 => no (by omega)) (fun h2 => ?_)))
  refine Ev.bind (impl_power_ev k (by omega) (by omega)) ?_
  by_cases h3 : i < 3 ^ k.toNat
  · rw [decide_eq_false (by omega)]
    apply Ev.succ
    simp only [impl_GrayWord.j0.eq_2]
    refine Ev.neg (by decide) (Ev.pos (by omega) (Ev.pos (by omega) ?_))
    rw [w64 (by omega) (by omega)]
    have hl := impl_GrayWord_l k.toNat i (List.replicate k.toNat 0) (by omega) (by simp) (by omega) h3
    have e2 : ((k.toNat : Nat) : Int) - 1 = k - 1 := by omega
    rw [e2] at hl
    refine evTo hl ?_
    unfold grayW; rw [if_pos ⟨by omega, by omega, by omega, h3⟩]
    simp
  · rw [decide_eq_true (by omega)]
    exact no (fun hh => h3 hh.2.2.2)

theorem spec_l5Lift_l : ∀ (d i : Nat), i + d ≤ 30 → Ev (fun k => spec_l5Lift.l0 k ((3 : Int) ^ i) d) ((3 : Int) ^ (i + d)) := by
  intro d
  induction d with
  | zero =>
    intro i hi
    apply Ev.succ
    simp only [spec_l5Lift.l0.eq_2]
    exact Ev.neg (by omega) (Ev.ret rfl)
  | succ d ih =>
    intro i hi
    apply Ev.succ
    simp only [spec_l5Lift.l0.eq_2]
    have h1 := pow3_30 (i := i + 1) (by omega)
    have h2 := pow3_pos i
    rw [pow3_succ] at h1
    refine Ev.pos (by omega) ?_
    rw [w64 (by omega) (by omega), w64 (by omega) (by omega), ← pow3_succ, show ((d + 1 : Nat) : Int) - 1 = (d : Int) by omega, show i + (d + 1) = i + 1 + d by omega]
    exact ih (i + 1) (by omega)

theorem spec_MakePower_ev (n : Int) : Ev (fun k => spec_MakePower.f k n) ((3 : Int) ^ (max 0 (min n 30)).toNat) := by
  have e : mx 0 (mn n 30) = (((max 0 (min n 30)).toNat : Nat) : Int) := by unfold mx mn; split <;> split <;> omega
  simp only [spec_MakePower.f, e]
  have h := spec_l5Lift_l (max 0 (min n 30)).toNat 0 (by omega)
  rw [Nat.zero_add] at h
  refine Ev.bind h (Ev.now _)

theorem and_range (x y : Int) (h0 : 0 ≤ y) (h1 : y < 9223372036854775808) : 0 ≤ Go.bits .and .i64 x y ∧ Go.bits .and .i64 x y ≤ y := by
  unfold Go.bits
  have h2 : (BitVec.ofInt 64 x &&& BitVec.ofInt 64 y).toNat ≤ (BitVec.ofInt 64 y).toNat := by
    rw [BitVec.toNat_and]; exact Nat.and_le_right
  have h3 : ((BitVec.ofInt 64 y).toNat : Int) = y := by
    rw [BitVec.toNat_ofInt]
    have : (y % (2 ^ 64 : Nat)) = y := Int.emod_eq_of_lt h0 (by omega)
    omega
  show 0 ≤ IntKind.i64.wrap ((BitVec.ofInt 64 x &&& BitVec.ofInt 64 y).toNat : Int) ∧ IntKind.i64.wrap ((BitVec.ofInt 64 x &&& BitVec.ofInt 64 y).toNat : Int) ≤ y
  have h4 : IntKind.i64.wrap ((BitVec.ofInt 64 x &&& BitVec.ofInt 64 y).toNat : Int) = wrap64 ((BitVec.ofInt 64 x &&& BitVec.ofInt 64 y).toNat : Int) := i64_w _
  rw [h4, w64 (by omega) (by omega)]
  omega
theorem spec_l01Byte_ev (b : List Int) (hb : b.length ≤ 1000000000) (i h : Int) (h0 : 0 ≤ i) : ∃ x j g, spec_l01Byte.f b i h = some (x, j, g) ∧ (0 ≤ x ∧ x ≤ 255) ∧ 0 ≤ j := by
  unfold spec_l01Byte.f
  by_cases c : i < (b.length : Int)
  · rw [if_pos c, if_pos h0]
    exact ⟨_, _, _, rfl, and_range _ 255 (by omega) (by omega), by rw [w64 (by omega) (by omega)]; omega⟩
  · rw [if_neg c]
    exact ⟨_, _, _, rfl, and_range _ 255 (by omega) (by omega), h0⟩

theorem spec_l01Below_ev (b : List Int) (hb : b.length ≤ 1000000000) (i h n : Int) (h0 : 0 ≤ i) : ∃ x j g, spec_l01Below.f b i h n = some (x, j, g) ∧ (0 ≤ x ∧ (1 ≤ n → x < n)) ∧ 0 ≤ j := by
  unfold spec_l01Below.f
  by_cases c : n ≤ 0
  · rw [if_pos c]; exact ⟨_, _, _, rfl, ⟨by omega, by omega⟩, h0⟩
  · rw [if_neg c]
    obtain ⟨x1, j1, g1, e1, b1, i1⟩ := spec_l01Byte_ev b hb i h h0
    by_cases c2 : n ≤ 256
    · rw [if_pos c2, e1]
      simp only [Option.bind_some]
      rw [if_neg (by omega), Int.tmod_eq_emod_of_nonneg (by omega)]
      refine ⟨_, _, _, rfl, ⟨Int.emod_nonneg _ (by omega), fun _ => Int.emod_lt_of_pos _ (by omega)⟩, i1⟩
    · rw [if_neg c2, e1]
      simp only [Option.bind_some]
      obtain ⟨x2, j2, g2, e2, b2, i2⟩ := spec_l01Byte_ev b hb j1 g1 i1
      rw [e2]; simp only [Option.bind_some]
      obtain ⟨x3, j3, g3, e3, b3, i3⟩ := spec_l01Byte_ev b hb j2 g2 i2
      rw [e3]; simp only [Option.bind_some]
      obtain ⟨x4, j4, g4, e4, b4, i4⟩ := spec_l01Byte_ev b hb j3 g3 i3
      rw [e4]; simp only [Option.bind_some]
      rw [if_neg (by omega)]
      rw [w64 (n := x1 * 16777216) (by omega) (by omega), w64 (n := x2 * 65536) (by omega) (by omega), w64 (n := x3 * 256) (by omega) (by omega), w64 (n := x1 * 16777216 + x2 * 65536) (by omega) (by omega), w64 (n := x1 * 16777216 + x2 * 65536 + x3 * 256) (by omega) (by omega), w64 (n := x1 * 16777216 + x2 * 65536 + x3 * 256 + x4) (by omega) (by omega), Int.tmod_eq_emod_of_nonneg (by omega)]
      refine ⟨_, _, _, rfl, ⟨Int.emod_nonneg _ (by omega), fun _ => Int.emod_lt_of_pos _ (by omega)⟩, i4⟩

theorem fill_trits {w : List Int} {i : Nat} {v : Int} (hv : -1 ≤ v ∧ v ≤ 1) (h : ∀ a ∈ w, -1 ≤ a ∧ a ≤ 1) : ∀ a ∈ w.set i v, -1 ≤ a ∧ a ≤ 1 := by
  intro a ha
  rcases List.mem_or_eq_of_mem_set ha with h1 | h1
  · exact h a h1
  · rw [h1]; exact hv
theorem spec_l2Draw_l1 (b : List Int) (j g : Int) : ∀ (d i : Nat) (w : List Int), i + d = w.length → w.length ≤ 100 → (∀ a ∈ w, -1 ≤ a ∧ a ≤ 1) → ∃ v, Ev (fun k => spec_l2Draw.l1 k w w.length i b j g) (v, j, g) ∧ v.length = w.length ∧ ∀ a ∈ v, -1 ≤ a ∧ a ≤ 1 := by
  intro d
  induction d with
  | zero =>
    intro i w hi hw ht
    refine ⟨w, ?_, rfl, ht⟩
    apply Ev.succ
    simp only [spec_l2Draw.l1.eq_2]
    exact Ev.neg (by omega) (Ev.now _)
  | succ d ih =>
    intro i w hi hw ht
    obtain ⟨v, hv, hl, hvt⟩ := ih (i + 1) (w.set i 1) (by simp; omega) (by simpa using hw) (fill_trits (by omega) ht)
    simp only [List.length_set] at hv hl
    refine ⟨v, ?_, hl, hvt⟩
    apply Ev.succ
    simp only [spec_l2Draw.l1.eq_2]
    refine Ev.pos (by omega) (Ev.pos (by omega) (Ev.pos (by omega) ?_))
    rw [w64 (by omega) (by omega)]
    exact hv
theorem spec_l2Draw_l2 (b : List Int) (j g : Int) : ∀ (d i : Nat) (w : List Int), i + d = w.length → w.length ≤ 100 → (∀ a ∈ w, -1 ≤ a ∧ a ≤ 1) → ∃ v, Ev (fun k => spec_l2Draw.l2 k w w.length i b j g) (v, j, g) ∧ v.length = w.length ∧ ∀ a ∈ v, -1 ≤ a ∧ a ≤ 1 := by
  intro d
  induction d with
  | zero =>
    intro i w hi hw ht
    refine ⟨w, ?_, rfl, ht⟩
    apply Ev.succ
    simp only [spec_l2Draw.l2.eq_2]
    exact Ev.neg (by omega) (Ev.now _)
  | succ d ih =>
    intro i w hi hw ht
    obtain ⟨v, hv, hl, hvt⟩ := ih (i + 1) (w.set i (-1)) (by simp; omega) (by simpa using hw) (fill_trits (by omega) ht)
    simp only [List.length_set] at hv hl
    refine ⟨v, ?_, hl, hvt⟩
    apply Ev.succ
    simp only [spec_l2Draw.l2.eq_2]
    refine Ev.pos (by omega) (Ev.pos (by omega) (Ev.pos (by omega) ?_))
    rw [w64 (by omega) (by omega)]
    exact hv
theorem spec_l2Draw_l3 (b : List Int) (j g : Int) : ∀ (d i : Nat) (w : List Int), i + d = w.length → w.length ≤ 100 → (∀ a ∈ w, -1 ≤ a ∧ a ≤ 1) → ∃ v, Ev (fun k => spec_l2Draw.l3 k w w.length i b j g) (v, j, g) ∧ v.length = w.length ∧ ∀ a ∈ v, -1 ≤ a ∧ a ≤ 1 := by
  intro d
  induction d with
  | zero =>
    intro i w hi hw ht
    refine ⟨w, ?_, rfl, ht⟩
    apply Ev.succ
    simp only [spec_l2Draw.l3.eq_2]
    exact Ev.neg (by omega) (Ev.now _)
  | succ d ih =>
    intro i w hi hw ht
    obtain ⟨v, hv, hl, hvt⟩ := ih (i + 1) (w.set i 0) (by simp; omega) (by simpa using hw) (fill_trits (by omega) ht)
    simp only [List.length_set] at hv hl
    refine ⟨v, ?_, hl, hvt⟩
    apply Ev.succ
    simp only [spec_l2Draw.l3.eq_2]
    refine Ev.pos (by omega) (Ev.pos (by omega) (Ev.pos (by omega) ?_))
    rw [w64 (by omega) (by omega)]
    exact hv
theorem spec_l2Draw_l0 (b : List Int) (hb : b.length ≤ 1000000000) : ∀ (d : Nat) (j g : Int) (w : List Int), d + w.length ≤ 100 → 0 ≤ j → (∀ a ∈ w, -1 ≤ a ∧ a ≤ 1) → ∃ v j' g', Ev (fun k => spec_l2Draw.l0 k w d b j g) (v, j', g') ∧ v.length = d + w.length ∧ (∀ a ∈ v, -1 ≤ a ∧ a ≤ 1) ∧ 0 ≤ j' := by
  intro d
  induction d with
  | zero =>
    intro j g w hw hj ht
    obtain ⟨x, j1, g1, e1, b1, i1⟩ := spec_l01Below_ev b hb j g 12 hj
    by_cases c0 : x = 0
    · obtain ⟨v, hv, hl, hvt⟩ := spec_l2Draw_l1 b j1 g1 w.length 0 w (by omega) (by omega) ht
      refine ⟨v, j1, g1, ?_, by omega, hvt, i1⟩
      apply Ev.succ
      simp only [spec_l2Draw.l0.eq_2]
      refine Ev.neg (by omega) (Ev.bindc e1 ?_)
      exact Ev.pos c0 hv
    · by_cases c1 : x = 1
      · obtain ⟨v, hv, hl, hvt⟩ := spec_l2Draw_l2 b j1 g1 w.length 0 w (by omega) (by omega) ht
        refine ⟨v, j1, g1, ?_, by omega, hvt, i1⟩
        apply Ev.succ
        simp only [spec_l2Draw.l0.eq_2]
        refine Ev.neg (by omega) (Ev.bindc e1 ?_)
        exact Ev.neg c0 (Ev.pos c1 hv)
      · by_cases c2 : x = 2
        · obtain ⟨v, hv, hl, hvt⟩ := spec_l2Draw_l3 b j1 g1 w.length 0 w (by omega) (by omega) ht
          refine ⟨v, j1, g1, ?_, by omega, hvt, i1⟩
          apply Ev.succ
          simp only [spec_l2Draw.l0.eq_2]
          refine Ev.neg (by omega) (Ev.bindc e1 ?_)
          exact Ev.neg c0 (Ev.neg c1 (Ev.pos c2 hv))
        · refine ⟨w, j1, g1, ?_, by omega, ht, i1⟩
          apply Ev.succ
          simp only [spec_l2Draw.l0.eq_2]
          refine Ev.neg (by omega) (Ev.bindc e1 ?_)
          exact Ev.neg c0 (Ev.neg c1 (Ev.neg c2 (Ev.now _)))
  | succ d ih =>
    intro j g w hw hj ht
    obtain ⟨x, j1, g1, e1, b1, i1⟩ := spec_l01Below_ev b hb j g 3 hj
    have hx := b1.2 (by omega)
    obtain ⟨v, j2, g2, hv, hl, hvt, i2⟩ := ih j1 g1 (w ++ [x - 1]) (by simp; omega) i1 (by
      intro a ha
      rcases List.mem_append.1 ha with h | h
      · exact ht a h
      · simp at h; omega)
    refine ⟨v, j2, g2, ?_, by simp at hl; omega, hvt, i2⟩
    apply Ev.succ
    simp only [spec_l2Draw.l0.eq_2]
    refine Ev.pos (by omega) (Ev.bindc e1 ?_)
    refine Ev.pos (by omega) ?_
    rw [w64 (n := x - 1) (by omega) (by omega), w64 (by omega) (by omega), show ((d + 1 : Nat) : Int) - 1 = (d : Int) by omega]
    exact hv
theorem spec_l2Draw_ev (b : List Int) (hb : b.length ≤ 1000000000) (j g n : Int) (hj : 0 ≤ j) (h1 : 1 ≤ n) (hn : n ≤ 90) : ∃ v j' g', Ev (fun k => spec_l2Draw.f k b j g n) (v, j', g') ∧ (1 ≤ v.length ∧ (v.length : Int) ≤ n) ∧ (∀ a ∈ v, -1 ≤ a ∧ a ≤ 1) ∧ 0 ≤ j' := by
  simp only [spec_l2Draw.f]
  obtain ⟨x, j1, g1, e1, b1, i1⟩ := spec_l01Below_ev b hb j g n hj
  have hx := b1.2 h1
  obtain ⟨v, j2, g2, hv, hl, hvt, i2⟩ := spec_l2Draw_l0 b hb (1 + x).toNat j1 g1 [] (by simp; omega) i1 (by simp)
  refine ⟨v, j2, g2, ?_, ⟨by simp at hl; omega, by simp at hl; omega⟩, hvt, i2⟩
  refine Ev.bindc e1 ?_
  rw [w64 (by omega) (by omega)]
  rw [show (((1 + x).toNat : Nat) : Int) = 1 + x by omega] at hv
  exact hv

theorem spec_l01New_l (b : List Int) : ∀ (d i : Nat) (h : Int), i + d = 4000 → ∃ g, Ev (fun k => spec_l01New.l0 k b h i) (b, 0, g) := by
  intro d
  induction d with
  | zero =>
    intro i h hi
    refine ⟨h, ?_⟩
    apply Ev.succ
    simp only [spec_l01New.l0.eq_2]
    refine Ev.ite (fun c => Ev.neg (by omega) (Ev.now _)) (fun c => Ev.now _)
  | succ d ih =>
    intro i h hi
    by_cases c : (i : Int) < (b.length : Int)
    · obtain ⟨g, hg⟩ := ih (i + 1) (Go.bits .and .i64 (wrap64 ((wrap64 ((wrap64 (h * 1103)) + (wrap64 (rd b i)))) + 7)) 1073741823) (by omega)
      refine ⟨g, ?_⟩
      apply Ev.succ
      simp only [spec_l01New.l0.eq_2]
      refine Ev.pos c (Ev.pos (by omega) (Ev.pos (by omega) ?_))
      rw [w64 (n := (i : Int) + 1) (by omega) (by omega)]
      exact hg
    · refine ⟨h, ?_⟩
      apply Ev.succ
      simp only [spec_l01New.l0.eq_2]
      exact Ev.neg c (Ev.now _)
theorem spec_l01New_ev (b : List Int) : ∃ g, Ev (fun k => spec_l01New.f k b) (b, 0, g) := by
  simp only [spec_l01New.f]
  exact spec_l01New_l b 4000 0 _ (by omega)

theorem mx_eq (a b : Int) : mx a b = max a b := by unfold mx; omega
theorem mn_eq (a b : Int) : mn a b = min a b := by unfold mn; omega
theorem spec_MakeWord_ev (b : List Int) (hb : b.length ≤ 1000000000) (n : Int) (h1 : 1 ≤ n) (hn : n ≤ 30) : ∃ w, Ev (fun k => spec_MakeWord.f k b n) w ∧ isWord w = true ∧ (w.length : Int) ≤ n := by
  simp only [spec_MakeWord.f, mx_eq, mn_eq]
  obtain ⟨g, hg⟩ := spec_l01New_ev b
  obtain ⟨v, j, g', hv, hl, ht, _⟩ := spec_l2Draw_ev b hb 0 g (max 1 (min n 30)) (by omega) (by omega) (by omega)
  refine ⟨v, Ev.bind hg (Ev.bind hv (Ev.now _)), (isWord_iff v).2 ⟨by omega, ht⟩, by omega⟩

theorem laws_fresh_l (b : List Int) (s : Int) : ∀ (d i : Nat) (o : List Int), i + d = 600 → o.length ≤ i + 1 → ∃ out, Ev (fun k => laws_fresh.l0 k b s o i) out ∧ out.length ≤ 601 := by
  intro d
  induction d with
  | zero =>
    intro i o hi ho
    refine ⟨o, ?_, by omega⟩
    apply Ev.succ
    simp only [laws_fresh.l0.eq_2]
    exact Ev.ite (fun c => Ev.neg (by omega) (Ev.now _)) (fun c => Ev.now _)
  | succ d ih =>
    intro i o hi ho
    by_cases c : (i : Int) < (b.length : Int)
    · obtain ⟨out, h, hl⟩ := ih (i + 1) (o ++ [(wrap64 ((wrap64 ((wrap64 (rd b i)) * 3)) + (wrap64 (s * (wrap64 ((Int.tmod i 7) + 1)))))) % 256]) (by omega) (by simp; omega)
      refine ⟨out, ?_, hl⟩
      apply Ev.succ
      simp only [laws_fresh.l0.eq_2]
      refine Ev.pos c (Ev.pos (by omega) (Ev.pos (by omega) (Ev.pos (by omega) ?_)))
      rw [w64 (n := (i : Int) + 1) (by omega) (by omega)]
      exact h
    · refine ⟨o, ?_, by omega⟩
      apply Ev.succ
      simp only [laws_fresh.l0.eq_2]
      exact Ev.neg c (Ev.now _)
theorem laws_fresh_ev (b : List Int) (s : Int) : ∃ out, Ev (fun k => laws_fresh.f k b s) out ∧ out.length ≤ 601 := by
  simp only [laws_fresh.f]
  exact laws_fresh_l b s 600 0 _ (by omega) (by simp)

theorem laws_abs_eq (a : Int) (h : -1000000000000000000 ≤ a ∧ a ≤ 1000000000000000000) : laws_abs.f a = some (if a < 0 then -a else a) := by
  unfold laws_abs.f mx
  rw [w64 (by omega) (by omega)]
  refine congrArg some ?_
  split <;> split <;> omega

end Go.Proofs.Yteedicdanhjfpaa.LemFnGray
