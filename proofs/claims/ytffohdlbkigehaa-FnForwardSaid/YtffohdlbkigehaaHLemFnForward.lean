/- Lemmas: what each function that this statement reaches computes. -/
import Derived.Test.YtffohdlbkigehaaHFnForwardx4
import Derived.Test.YtffohdlbkigehaaBase
import Derived.Test.YtffohdlbkigehaaTurnM
import Derived.Test.YtffohdlbkigehaaWordM
set_option linter.unusedVariables false
set_option linter.unusedSimpArgs false
namespace Go.Proofs.Ytffohdlbkigehaa.LemFnForward
open Go.RowKit Go.Proofs.YtffohdlbkigehaaW.PrintWords Go.Proofs.YtffohdlbkigehaaW.PrintLast Go.Proofs.YtffohdlbkigehaaW.PrintMore Go.Proofs.Ytffohdlbkigehaa.HFnForward Go.Proofs.Ytffohdlbkigehaa.Base

theorem and_range (x y : Int) (h0 : 0 ≤ y) (h1 : y < 9223372036854775808) : 0 ≤ Go.bits .and .i64 x y ∧ Go.bits .and .i64 x y ≤ y := by
  unfold Go.bits
  have h2 : (BitVec.ofInt 64 x &&& BitVec.ofInt 64 y).toNat ≤ (BitVec.ofInt 64 y).toNat := by
    rw [BitVec.toNat_and]; exact Nat.and_le_right
  have h3 : ((BitVec.ofInt 64 y).toNat : Int) = y := by
    rw [BitVec.toNat_ofInt]
    have : (y % (2 ^ 64 : Nat)) = y := Int.emod_eq_of_lt h0 (by omega)
    omega
  show 0 ≤ IntKind.i64.wrap ((BitVec.ofInt 64 x &&& BitVec.ofInt 64 y).toNat : Int) ∧ IntKind.i64.wrap ((BitVec.ofInt 64 x &&& BitVec.ofInt 64 y).toNat : Int) ≤ y
  have h4 : IntKind.i64.wrap ((BitVec.ofInt 64 x &&& BitVec.ofInt 64 y).toNat : Int) = wrap64 ((BitVec.ofInt 64 x &&& BitVec.ofInt 64 y).toNat : Int) := i64_w _
  rw [h4, w64 (by omega) (by omega)]
  omega
theorem spec_l01Byte_ev (b : List Int) (hb : b.length ≤ 1000000000) (i h : Int) (h0 : 0 ≤ i) : ∃ x j g, spec_l01Byte.f b i h = some (x, j, g) ∧ (0 ≤ x ∧ x ≤ 255) ∧ 0 ≤ j := by
  unfold spec_l01Byte.f
  by_cases c : i < (b.length : Int)
  · rw [if_pos c, if_pos h0]
    exact ⟨_, _, _, rfl, and_range _ 255 (by omega) (by omega), by rw [w64 (by omega) (by omega)]; omega⟩
  · rw [if_neg c]
    exact ⟨_, _, _, rfl, and_range _ 255 (by omega) (by omega), h0⟩

theorem spec_l01Below_ev (b : List Int) (hb : b.length ≤ 1000000000) (i h n : Int) (h0 : 0 ≤ i) : ∃ x j g, spec_l01Below.f b i h n = some (x, j, g) ∧ (0 ≤ x ∧ (1 ≤ n → x < n)) ∧ 0 ≤ j := by
  unfold spec_l01Below.f
  by_cases c : n ≤ 0
  · rw [if_pos c]; exact ⟨_, _, _, rfl, ⟨by omega, by omega⟩, h0⟩
  · rw [if_neg c]
    obtain ⟨x1, j1, g1, e1, b1, i1⟩ := spec_l01Byte_ev b hb i h h0
    by_cases c2 : n ≤ 256
    · rw [if_pos c2, e1]
      simp only [Option.bind_some]
      rw [if_neg (by omega), Int.tmod_eq_emod_of_nonneg (by omega)]
      refine ⟨_, _, _, rfl, ⟨Int.emod_nonneg _ (by omega), fun _ => Int.emod_lt_of_pos _ (by omega)⟩, i1⟩
    · rw [if_neg c2, e1]
      simp only [Option.bind_some]
      obtain ⟨x2, j2, g2, e2, b2, i2⟩ := spec_l01Byte_ev b hb j1 g1 i1
      rw [e2]; simp only [Option.bind_some]
      obtain ⟨x3, j3, g3, e3, b3, i3⟩ := spec_l01Byte_ev b hb j2 g2 i2
      rw [e3]; simp only [Option.bind_some]
      obtain ⟨x4, j4, g4, e4, b4, i4⟩ := spec_l01Byte_ev b hb j3 g3 i3
      rw [e4]; simp only [Option.bind_some]
      rw [if_neg (by omega)]
      rw [w64 (n := x1 * 16777216) (by omega) (by omega), w64 (n := x2 * 65536) (by omega) (by omega), w64 (n := x3 * 256) (by omega) (by omega), w64 (n := x1 * 16777216 + x2 * 65536) (by omega) (by omega), w64 (n := x1 * 16777216 + x2 * 65536 + x3 * 256) (by omega) (by omega), w64 (n := x1 * 16777216 + x2 * 65536 + x3 * 256 + x4) (by omega) (by omega), Int.tmod_eq_emod_of_nonneg (by omega)]
      refine ⟨_, _, _, rfl, ⟨Int.emod_nonneg _ (by omega), fun _ => Int.emod_lt_of_pos _ (by omega)⟩, i4⟩

theorem fill_trits {w : List Int} {i : Nat} {v : Int} (hv : -1 ≤ v ∧ v ≤ 1) (h : ∀ a ∈ w, -1 ≤ a ∧ a ≤ 1) : ∀ a ∈ w.set i v, -1 ≤ a ∧ a ≤ 1 := by
  intro a ha
  rcases List.mem_or_eq_of_mem_set ha with h1 | h1
  · exact h a h1
  · rw [h1]; exact hv
theorem spec_l2Draw_l1 (b : List Int) (j g : Int) : ∀ (d i : Nat) (w : List Int), i + d = w.length → w.length ≤ 100 → (∀ a ∈ w, -1 ≤ a ∧ a ≤ 1) → ∃ v, Ev (fun k => spec_l2Draw.l1 k w w.length i b j g) (v, j, g) ∧ v.length = w.length ∧ ∀ a ∈ v, -1 ≤ a ∧ a ≤ 1 := by
  intro d
  induction d with
  | zero =>
    intro i w hi hw ht
    refine ⟨w, ?_, rfl, ht⟩
    apply Ev.succ
    simp only [spec_l2Draw.l1.eq_2]
    exact Ev.neg (by omega) (Ev.now _)
  | succ d ih =>
    intro i w hi hw ht
    obtain ⟨v, hv, hl, hvt⟩ := ih (i + 1) (w.set i 1) (by simp; omega) (by simpa using hw) (fill_trits (by omega) ht)
    simp only [List.length_set] at hv hl
    refine ⟨v, ?_, hl, hvt⟩
    apply Ev.succ
    simp only [spec_l2Draw.l1.eq_2]
    refine Ev.pos (by omega) (Ev.pos (by omega) (Ev.pos (by omega) ?_))
    rw [w64 (by omega) (by omega)]
    exact hv
theorem spec_l2Draw_l2 (b : List Int) (j g : Int) : ∀ (d i : Nat) (w : List Int), i + d = w.length → w.length ≤ 100 → (∀ a ∈ w, -1 ≤ a ∧ a ≤ 1) → ∃ v, Ev (fun k => spec_l2Draw.l2 k w w.length i b j g) (v, j, g) ∧ v.length = w.length ∧ ∀ a ∈ v, -1 ≤ a ∧ a ≤ 1 := by
  intro d
  induction d with
  | zero =>
    intro i w hi hw ht
    refine ⟨w, ?_, rfl, ht⟩
    apply Ev.succ
    simp only [spec_l2Draw.l2.eq_2]
    exact Ev.neg (by omega) (Ev.now _)
  | succ d ih =>
    intro i w hi hw ht
    obtain ⟨v, hv, hl, hvt⟩ := ih (i + 1) (w.set i (-1)) (by simp; omega) (by simpa using hw) (fill_trits (by omega) ht)
    simp only [List.length_set] at hv hl
    refine ⟨v, ?_, hl, hvt⟩
    apply Ev.succ
    simp only [spec_l2Draw.l2.eq_2]
    refine Ev.pos (by omega) (Ev.pos (by omega) (Ev.pos (by omega) ?_))
    rw [w64 (by omega) (by omega)]
    exact hv
theorem spec_l2Draw_l3 (b : List Int) (j g : Int) : ∀ (d i : Nat) (w : List Int), i + d = w.length → w.length ≤ 100 → (∀ a ∈ w, -1 ≤ a ∧ a ≤ 1) → ∃ v, Ev (fun k => spec_l2Draw.l3 k w w.length i b j g) (v, j, g) ∧ v.length = w.length ∧ ∀ a ∈ v, -1 ≤ a ∧ a ≤ 1 := by
  intro d
  induction d with
  | zero =>
    intro i w hi hw ht
    refine ⟨w, ?_, rfl, ht⟩
    apply Ev.succ
    simp only [spec_l2Draw.l3.eq_2]
    exact Ev.neg (by omega) (Ev.now _)
  | succ d ih =>
    intro i w hi hw ht
    obtain ⟨v, hv, hl, hvt⟩ := ih (i + 1) (w.set i 0) (by simp; omega) (by simpa using hw) (fill_trits (by omega) ht)
    simp only [List.length_set] at hv hl
    refine ⟨v, ?_, hl, hvt⟩
    apply Ev.succ
    simp only [spec_l2Draw.l3.eq_2]
    refine Ev.pos (by omega) (Ev.pos (by omega) (Ev.pos (by omega) ?_))
    rw [w64 (by omega) (by omega)]
    exact hv
theorem spec_l2Draw_l0 (b : List Int) (hb : b.length ≤ 1000000000) : ∀ (d : Nat) (j g : Int) (w : List Int), d + w.length ≤ 100 → 0 ≤ j → (∀ a ∈ w, -1 ≤ a ∧ a ≤ 1) → ∃ v j' g', Ev (fun k => spec_l2Draw.l0 k w d b j g) (v, j', g') ∧ v.length = d + w.length ∧ (∀ a ∈ v, -1 ≤ a ∧ a ≤ 1) ∧ 0 ≤ j' := by
  intro d
  induction d with
  | zero =>
    intro j g w hw hj ht
    obtain ⟨x, j1, g1, e1, b1, i1⟩ := spec_l01Below_ev b hb j g 12 hj
    by_cases c0 : x = 0
    · obtain ⟨v, hv, hl, hvt⟩ := spec_l2Draw_l1 b j1 g1 w.length 0 w (by omega) (by omega) ht
      refine ⟨v, j1, g1, ?_, by omega, hvt, i1⟩
      apply Ev.succ
      simp only [spec_l2Draw.l0.eq_2]
      refine Ev.neg (by omega) (Ev.bindc e1 ?_)
      exact Ev.pos c0 hv
    · by_cases c1 : x = 1
      · obtain ⟨v, hv, hl, hvt⟩ := spec_l2Draw_l2 b j1 g1 w.length 0 w (by omega) (by omega) ht
        refine ⟨v, j1, g1, ?_, by omega, hvt, i1⟩
        apply Ev.succ
        simp only [spec_l2Draw.l0.eq_2]
        refine Ev.neg (by omega) (Ev.bindc e1 ?_)
        exact Ev.neg c0 (Ev.pos c1 hv)
      · by_cases c2 : x = 2
        · obtain ⟨v, hv, hl, hvt⟩ := spec_l2Draw_l3 b j1 g1 w.length 0 w (by omega) (by omega) ht
          refine ⟨v, j1, g1, ?_, by omega, hvt, i1⟩
          apply Ev.succ
          simp only [spec_l2Draw.l0.eq_2]
          refine Ev.neg (by omega) (Ev.bindc e1 ?_)
          exact Ev.neg c0 (Ev.neg c1 (Ev.pos c2 hv))
        · refine ⟨w, j1, g1, ?_, by omega, ht, i1⟩
          apply Ev.succ
          simp only [spec_l2Draw.l0.eq_2]
          refine Ev.neg (by omega) (Ev.bindc e1 ?_)
          exact Ev.neg c0 (Ev.neg c1 (Ev.neg c2 (Ev.now _)))
  | succ d ih =>
    intro j g w hw hj ht
    obtain ⟨x, j1, g1, e1, b1, i1⟩ := spec_l01Below_ev b hb j g 3 hj
    have hx := b1.2 (by omega)
    obtain ⟨v, j2, g2, hv, hl, hvt, i2⟩ := ih j1 g1 (w ++ [x - 1]) (by simp; omega) i1 (by
      intro a ha
      rcases List.mem_append.1 ha with h | h
      · exact ht a h
      · simp at h; omega)
    refine ⟨v, j2, g2, ?_, by simp at hl; omega, hvt, i2⟩
    apply Ev.succ
    simp only [spec_l2Draw.l0.eq_2]
    refine Ev.pos (by omega) (Ev.bindc e1 ?_)
    refine Ev.pos (by omega) ?_
    rw [w64 (n := x - 1) (by omega) (by omega), w64 (by omega) (by omega), show ((d + 1 : Nat) : Int) - 1 = (d : Int) by omega]
    exact hv
theorem spec_l2Draw_ev (b : List Int) (hb : b.length ≤ 1000000000) (j g n : Int) (hj : 0 ≤ j) (h1 : 1 ≤ n) (hn : n ≤ 90) : ∃ v j' g', Ev (fun k => spec_l2Draw.f k b j g n) (v, j', g') ∧ (1 ≤ v.length ∧ (v.length : Int) ≤ n) ∧ (∀ a ∈ v, -1 ≤ a ∧ a ≤ 1) ∧ 0 ≤ j' := by
  simp only [spec_l2Draw.f]
  obtain ⟨x, j1, g1, e1, b1, i1⟩ := spec_l01Below_ev b hb j g n hj
  have hx := b1.2 h1
  obtain ⟨v, j2, g2, hv, hl, hvt, i2⟩ := spec_l2Draw_l0 b hb (1 + x).toNat j1 g1 [] (by simp; omega) i1 (by simp)
  refine ⟨v, j2, g2, ?_, ⟨by simp at hl; omega, by simp at hl; omega⟩, hvt, i2⟩
  refine Ev.bindc e1 ?_
  rw [w64 (by omega) (by omega)]
  rw [show (((1 + x).toNat : Nat) : Int) = 1 + x by omega] at hv
  exact hv

theorem spec_l01New_l (b : List Int) : ∀ (d i : Nat) (h : Int), i + d = 4000 → ∃ g, Ev (fun k => spec_l01New.l0 k b h i) (b, 0, g) := by
  intro d
  induction d with
  | zero =>
    intro i h hi
    refine ⟨h, ?_⟩
    apply Ev.succ
    simp only [spec_l01New.l0.eq_2]
    refine Ev.ite (fun c => Ev.neg (by omega) (Ev.now _)) (fun c => Ev.now _)
  | succ d ih =>
    intro i h hi
    by_cases c : (i : Int) < (b.length : Int)
    · obtain ⟨g, hg⟩ := ih (i + 1) (Go.bits .and .i64 (wrap64 ((wrap64 ((wrap64 (h * 1103)) + (wrap64 (rd b i)))) + 7)) 1073741823) (by omega)
      refine ⟨g, ?_⟩
      apply Ev.succ
      simp only [spec_l01New.l0.eq_2]
      refine Ev.pos c (Ev.pos (by omega) (Ev.pos (by omega) ?_))
      rw [w64 (n := (i : Int) + 1) (by omega) (by omega)]
      exact hg
    · refine ⟨h, ?_⟩
      apply Ev.succ
      simp only [spec_l01New.l0.eq_2]
      exact Ev.neg c (Ev.now _)
theorem spec_l01New_ev (b : List Int) : ∃ g, Ev (fun k => spec_l01New.f k b) (b, 0, g) := by
  simp only [spec_l01New.f]
  exact spec_l01New_l b 4000 0 _ (by omega)

theorem mx_eq (a b : Int) : mx a b = max a b := by unfold mx; omega
theorem mn_eq (a b : Int) : mn a b = min a b := by unfold mn; omega
theorem spec_MakeWord_ev (b : List Int) (hb : b.length ≤ 1000000000) (n : Int) (h1 : 1 ≤ n) (hn : n ≤ 30) : ∃ w, Ev (fun k => spec_MakeWord.f k b n) w ∧ isWord w = true ∧ (w.length : Int) ≤ n := by
  simp only [spec_MakeWord.f, mx_eq, mn_eq]
  obtain ⟨g, hg⟩ := spec_l01New_ev b
  obtain ⟨v, j, g', hv, hl, ht, _⟩ := spec_l2Draw_ev b hb 0 g (max 1 (min n 30)) (by omega) (by omega) (by omega)
  refine ⟨v, Ev.bind hg (Ev.bind hv (Ev.now _)), (isWord_iff v).2 ⟨by omega, ht⟩, by omega⟩

theorem impl_IsTrit_eq (a : Int) : impl_IsTrit.f a = some (isTrit a) := by
  unfold impl_IsTrit.f isTrit
  by_cases h : -1 ≤ a
  · rw [if_pos (by omega)]; simp [h]
  · rw [if_neg (by omega)]; simp [h]

theorem impl_carried_eq (n : Int) (h : -4 ≤ n ∧ n ≤ 4) : impl_carried.f n = some (if n > 1 then n - 3 else if n < -1 then n + 3 else n, if n > 1 then 1 else if n < -1 then -1 else 0) := by
  unfold impl_carried.f
  by_cases h1 : n > 1
  · rw [if_pos h1, if_pos h1, if_pos h1, w64 (by omega) (by omega)]
  · rw [if_neg h1, if_neg h1, if_neg h1]
    by_cases h2 : n < -1
    · rw [if_pos h2, if_pos h2, if_pos h2, w64 (by omega) (by omega)]
    · rw [if_neg h2, if_neg h2, if_neg h2]

theorem impl_TurnTrit_eq (a : Int) : impl_TurnTrit.f a = some (turn a) := by
  unfold impl_TurnTrit.f turn
  rw [impl_IsTrit_eq]
  simp only [Option.bind_some]
  by_cases h : isTrit a = true
  · rw [if_pos h, if_pos h]
    have ha := (isTrit_iff a).1 h
    rw [w64 (by omega) (by omega), impl_carried_eq _ (by omega)]
    simp only [Option.bind_some]
    refine congrArg some ?_
    rcases (show a = -1 ∨ a = 0 ∨ a = 1 by omega) with rfl | rfl | rfl <;> rfl
  · rw [if_neg h, if_neg h]

theorem impl_trits_l (x : List Int) (hn : x.length ≤ 35184372088832) : ∀ (d i : Nat), i + d = x.length → Ev (fun k => impl_trits.l0 k x x.length i) ((x.drop i).all isTrit) := by
  intro d
  induction d with
  | zero =>
    intro i hi
    apply Ev.succ
    simp only [impl_trits.l0.eq_2]
    refine Ev.neg (by omega) (Ev.ret ?_)
    rw [List.drop_eq_nil_of_le (by omega)]; rfl
  | succ d ih =>
    intro i hi
    apply Ev.succ
    simp only [impl_trits.l0.eq_2, impl_IsTrit_eq, Option.bind_some]
    refine Ev.pos (by omega) (Ev.pos (by omega) (Ev.pos (by omega) ?_))
    rw [rd_get x i (by omega), drop_cons x i (by omega), List.all_cons, w64 (by omega) (by omega)]
    refine Ev.ite (fun h => ?_) (fun h => Ev.ret ?_)
    · exact evTo (ih (i + 1) (by omega)) (by rw [h, Bool.true_and])
    · rw [Bool.not_eq_true] at h; rw [h, Bool.false_and]
theorem impl_trits_ev (x : List Int) (hn : x.length ≤ 35184372088832) : Ev (fun k => impl_trits.f k x) (x.all isTrit) := by
  simp only [impl_trits.f]
  exact impl_trits_l x hn x.length 0 (by omega)

theorem impl_IsWord_ev (x : List Int) : Ev (fun k => impl_IsWord.f k x) (isWord x) := by
  simp only [impl_IsWord.f, isWord]
  refine Ev.ite (fun h => Ev.ite (fun h1 => ?_) (fun h1 => Ev.ret ?_)) (fun h => Ev.ret ?_)
  · refine Ev.bind (impl_trits_ev x (by omega)) (Ev.ret ?_)
    rw [decide_eq_true (by omega), Bool.true_and]
  · rw [decide_eq_false (by omega), Bool.false_and]
  · rw [decide_eq_false (by omega), Bool.false_and]

theorem impl_TurnsForward_l (w : List Int) (hn : w.length ≤ 35184372088832) : ∀ (d i : Nat), i + 1 + d = w.length → Ev (fun k => impl_TurnsForward.l0 k w ((i + 1 : Nat) : Int)) (fwd (w.drop i)) := by
  intro d
  induction d with
  | zero =>
    intro i hi
    apply Ev.succ
    simp only [impl_TurnsForward.l0.eq_2]
    refine Ev.neg (by omega) (Ev.ret ?_)
    rw [drop_cons w i (by omega), List.drop_eq_nil_of_le (by omega), fwd_one]
  | succ d ih =>
    intro i hi
    apply Ev.succ
    simp only [impl_TurnsForward.l0.eq_2]
    have e : ((i + 1 : Nat) : Int) - 1 = (i : Int) := by omega
    have h := ih (i + 1) (by omega)
    rw [drop_cons w (i + 1) (by omega)] at h
    rw [drop_cons w i (by omega), drop_cons w (i + 1) (by omega), fwd_two, w64 (n := ((i + 1 : Nat) : Int) - 1) (by omega) (by omega), e, rd_get w (i + 1) (by omega), rd_get w i (by omega), w64 (n := ((i + 1 : Nat) : Int) + 1) (by omega) (by omega)]
    refine Ev.pos (by omega) (Ev.pos (by omega) (Ev.pos (by omega) (Ev.pos (by omega) ?_)))
    refine Ev.ite (fun c => ?_) (fun c => ?_)
    · rw [if_pos c]; exact h
    · rw [if_neg c]; exact Ev.bindc (impl_TurnTrit_eq _) (Ev.now _)
theorem impl_TurnsForward_ev (w : List Int) : Ev (fun k => impl_TurnsForward.f k w) (isWord w && fwd w) := by
  simp only [impl_TurnsForward.f]
  refine Ev.bind (impl_IsWord_ev w) ?_
  refine Ev.ite (fun h => ?_) (fun h => Ev.ret (by rw [Bool.not_eq_true] at h; rw [h, Bool.false_and]))
  have hw := (isWord_iff w).1 h
  refine evTo (impl_TurnsForward_l w (by omega) (w.length - 1) 0 (by omega)) ?_
  rw [h, Bool.true_and, List.drop_zero]

theorem impl_negated_l (w : List Int) (hn : w.length ≤ 1000000000) (ht : ∀ a ∈ w, -9000000000000000000 ≤ a ∧ a ≤ 9000000000000000000) : ∀ (d i : Nat), i + d = w.length → Ev (fun k => impl_negated.l0 k ((w.take i).map (- ·)) w w.length i) (w.map (- ·)) := by
  intro d
  induction d with
  | zero =>
    intro i hi
    apply Ev.succ
    simp only [impl_negated.l0.eq_2]
    exact Ev.neg (by omega) (Ev.ret (by rw [List.take_of_length_le (by omega)]))
  | succ d ih =>
    intro i hi
    apply Ev.succ
    simp only [impl_negated.l0.eq_2]
    have h2 := ht w[i] (List.getElem_mem _)
    have h3 := ih (i + 1) (by omega)
    rw [take_snoc w i (by omega), List.map_append] at h3
    refine Ev.pos (by omega) (Ev.pos (by omega) (Ev.pos (by omega) (Ev.pos (by rw [List.length_map, List.length_take]; omega) ?_)))
    rw [rd_get w i (by omega), w64 (n := -w[i]) (by omega) (by omega), w64 (by omega) (by omega)]
    exact h3
theorem impl_negated_ev (w : List Int) (hn : w.length ≤ 1000000000) (ht : ∀ a ∈ w, -9000000000000000000 ≤ a ∧ a ≤ 9000000000000000000) : Ev (fun k => impl_negated.f k w) (w.map (- ·)) := by
  simp only [impl_negated.f]
  exact impl_negated_l w hn ht w.length 0 (by omega)

theorem impl_NegateWord_ev (w : List Int) : Ev (fun k => impl_NegateWord.f k w) (if isWord w = true then w.map (- ·) else []) := by
  simp only [impl_NegateWord.f]
  refine Ev.bind (impl_IsWord_ev w) ?_
  refine Ev.ite (fun h => ?_) (fun h => Ev.ret (by rw [if_neg h]))
  rw [if_pos h]
  have hw := (isWord_iff w).1 h
  exact Ev.bind (impl_negated_ev w (by omega) (fun a ha => by have := hw.2 a ha; omega)) (Ev.now _)

def atv (l : List Int) (i : Nat) : Int := if i < l.length then rd l i else ((i : Int) * 37 + l.length * 11) % 256
theorem atv_range (l : List Int) (i : Nat) (h : ∀ x ∈ l, (Lit.int .u8 x).wf = true) : 0 ≤ atv l i ∧ atv l i < 256 := by
  unfold atv
  by_cases hi : i < l.length
  · rw [if_pos hi]
    exact wf8 (h _ (rd_mem (by omega) (by omega)))
  · rw [if_neg hi]; omega
theorem laws_at_eq (l : List Int) (i : Nat) (hn : l.length ≤ 1048576) (hi : i ≤ 100) (h : ∀ x ∈ l, (Lit.int .u8 x).wf = true) : laws_at.f l (i : Int) = some (atv l i) := by
  unfold laws_at.f atv
  by_cases hi : i < l.length
  · rw [if_pos (by omega), if_pos (by omega), if_pos hi]
    have := wf8 (h _ (rd_mem (xs := l) (i := i) (by omega) (by omega)))
    rw [w64 (by omega) (by omega)]
  · rw [if_neg (by omega), if_neg hi]
    rw [w64 (n := (i : Int) * 37) (by omega) (by omega), w64 (n := (l.length : Int) * 11) (by omega) (by omega), w64 (by omega) (by omega), Int.tmod_eq_emod_of_nonneg (by omega)]

theorem impl_power_l (n : Nat) (hn : n ≤ 30) : ∀ (d i : Nat), i + d = n → Ev (fun k => impl_power.l0 k ((3 : Int) ^ i) n i) ((3 : Int) ^ n) := by
  intro d
  induction d with
  | zero =>
    intro i hi
    apply Ev.succ
    simp only [impl_power.l0.eq_2]
    refine Ev.neg (by omega) (Ev.ret ?_)
    rw [← hi]; rfl
  | succ d ih =>
    intro i hi
    apply Ev.succ
    simp only [impl_power.l0.eq_2]
    have h1 := pow3_30 (i := i + 1) (by omega)
    have h2 := pow3_pos i
    rw [pow3_succ] at h1
    refine Ev.pos (by omega) ?_
    rw [w64 (by omega) (by omega), w64 (by omega) (by omega), Int.mul_comm, ← pow3_succ]
    exact ih (i + 1) (by omega)
theorem impl_power_ev (n : Int) (h0 : 0 ≤ n) (hn : n ≤ 30) : Ev (fun k => impl_power.f k n) ((3 : Int) ^ n.toNat) := by
  obtain ⟨m, rfl⟩ : ∃ m : Nat, n = m := ⟨n.toNat, by omega⟩
  exact impl_power_l m (by omega) m 0 (by omega)

theorem impl_LimitOf_ev (k : Int) : Ev (fun n => impl_LimitOf.f n k) (lim k) := by
  simp only [impl_LimitOf.f]
  unfold lim
  refine Ev.ite (fun h => Ev.ret (by rw [if_neg (by omega)])) (fun h => Ev.ite (fun h1 => Ev.ret (by rw [if_neg (by omega)])) (fun h1 => ?_))
  rw [if_pos (by omega)]
  refine Ev.bind (impl_power_ev k (by omega) (by omega)) (Ev.ret ?_)
  have h2 := pow3_30 (i := k.toNat) (by omega)
  have h3 := pow3_pos k.toNat
  rw [w64 (n := _ - 1) (by omega) (by omega), Int.tdiv_eq_ediv_of_nonneg (by omega), w64 (by omega) (by omega)]

theorem spec_l1In_eq (a b c : Int) : spec_l1In.f a b c = some (decide (b ≤ a ∧ a ≤ c)) := by
  unfold spec_l1In.f
  by_cases h : b ≤ a
  · rw [if_pos (by omega)]; simp [h]
  · rw [if_neg (by omega)]; simp [h]

theorem spec_l2Word_l (k : Nat) (hk : k ≤ 30) : ∀ (d i : Nat) (n : Int) (o : List Int), i + d = k → o.length = i → -100000000000000000 ≤ n → n ≤ 100000000000000000 → Ev (fun m => spec_l2Word.l0 m n k o i) (o ++ word d n) := by
  intro d
  induction d with
  | zero =>
    intro i n o hi ho h0 h1
    apply Ev.succ
    simp only [spec_l2Word.l0.eq_2]
    exact Ev.neg (by omega) (Ev.ret (by simp [word]))
  | succ d ih =>
    intro i n o hi ho h0 h1
    apply Ev.succ
    simp only [spec_l2Word.l0.eq_2]
    have ht : Int.tmod n 3 = if 0 ≤ n then n % 3 else -((-n) % 3) := by
      split
      · exact Int.tmod_eq_emod_of_nonneg (by omega)
      · have h : Int.tmod (-n) 3 = (-n) % 3 := Int.tmod_eq_emod_of_nonneg (by omega)
        rw [Int.neg_tmod] at h; omega
    generalize hr : Int.tmod n 3 = r at *
    have h2 : -2 ≤ r ∧ r ≤ 2 ∧ (r - n) % 3 = 0 := by split at ht <;> omega
    have next : ∀ s : Int, s = (n + 1) % 3 - 1 → Ev (fun m => spec_l2Word.l0 m (wrap64 (Int.tdiv (wrap64 (n - s)) 3)) k (o ++ [s]) (wrap64 ((i : Int) + 1))) (o ++ word (d + 1) n) := by
      intro s hs
      have e : Int.tdiv (n - s) 3 = (n + 1) / 3 := by
        rw [Int.tdiv_eq_ediv_of_dvd (Int.dvd_of_emod_eq_zero (by omega))]; omega
      rw [w64 (n := n - s) (by omega) (by omega), e, w64 (by omega) (by omega), w64 (by omega) (by omega)]
      refine evTo (ih (i + 1) ((n + 1) / 3) (o ++ [s]) (by omega) (by simp [ho]) (by omega) (by omega)) ?_
      rw [word, hs]; simp
    rw [w64 (n := r - 3) (by omega) (by omega), w64 (n := r + 3) (by omega) (by omega)]
    refine Ev.pos (by omega) (Ev.ite (fun c => Ev.neg (by omega) (Ev.pos (by omega) (next _ (by omega)))) (fun c => Ev.ite (fun c1 => Ev.pos (by omega) (next _ (by omega))) (fun c1 => Ev.pos (by omega) (next _ (by omega)))))
theorem spec_l2Word_ev (n : Int) (k : Nat) (hk : k ≤ 30) (h0 : -100000000000000000 ≤ n) (h1 : n ≤ 100000000000000000) : Ev (fun m => spec_l2Word.f m n k) (word k n) := by
  simp only [spec_l2Word.f]
  exact spec_l2Word_l k hk k 0 n [] (by omega) rfl h0 h1

theorem spec_LimitOf_l (n : Nat) (hn : n ≤ 30) : ∀ (d i : Nat), i + d = n → Ev (fun k => spec_LimitOf.l0 k n (((3 : Int) ^ i - 1) / 2) i) (((3 : Int) ^ n - 1) / 2) := by
  intro d
  induction d with
  | zero =>
    intro i hi
    apply Ev.succ
    simp only [spec_LimitOf.l0.eq_2]
    refine Ev.neg (by omega) (Ev.ret ?_)
    rw [← hi]; rfl
  | succ d ih =>
    intro i hi
    apply Ev.succ
    simp only [spec_LimitOf.l0.eq_2]
    have h1 := pow3_30 (i := i + 1) (by omega)
    have h2 := pow3_pos i
    have h3 := pow3_lim i
    have h4 := pow3_lim (i + 1)
    rw [pow3_succ] at h1 h4
    refine Ev.pos (by omega) ?_
    rw [w64 (n := _ * _) (by omega) (by omega), w64 (by omega) (by omega), w64 (by omega) (by omega)]
    refine (ih (i + 1) (by omega)).congr (fun k => ?_)
    refine congrArg (fun z => spec_LimitOf.l0 k n z _) ?_
    rw [pow3_succ]; omega
theorem spec_LimitOf_ev (n : Int) : Ev (fun k => spec_LimitOf.f k n) (lim n) := by
  simp only [spec_LimitOf.f, spec_l1In_eq, Option.bind_some, decide_eq_true_eq]
  unfold lim
  refine Ev.ite (fun h => ?_) (fun h => Ev.ret (by rw [if_neg h]))
  obtain ⟨m, rfl⟩ : ∃ m : Nat, n = m := ⟨n.toNat, by omega⟩
  rw [if_pos h]
  exact spec_LimitOf_l m (by omega) m 0 (by omega)

theorem spec_WordOf_ev (n k : Int) : Ev (fun m => spec_WordOf.f m n k) (wordOf n k) := by
  simp only [spec_WordOf.f, spec_l1In_eq, Option.bind_some, decide_eq_true_eq]
  have h1 := lim_nonneg k
  have h2 := lim_le k
  refine Ev.ite (fun h => ?_) (fun h => Ev.ret (by unfold wordOf; rw [if_neg (by omega)]))
  refine Ev.bind (spec_LimitOf_ev k) (Ev.bind (spec_LimitOf_ev k) ?_)
  rw [w64 (by omega) (by omega)]
  refine Ev.ite (fun c => ?_) (fun c => Ev.ret ?_)
  · have hw := spec_l2Word_ev n k.toNat (by omega) (by omega) (by omega)
    rw [show ((k.toNat : Nat) : Int) = k by omega] at hw
    refine Ev.bind hw (Ev.ret ?_)
    unfold wordOf; rw [if_pos ⟨h.1, h.2, decide_eq_true c⟩]
  · unfold wordOf fitsB; rw [if_neg]; rintro ⟨_, _, h3⟩; exact c (of_decide_eq_true h3)

theorem impl_CoinsFor_ev (k : Int) : Ev (fun n => impl_CoinsFor.f n k) (if 2 ≤ k ∧ k ≤ 5 then (3 ^ k.toNat - 3) / 2 else 0) := by
  simp only [impl_CoinsFor.f]
  refine Ev.ite (fun h => Ev.ret (by rw [if_neg (by omega)])) (fun h => Ev.ite (fun h1 => Ev.ret (by rw [if_neg (by omega)])) (fun h1 => ?_))
  rw [if_pos (by omega)]
  refine Ev.bind (impl_power_ev k (by omega) (by omega)) (Ev.ret ?_)
  have h2 := pow3_30 (i := k.toNat) (by omega)
  have h4 : (3 : Int) ^ 2 ≤ 3 ^ k.toNat := pow3_mono (by omega)
  rw [w64 (n := _ - 3) (by omega) (by omega), Int.tdiv_eq_ediv_of_nonneg (by omega), w64 (by omega) (by omega)]

end Go.Proofs.Ytffohdlbkigehaa.LemFnForward
