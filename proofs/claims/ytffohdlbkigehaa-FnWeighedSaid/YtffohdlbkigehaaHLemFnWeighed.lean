/- Lemmas: what each function that this statement reaches computes. -/
import Derived.Test.YtffohdlbkigehaaHFnWeighedx6
import Derived.Test.YtffohdlbkigehaaBase
import Derived.Test.YtffohdlbkigehaaWordM
set_option linter.unusedVariables false
set_option linter.unusedSimpArgs false
namespace Go.Proofs.Ytffohdlbkigehaa.LemFnWeighed
open Go.RowKit Go.Proofs.YtffohdlbkigehaaW.PrintWords Go.Proofs.YtffohdlbkigehaaW.PrintLast Go.Proofs.YtffohdlbkigehaaW.PrintMore Go.Proofs.Ytffohdlbkigehaa.HFnWeighed Go.Proofs.Ytffohdlbkigehaa.Base

theorem impl_carried_eq (n : Int) (h : -4 ≤ n ∧ n ≤ 4) : impl_carried.f n = some (if n > 1 then n - 3 else if n < -1 then n + 3 else n, if n > 1 then 1 else if n < -1 then -1 else 0) := by
  unfold impl_carried.f
  by_cases h1 : n > 1
  · rw [if_pos h1, if_pos h1, if_pos h1, w64 (by omega) (by omega)]
  · rw [if_neg h1, if_neg h1, if_neg h1]
    by_cases h2 : n < -1
    · rw [if_pos h2, if_pos h2, if_pos h2, w64 (by omega) (by omega)]
    · rw [if_neg h2, if_neg h2, if_neg h2]

theorem impl_power_l (n : Nat) (hn : n ≤ 30) : ∀ (d i : Nat), i + d = n → Ev (fun k => impl_power.l0 k ((3 : Int) ^ i) n i) ((3 : Int) ^ n) := by
  intro d
  induction d with
  | zero =>
    intro i hi
    apply Ev.succ
    simp only [impl_power.l0.eq_2]
    refine Ev.neg (by omega) (Ev.ret ?_)
    rw [← hi]; rfl
  | succ d ih =>
    intro i hi
    apply Ev.succ
    simp only [impl_power.l0.eq_2]
    have h1 := pow3_30 (i := i + 1) (by omega)
    have h2 := pow3_pos i
    rw [pow3_succ] at h1
    refine Ev.pos (by omega) ?_
    rw [w64 (by omega) (by omega), w64 (by omega) (by omega), Int.mul_comm, ← pow3_succ]
    exact ih (i + 1) (by omega)
theorem impl_power_ev (n : Int) (h0 : 0 ≤ n) (hn : n ≤ 30) : Ev (fun k => impl_power.f k n) ((3 : Int) ^ n.toNat) := by
  obtain ⟨m, rfl⟩ : ∃ m : Nat, n = m := ⟨n.toNat, by omega⟩
  exact impl_power_l m (by omega) m 0 (by omega)

theorem impl_LimitOf_ev (k : Int) : Ev (fun n => impl_LimitOf.f n k) (lim k) := by
  simp only [impl_LimitOf.f]
  unfold lim
  refine Ev.ite (fun h => Ev.ret (by rw [if_neg (by omega)])) (fun h => Ev.ite (fun h1 => Ev.ret (by rw [if_neg (by omega)])) (fun h1 => ?_))
  rw [if_pos (by omega)]
  refine Ev.bind (impl_power_ev k (by omega) (by omega)) (Ev.ret ?_)
  have h2 := pow3_30 (i := k.toNat) (by omega)
  have h3 := pow3_pos k.toNat
  rw [w64 (n := _ - 1) (by omega) (by omega), Int.tdiv_eq_ediv_of_nonneg (by omega), w64 (by omega) (by omega)]

theorem impl_fits_ev (n k : Int) : Ev (fun m => impl_fits.f m n k) (fitsB n k) := by
  simp only [impl_fits.f]
  have h1 := lim_nonneg k
  have h2 := lim_le k
  refine Ev.bind (impl_LimitOf_ev k) ?_
  rw [w64 (by omega) (by omega)]
  refine Ev.ite (fun h => Ev.bind (impl_LimitOf_ev k) (Ev.ret ?_)) (fun h => Ev.ret ?_)
  · unfold fitsB; exact decide_eq_decide.2 (by omega)
  · unfold fitsB; rw [decide_eq_false]; omega

theorem tmod3 (n : Int) : Int.tmod n 3 = if 0 ≤ n then n % 3 else -((-n) % 3) := by
  split
  · exact Int.tmod_eq_emod_of_nonneg (by omega)
  · have h : Int.tmod (-n) 3 = (-n) % 3 := Int.tmod_eq_emod_of_nonneg (by omega)
    rw [Int.neg_tmod] at h; omega
theorem tdiv3 (n : Int) (h : n % 3 = 0) : Int.tdiv n 3 = n / 3 := by
  rw [Int.tdiv_eq_ediv_of_dvd (Int.dvd_of_emod_eq_zero h)]
theorem impl_WordOf_l (k : Nat) (hk : k ≤ 30) : ∀ (d i : Nat) (n : Int) (o : List Int), i + d = k → o.length = i → -100000000000000000 ≤ n → n ≤ 100000000000000000 → Ev (fun m => impl_WordOf.l0 m n o k i) (o ++ word d n, true) := by
  intro d
  induction d with
  | zero =>
    intro i n o hi ho h0 h1
    apply Ev.succ
    simp only [impl_WordOf.l0.eq_2]
    exact Ev.neg (by omega) (Ev.ret (by simp [word]))
  | succ d ih =>
    intro i n o hi ho h0 h1
    apply Ev.succ
    simp only [impl_WordOf.l0.eq_2]
    have ht := tmod3 n
    generalize hr : Int.tmod n 3 = r at *
    have h2 : -2 ≤ r ∧ r ≤ 2 ∧ (r - n) % 3 = 0 := by split at ht <;> omega
    refine Ev.pos (by omega) (Ev.bindc (impl_carried_eq r (by omega)) ?_)
    refine Ev.pos (by omega) ?_
    generalize hs : (if r > 1 then r - 3 else if r < -1 then r + 3 else r) = s
    have hs2 : s = (n + 1) % 3 - 1 := by split at hs <;> first | omega | (split at hs <;> omega)
    have e : Int.tdiv (n - s) 3 = (n + 1) / 3 := by rw [tdiv3 _ (by omega)]; omega
    rw [w64 (n := n - s) (by omega) (by omega), e, w64 (by omega) (by omega), w64 (by omega) (by omega)]
    refine evTo (ih (i + 1) ((n + 1) / 3) (o ++ [s]) (by omega) (by simp [ho]) (by omega) (by omega)) ?_
    rw [word, hs2]; simp
theorem impl_WordOf_ev (n k : Int) : Ev (fun m => impl_WordOf.f m n k) (wordOf n k) := by
  simp only [impl_WordOf.f]
  have no : ¬ (1 ≤ k ∧ k ≤ 30 ∧ fitsB n k = true) → Ev (fun m => impl_WordOf.j0 m n k true) (wordOf n k) := by
    intro h
    apply Ev.succ
    simp only [impl_WordOf.j0.eq_2]
    exact Ev.pos (by simp) (Ev.ret (by unfold wordOf; rw [if_neg h]))
  refine Ev.ite (fun h => no (by omega)) (fun h => Ev.ite (fun h1 => no (by omega)) (fun h1 => ?_))
  refine Ev.bind (impl_fits_ev n k) ?_
  by_cases c : fitsB n k = true
  · rw [c]
    apply Ev.succ
    simp only [impl_WordOf.j0.eq_2]
    refine Ev.neg (by simp) ?_
    have hf := c
    unfold fitsB at hf
    have h2 := lim_nonneg k
    have h3 := lim_le k
    have h4 := of_decide_eq_true hf
    have hl := impl_WordOf_l k.toNat (by omega) k.toNat 0 n [] (by omega) rfl (by omega) (by omega)
    rw [show ((k.toNat : Nat) : Int) = k by omega] at hl
    unfold wordOf; rw [if_pos ⟨by omega, by omega, c⟩]
    simpa using hl
  · rw [Bool.not_eq_true] at c
    rw [c]
    exact no (by rw [c]; simp)

theorem impl_WeighThing_l (w : List Int) (hw : w.length ≤ 30) : ∀ (d i : Nat) (L R : List Int), i + d = w.length → L.length ≤ i → R.length ≤ i → Ev (fun k => impl_WeighThing.l0 k w w.length i L R) (L ++ idx (-1) (w.drop i) i, R ++ idx 1 (w.drop i) i, true) := by
  intro d
  induction d with
  | zero =>
    intro i L R hi hL hR
    apply Ev.succ
    simp only [impl_WeighThing.l0.eq_2]
    refine Ev.neg (by omega) (Ev.ret ?_)
    rw [List.drop_eq_nil_of_le (by omega)]; simp [idx]
  | succ d ih =>
    intro i L R hi hL hR
    apply Ev.succ
    simp only [impl_WeighThing.l0.eq_2]
    rw [rd_get w i (by omega), drop_cons w i (by omega), w64 (by omega) (by omega), idx, idx]
    have e : (i : Int) + 1 = ((i + 1 : Nat) : Int) := by omega
    rw [e]
    refine Ev.pos (by omega) (Ev.pos (by omega) (Ev.pos (by omega) ?_))
    refine Ev.ite (fun c => ?_) (fun c => Ev.ite (fun c1 => ?_) (fun c1 => ?_))
    · refine Ev.pos (by omega) (evTo (ih (i + 1) L (R ++ [(i : Int)]) (by omega) (by omega) (by simp; omega)) ?_)
      rw [if_neg (by omega), if_pos c]; simp
    · refine Ev.pos (by omega) (evTo (ih (i + 1) (L ++ [(i : Int)]) R (by omega) (by simp; omega) (by omega)) ?_)
      rw [if_pos c1, if_neg c]; simp
    · refine evTo (ih (i + 1) L R (by omega) (by omega) (by omega)) ?_
      rw [if_neg c1, if_neg c]
/-- What WeighThing gives. -/
def weighT (n : Int) : List Int × List Int × Bool := if 0 ≤ n ∧ n ≤ L3 30 then (idx (-1) (word 30 n) 0, idx 1 (word 30 n) 0, true) else ([], [], false)
theorem impl_WeighThing_ev (n : Int) : Ev (fun k => impl_WeighThing.f k n) (weighT n) := by
  simp only [impl_WeighThing.f]
  refine Ev.bind (impl_WordOf_ev n 30) ?_
  have hf := fitsB_iff n 30 (by omega)
  have no : ∀ w, ¬ (0 ≤ n ∧ n ≤ L3 30) → Ev (fun k => impl_WeighThing.j0 k w true) (weighT n) := by
    intro w h
    apply Ev.succ
    simp only [impl_WeighThing.j0.eq_2]
    exact Ev.pos (by simp) (Ev.ret (by unfold weighT; rw [if_neg h]))
  have h30 := L3_nonneg 30
  unfold wordOf
  by_cases c : fitsB n 30 = true
  · rw [if_pos ⟨by omega, by omega, c⟩]
    have h2 := hf.1 c
    refine Ev.pos rfl ?_
    by_cases c2 : n < 0
    · rw [decide_eq_true c2]; exact no _ (by omega)
    · rw [decide_eq_false c2]
      apply Ev.succ
      simp only [impl_WeighThing.j0.eq_2]
      refine Ev.neg (by simp) ?_
      have hl := impl_WeighThing_l (word 30 n) (by rw [word_length]; omega) 30 0 [] [] (by rw [word_length]) (by simp) (by simp)
      unfold weighT; rw [if_pos ⟨by omega, h2.2⟩]
      simpa using hl
  · rw [if_neg (fun h => c h.2.2)]
    refine Ev.neg (by simp) (no _ (fun h => c (hf.2 ⟨by omega, h.2⟩)))

theorem and_range (x y : Int) (h0 : 0 ≤ y) (h1 : y < 9223372036854775808) : 0 ≤ Go.bits .and .i64 x y ∧ Go.bits .and .i64 x y ≤ y := by
  unfold Go.bits
  have h2 : (BitVec.ofInt 64 x &&& BitVec.ofInt 64 y).toNat ≤ (BitVec.ofInt 64 y).toNat := by
    rw [BitVec.toNat_and]; exact Nat.and_le_right
  have h3 : ((BitVec.ofInt 64 y).toNat : Int) = y := by
    rw [BitVec.toNat_ofInt]
    have : (y % (2 ^ 64 : Nat)) = y := Int.emod_eq_of_lt h0 (by omega)
    omega
  show 0 ≤ IntKind.i64.wrap ((BitVec.ofInt 64 x &&& BitVec.ofInt 64 y).toNat : Int) ∧ IntKind.i64.wrap ((BitVec.ofInt 64 x &&& BitVec.ofInt 64 y).toNat : Int) ≤ y
  have h4 : IntKind.i64.wrap ((BitVec.ofInt 64 x &&& BitVec.ofInt 64 y).toNat : Int) = wrap64 ((BitVec.ofInt 64 x &&& BitVec.ofInt 64 y).toNat : Int) := i64_w _
  rw [h4, w64 (by omega) (by omega)]
  omega
theorem spec_l01Byte_ev (b : List Int) (hb : b.length ≤ 1000000000) (i h : Int) (h0 : 0 ≤ i) : ∃ x j g, spec_l01Byte.f b i h = some (x, j, g) ∧ (0 ≤ x ∧ x ≤ 255) ∧ 0 ≤ j := by
  unfold spec_l01Byte.f
  by_cases c : i < (b.length : Int)
  · rw [if_pos c, if_pos h0]
    exact ⟨_, _, _, rfl, and_range _ 255 (by omega) (by omega), by rw [w64 (by omega) (by omega)]; omega⟩
  · rw [if_neg c]
    exact ⟨_, _, _, rfl, and_range _ 255 (by omega) (by omega), h0⟩

theorem spec_l01Below_ev (b : List Int) (hb : b.length ≤ 1000000000) (i h n : Int) (h0 : 0 ≤ i) : ∃ x j g, spec_l01Below.f b i h n = some (x, j, g) ∧ (0 ≤ x ∧ (1 ≤ n → x < n)) ∧ 0 ≤ j := by
  unfold spec_l01Below.f
  by_cases c : n ≤ 0
  · rw [if_pos c]; exact ⟨_, _, _, rfl, ⟨by omega, by omega⟩, h0⟩
  · rw [if_neg c]
    obtain ⟨x1, j1, g1, e1, b1, i1⟩ := spec_l01Byte_ev b hb i h h0
    by_cases c2 : n ≤ 256
    · rw [if_pos c2, e1]
      simp only [Option.bind_some]
      rw [if_neg (by omega), Int.tmod_eq_emod_of_nonneg (by omega)]
      refine ⟨_, _, _, rfl, ⟨Int.emod_nonneg _ (by omega), fun _ => Int.emod_lt_of_pos _ (by omega)⟩, i1⟩
    · rw [if_neg c2, e1]
      simp only [Option.bind_some]
      obtain ⟨x2, j2, g2, e2, b2, i2⟩ := spec_l01Byte_ev b hb j1 g1 i1
      rw [e2]; simp only [Option.bind_some]
      obtain ⟨x3, j3, g3, e3, b3, i3⟩ := spec_l01Byte_ev b hb j2 g2 i2
      rw [e3]; simp only [Option.bind_some]
      obtain ⟨x4, j4, g4, e4, b4, i4⟩ := spec_l01Byte_ev b hb j3 g3 i3
      rw [e4]; simp only [Option.bind_some]
      rw [if_neg (by omega)]
      rw [w64 (n := x1 * 16777216) (by omega) (by omega), w64 (n := x2 * 65536) (by omega) (by omega), w64 (n := x3 * 256) (by omega) (by omega), w64 (n := x1 * 16777216 + x2 * 65536) (by omega) (by omega), w64 (n := x1 * 16777216 + x2 * 65536 + x3 * 256) (by omega) (by omega), w64 (n := x1 * 16777216 + x2 * 65536 + x3 * 256 + x4) (by omega) (by omega), Int.tmod_eq_emod_of_nonneg (by omega)]
      refine ⟨_, _, _, rfl, ⟨Int.emod_nonneg _ (by omega), fun _ => Int.emod_lt_of_pos _ (by omega)⟩, i4⟩

theorem fill_trits {w : List Int} {i : Nat} {v : Int} (hv : -1 ≤ v ∧ v ≤ 1) (h : ∀ a ∈ w, -1 ≤ a ∧ a ≤ 1) : ∀ a ∈ w.set i v, -1 ≤ a ∧ a ≤ 1 := by
  intro a ha
  rcases List.mem_or_eq_of_mem_set ha with h1 | h1
  · exact h a h1
  · rw [h1]; exact hv
theorem spec_l2Draw_l1 (b : List Int) (j g : Int) : ∀ (d i : Nat) (w : List Int), i + d = w.length → w.length ≤ 100 → (∀ a ∈ w, -1 ≤ a ∧ a ≤ 1) → ∃ v, Ev (fun k => spec_l2Draw.l1 k w w.length i b j g) (v, j, g) ∧ v.length = w.length ∧ ∀ a ∈ v, -1 ≤ a ∧ a ≤ 1 := by
  intro d
  induction d with
  | zero =>
    intro i w hi hw ht
    refine ⟨w, ?_, rfl, ht⟩
    apply Ev.succ
    simp only [spec_l2Draw.l1.eq_2]
    exact Ev.neg (by omega) (Ev.now _)
  | succ d ih =>
    intro i w hi hw ht
    obtain ⟨v, hv, hl, hvt⟩ := ih (i + 1) (w.set i 1) (by simp; omega) (by simpa using hw) (fill_trits (by omega) ht)
    simp only [List.length_set] at hv hl
    refine ⟨v, ?_, hl, hvt⟩
    apply Ev.succ
    simp only [spec_l2Draw.l1.eq_2]
    refine Ev.pos (by omega) (Ev.pos (by omega) (Ev.pos (by omega) ?_))
    rw [w64 (by omega) (by omega)]
    exact hv
theorem spec_l2Draw_l2 (b : List Int) (j g : Int) : ∀ (d i : Nat) (w : List Int), i + d = w.length → w.length ≤ 100 → (∀ a ∈ w, -1 ≤ a ∧ a ≤ 1) → ∃ v, Ev (fun k => spec_l2Draw.l2 k w w.length i b j g) (v, j, g) ∧ v.length = w.length ∧ ∀ a ∈ v, -1 ≤ a ∧ a ≤ 1 := by
  intro d
  induction d with
  | zero =>
    intro i w hi hw ht
    refine ⟨w, ?_, rfl, ht⟩
    apply Ev.succ
    simp only [spec_l2Draw.l2.eq_2]
    exact Ev.neg (by omega) (Ev.now _)
  | succ d ih =>
    intro i w hi hw ht
    obtain ⟨v, hv, hl, hvt⟩ := ih (i + 1) (w.set i (-1)) (by simp; omega) (by simpa using hw) (fill_trits (by omega) ht)
    simp only [List.length_set] at hv hl
    refine ⟨v, ?_, hl, hvt⟩
    apply Ev.succ
    simp only [spec_l2Draw.l2.eq_2]
    refine Ev.pos (by omega) (Ev.pos (by omega) (Ev.pos (by omega) ?_))
    rw [w64 (by omega) (by omega)]
    exact hv
theorem spec_l2Draw_l3 (b : List Int) (j g : Int) : ∀ (d i : Nat) (w : List Int), i + d = w.length → w.length ≤ 100 → (∀ a ∈ w, -1 ≤ a ∧ a ≤ 1) → ∃ v, Ev (fun k => spec_l2Draw.l3 k w w.length i b j g) (v, j, g) ∧ v.length = w.length ∧ ∀ a ∈ v, -1 ≤ a ∧ a ≤ 1 := by
  intro d
  induction d with
  | zero =>
    intro i w hi hw ht
    refine ⟨w, ?_, rfl, ht⟩
    apply Ev.succ
    simp only [spec_l2Draw.l3.eq_2]
    exact Ev.neg (by omega) (Ev.now _)
  | succ d ih =>
    intro i w hi hw ht
    obtain ⟨v, hv, hl, hvt⟩ := ih (i + 1) (w.set i 0) (by simp; omega) (by simpa using hw) (fill_trits (by omega) ht)
    simp only [List.length_set] at hv hl
    refine ⟨v, ?_, hl, hvt⟩
    apply Ev.succ
    simp only [spec_l2Draw.l3.eq_2]
    refine Ev.pos (by omega) (Ev.pos (by omega) (Ev.pos (by omega) ?_))
    rw [w64 (by omega) (by omega)]
    exact hv
theorem spec_l2Draw_l0 (b : List Int) (hb : b.length ≤ 1000000000) : ∀ (d : Nat) (j g : Int) (w : List Int), d + w.length ≤ 100 → 0 ≤ j → (∀ a ∈ w, -1 ≤ a ∧ a ≤ 1) → ∃ v j' g', Ev (fun k => spec_l2Draw.l0 k w d b j g) (v, j', g') ∧ v.length = d + w.length ∧ (∀ a ∈ v, -1 ≤ a ∧ a ≤ 1) ∧ 0 ≤ j' := by
  intro d
  induction d with
  | zero =>
    intro j g w hw hj ht
    obtain ⟨x, j1, g1, e1, b1, i1⟩ := spec_l01Below_ev b hb j g 12 hj
    by_cases c0 : x = 0
    · obtain ⟨v, hv, hl, hvt⟩ := spec_l2Draw_l1 b j1 g1 w.length 0 w (by omega) (by omega) ht
      refine ⟨v, j1, g1, ?_, by omega, hvt, i1⟩
      apply Ev.succ
      simp only [spec_l2Draw.l0.eq_2]
      refine Ev.neg (by omega) (Ev.bindc e1 ?_)
      exact Ev.pos c0 hv
    · by_cases c1 : x = 1
      · obtain ⟨v, hv, hl, hvt⟩ := spec_l2Draw_l2 b j1 g1 w.length 0 w (by omega) (by omega) ht
        refine ⟨v, j1, g1, ?_, by omega, hvt, i1⟩
        apply Ev.succ
        simp only [spec_l2Draw.l0.eq_2]
        refine Ev.neg (by omega) (Ev.bindc e1 ?_)
        exact Ev.neg c0 (Ev.pos c1 hv)
      · by_cases c2 : x = 2
        · obtain ⟨v, hv, hl, hvt⟩ := spec_l2Draw_l3 b j1 g1 w.length 0 w (by omega) (by omega) ht
          refine ⟨v, j1, g1, ?_, by omega, hvt, i1⟩
          apply Ev.succ
          simp only [spec_l2Draw.l0.eq_2]
          refine Ev.neg (by omega) (Ev.bindc e1 ?_)
          exact Ev.neg c0 (Ev.neg c1 (Ev.pos c2 hv))
        · refine ⟨w, j1, g1, ?_, by omega, ht, i1⟩
          apply Ev.succ
          simp only [spec_l2Draw.l0.eq_2]
          refine Ev.neg (by omega) (Ev.bindc e1 ?_)
          exact Ev.neg c0 (Ev.neg c1 (Ev.neg c2 (Ev.now _)))
  | succ d ih =>
    intro j g w hw hj ht
    obtain ⟨x, j1, g1, e1, b1, i1⟩ := spec_l01Below_ev b hb j g 3 hj
    have hx := b1.2 (by omega)
    obtain ⟨v, j2, g2, hv, hl, hvt, i2⟩ := ih j1 g1 (w ++ [x - 1]) (by simp; omega) i1 (by
      intro a ha
      rcases List.mem_append.1 ha with h | h
      · exact ht a h
      · simp at h; omega)
    refine ⟨v, j2, g2, ?_, by simp at hl; omega, hvt, i2⟩
    apply Ev.succ
    simp only [spec_l2Draw.l0.eq_2]
    refine Ev.pos (by omega) (Ev.bindc e1 ?_)
    refine Ev.pos (by omega) ?_
    rw [w64 (n := x - 1) (by omega) (by omega), w64 (by omega) (by omega), show ((d + 1 : Nat) : Int) - 1 = (d : Int) by omega]
    exact hv
theorem spec_l2Draw_ev (b : List Int) (hb : b.length ≤ 1000000000) (j g n : Int) (hj : 0 ≤ j) (h1 : 1 ≤ n) (hn : n ≤ 90) : ∃ v j' g', Ev (fun k => spec_l2Draw.f k b j g n) (v, j', g') ∧ (1 ≤ v.length ∧ (v.length : Int) ≤ n) ∧ (∀ a ∈ v, -1 ≤ a ∧ a ≤ 1) ∧ 0 ≤ j' := by
  simp only [spec_l2Draw.f]
  obtain ⟨x, j1, g1, e1, b1, i1⟩ := spec_l01Below_ev b hb j g n hj
  have hx := b1.2 h1
  obtain ⟨v, j2, g2, hv, hl, hvt, i2⟩ := spec_l2Draw_l0 b hb (1 + x).toNat j1 g1 [] (by simp; omega) i1 (by simp)
  refine ⟨v, j2, g2, ?_, ⟨by simp at hl; omega, by simp at hl; omega⟩, hvt, i2⟩
  refine Ev.bindc e1 ?_
  rw [w64 (by omega) (by omega)]
  rw [show (((1 + x).toNat : Nat) : Int) = 1 + x by omega] at hv
  exact hv

theorem spec_l01New_l (b : List Int) : ∀ (d i : Nat) (h : Int), i + d = 4000 → ∃ g, Ev (fun k => spec_l01New.l0 k b h i) (b, 0, g) := by
  intro d
  induction d with
  | zero =>
    intro i h hi
    refine ⟨h, ?_⟩
    apply Ev.succ
    simp only [spec_l01New.l0.eq_2]
    refine Ev.ite (fun c => Ev.neg (by omega) (Ev.now _)) (fun c => Ev.now _)
  | succ d ih =>
    intro i h hi
    by_cases c : (i : Int) < (b.length : Int)
    · obtain ⟨g, hg⟩ := ih (i + 1) (Go.bits .and .i64 (wrap64 ((wrap64 ((wrap64 (h * 1103)) + (wrap64 (rd b i)))) + 7)) 1073741823) (by omega)
      refine ⟨g, ?_⟩
      apply Ev.succ
      simp only [spec_l01New.l0.eq_2]
      refine Ev.pos c (Ev.pos (by omega) (Ev.pos (by omega) ?_))
      rw [w64 (n := (i : Int) + 1) (by omega) (by omega)]
      exact hg
    · refine ⟨h, ?_⟩
      apply Ev.succ
      simp only [spec_l01New.l0.eq_2]
      exact Ev.neg c (Ev.now _)
theorem spec_l01New_ev (b : List Int) : ∃ g, Ev (fun k => spec_l01New.f k b) (b, 0, g) := by
  simp only [spec_l01New.f]
  exact spec_l01New_l b 4000 0 _ (by omega)

theorem mx_eq (a b : Int) : mx a b = max a b := by unfold mx; omega
theorem mn_eq (a b : Int) : mn a b = min a b := by unfold mn; omega
theorem spec_MakeWord_ev (b : List Int) (hb : b.length ≤ 1000000000) (n : Int) (h1 : 1 ≤ n) (hn : n ≤ 30) : ∃ w, Ev (fun k => spec_MakeWord.f k b n) w ∧ isWord w = true ∧ (w.length : Int) ≤ n := by
  simp only [spec_MakeWord.f, mx_eq, mn_eq]
  obtain ⟨g, hg⟩ := spec_l01New_ev b
  obtain ⟨v, j, g', hv, hl, ht, _⟩ := spec_l2Draw_ev b hb 0 g (max 1 (min n 30)) (by omega) (by omega) (by omega)
  refine ⟨v, Ev.bind hg (Ev.bind hv (Ev.now _)), (isWord_iff v).2 ⟨by omega, ht⟩, by omega⟩

theorem spec_l1In_eq (a b c : Int) : spec_l1In.f a b c = some (decide (b ≤ a ∧ a ≤ c)) := by
  unfold spec_l1In.f
  by_cases h : b ≤ a
  · rw [if_pos (by omega)]; simp [h]
  · rw [if_neg (by omega)]; simp [h]

theorem spec_l2Word_l (k : Nat) (hk : k ≤ 30) : ∀ (d i : Nat) (n : Int) (o : List Int), i + d = k → o.length = i → -100000000000000000 ≤ n → n ≤ 100000000000000000 → Ev (fun m => spec_l2Word.l0 m n k o i) (o ++ word d n) := by
  intro d
  induction d with
  | zero =>
    intro i n o hi ho h0 h1
    apply Ev.succ
    simp only [spec_l2Word.l0.eq_2]
    exact Ev.neg (by omega) (Ev.ret (by simp [word]))
  | succ d ih =>
    intro i n o hi ho h0 h1
    apply Ev.succ
    simp only [spec_l2Word.l0.eq_2]
    have ht : Int.tmod n 3 = if 0 ≤ n then n % 3 else -((-n) % 3) := by
      split
      · exact Int.tmod_eq_emod_of_nonneg (by omega)
      · have h : Int.tmod (-n) 3 = (-n) % 3 := Int.tmod_eq_emod_of_nonneg (by omega)
        rw [Int.neg_tmod] at h; omega
    generalize hr : Int.tmod n 3 = r at *
    have h2 : -2 ≤ r ∧ r ≤ 2 ∧ (r - n) % 3 = 0 := by split at ht <;> omega
    have next : ∀ s : Int, s = (n + 1) % 3 - 1 → Ev (fun m => spec_l2Word.l0 m (wrap64 (Int.tdiv (wrap64 (n - s)) 3)) k (o ++ [s]) (wrap64 ((i : Int) + 1))) (o ++ word (d + 1) n) := by
      intro s hs
      have e : Int.tdiv (n - s) 3 = (n + 1) / 3 := by
        rw [Int.tdiv_eq_ediv_of_dvd (Int.dvd_of_emod_eq_zero (by omega))]; omega
      rw [w64 (n := n - s) (by omega) (by omega), e, w64 (by omega) (by omega), w64 (by omega) (by omega)]
      refine evTo (ih (i + 1) ((n + 1) / 3) (o ++ [s]) (by omega) (by simp [ho]) (by omega) (by omega)) ?_
      rw [word, hs]; simp
    rw [w64 (n := r - 3) (by omega) (by omega), w64 (n := r + 3) (by omega) (by omega)]
    refine Ev.pos (by omega) (Ev.ite (fun c => Ev.neg (by omega) (Ev.pos (by omega) (next _ (by omega)))) (fun c => Ev.ite (fun c1 => Ev.pos (by omega) (next _ (by omega))) (fun c1 => Ev.pos (by omega) (next _ (by omega)))))
theorem spec_l2Word_ev (n : Int) (k : Nat) (hk : k ≤ 30) (h0 : -100000000000000000 ≤ n) (h1 : n ≤ 100000000000000000) : Ev (fun m => spec_l2Word.f m n k) (word k n) := by
  simp only [spec_l2Word.f]
  exact spec_l2Word_l k hk k 0 n [] (by omega) rfl h0 h1

theorem spec_LimitOf_l (n : Nat) (hn : n ≤ 30) : ∀ (d i : Nat), i + d = n → Ev (fun k => spec_LimitOf.l0 k n (((3 : Int) ^ i - 1) / 2) i) (((3 : Int) ^ n - 1) / 2) := by
  intro d
  induction d with
  | zero =>
    intro i hi
    apply Ev.succ
    simp only [spec_LimitOf.l0.eq_2]
    refine Ev.neg (by omega) (Ev.ret ?_)
    rw [← hi]; rfl
  | succ d ih =>
    intro i hi
    apply Ev.succ
    simp only [spec_LimitOf.l0.eq_2]
    have h1 := pow3_30 (i := i + 1) (by omega)
    have h2 := pow3_pos i
    have h3 := pow3_lim i
    have h4 := pow3_lim (i + 1)
    rw [pow3_succ] at h1 h4
    refine Ev.pos (by omega) ?_
    rw [w64 (n := _ * _) (by omega) (by omega), w64 (by omega) (by omega), w64 (by omega) (by omega)]
    refine (ih (i + 1) (by omega)).congr (fun k => ?_)
    refine congrArg (fun z => spec_LimitOf.l0 k n z _) ?_
    rw [pow3_succ]; omega
theorem spec_LimitOf_ev (n : Int) : Ev (fun k => spec_LimitOf.f k n) (lim n) := by
  simp only [spec_LimitOf.f, spec_l1In_eq, Option.bind_some, decide_eq_true_eq]
  unfold lim
  refine Ev.ite (fun h => ?_) (fun h => Ev.ret (by rw [if_neg h]))
  obtain ⟨m, rfl⟩ : ∃ m : Nat, n = m := ⟨n.toNat, by omega⟩
  rw [if_pos h]
  exact spec_LimitOf_l m (by omega) m 0 (by omega)

theorem spec_WordOf_ev (n k : Int) : Ev (fun m => spec_WordOf.f m n k) (wordOf n k) := by
  simp only [spec_WordOf.f, spec_l1In_eq, Option.bind_some, decide_eq_true_eq]
  have h1 := lim_nonneg k
  have h2 := lim_le k
  refine Ev.ite (fun h => ?_) (fun h => Ev.ret (by unfold wordOf; rw [if_neg (by omega)]))
  refine Ev.bind (spec_LimitOf_ev k) (Ev.bind (spec_LimitOf_ev k) ?_)
  rw [w64 (by omega) (by omega)]
  refine Ev.ite (fun c => ?_) (fun c => Ev.ret ?_)
  · have hw := spec_l2Word_ev n k.toNat (by omega) (by omega) (by omega)
    rw [show ((k.toNat : Nat) : Int) = k by omega] at hw
    refine Ev.bind hw (Ev.ret ?_)
    unfold wordOf; rw [if_pos ⟨h.1, h.2, decide_eq_true c⟩]
  · unfold wordOf fitsB; rw [if_neg]; rintro ⟨_, _, h3⟩; exact c (of_decide_eq_true h3)

theorem slices_Grow_eq (n : Int) (h0 : 0 ≤ n) (h : n ≤ 17592186044415) : slices_Grow_int_int.f [] n = some [] := by
  unfold slices_Grow_int_int.f; rw [if_pos ⟨rfl, h0, h⟩]
def total : List (List Int) → Nat
  | [] => 0
  | a :: l => a.length + total l
theorem total_join (l : List (List Int)) : l.flatten.length = total l := by
  induction l with
  | nil => rfl
  | cons a l ih => rw [List.flatten_cons, List.length_append, ih]; rfl
theorem total_append (a b : List (List Int)) : total (a ++ b) = total a + total b := by
  induction a with
  | nil => simp [total]
  | cons x a ih => rw [List.cons_append, total, total, ih]; omega
theorem rdll_get (xs : List (List Int)) (i : Nat) (h : i < xs.length) : rd_L2 xs (i : Int) = xs[i] := by
  simp [rd_L2, List.getD_eq_getElem?_getD, List.getElem?_eq_getElem h]
theorem total_take_le (l : List (List Int)) (i : Nat) : total (l.take i) ≤ total l := by
  have : total l = total (l.take i) + total (l.drop i) := by rw [← total_append, List.take_append_drop]
  omega
theorem slices_Concat_l1 (l : List (List Int)) (hn : l.length ≤ 1000000000) (ht : total l ≤ 1000000000000) : ∀ (d i : Nat), i + d = l.length → Ev (fun k => slices_Concat_int_int.l1 k (l.take i).flatten l l.length i) l.flatten := by
  intro d
  induction d with
  | zero =>
    intro i hi
    apply Ev.succ
    simp only [slices_Concat_int_int.l1.eq_2]
    exact Ev.neg (by omega) (Ev.ret (by rw [List.take_of_length_le (by omega)]))
  | succ d ih =>
    intro i hi
    apply Ev.succ
    simp only [slices_Concat_int_int.l1.eq_2]
    have h1 := ih (i + 1) (by omega)
    have h2 := total_take_le l (i + 1)
    rw [take_snoc l i (by omega)] at h1 h2
    rw [List.flatten_append, List.flatten_cons, List.flatten_nil, List.append_nil] at h1
    rw [total_append] at h2
    simp only [total] at h2
    rw [rdll_get l i (by omega), w64 (by omega) (by omega)]
    refine Ev.pos (by omega) (Ev.pos (by omega) (Ev.pos (by omega) (Ev.pos ?_ h1)))
    rw [total_join]; omega
theorem slices_Concat_l0 (l : List (List Int)) (hn : l.length ≤ 1000000000) (ht : total l ≤ 1000000000000) : ∀ (d i : Nat), i + d = l.length → Ev (fun k => slices_Concat_int_int.l0 k l (total (l.take i) : Nat) l l.length i) l.flatten := by
  intro d
  induction d with
  | zero =>
    intro i hi
    apply Ev.succ
    simp only [slices_Concat_int_int.l0.eq_2]
    have h2 := total_take_le l i
    refine Ev.neg (by omega) (Ev.bindc (slices_Grow_eq _ (by omega) (by omega)) ?_)
    exact slices_Concat_l1 l hn ht l.length 0 (by omega)
  | succ d ih =>
    intro i hi
    apply Ev.succ
    simp only [slices_Concat_int_int.l0.eq_2]
    have h1 := ih (i + 1) (by omega)
    have h2 := total_take_le l (i + 1)
    rw [take_snoc l i (by omega), total_append] at h1 h2
    simp only [total] at h1 h2
    rw [rdll_get l i (by omega), w64 (n := (i : Int) + 1) (by omega) (by omega), w64 (by omega) (by omega)]
    refine Ev.pos (by omega) (Ev.pos (by omega) (Ev.pos (by omega) (Ev.neg (by omega) ?_)))
    have e : ((total (l.take i) + (l[i].length + 0) : Nat) : Int) = (total (l.take i) : Int) + (l[i].length : Int) := by omega
    rw [e] at h1
    exact h1
theorem slices_Concat_ev (l : List (List Int)) (hn : l.length ≤ 1000000000) (ht : total l ≤ 1000000000000) : Ev (fun k => slices_Concat_int_int.f k l) l.flatten := by
  simp only [slices_Concat_int_int.f]
  exact slices_Concat_l0 l hn ht l.length 0 (by omega)

theorem impl_SignOf_eq (n : Int) : impl_SignOf.f n = some (sgn n) := by
  unfold impl_SignOf.f sgn
  by_cases h : n < 0
  · rw [if_pos h, if_pos h]
  · rw [if_neg h, if_neg h]
    by_cases h1 : n > 0
    · rw [if_pos h1, if_pos h1]
    · rw [if_neg h1, if_neg h1]

theorem impl_LengthOf_l (n : Int) : ∀ (d i : Nat), i + d = 31 → Ev (fun k => impl_LengthOf.l0 k n i) (lenFrom n i d) := by
  intro d
  induction d with
  | zero =>
    intro i hi
    apply Ev.succ
    simp only [impl_LengthOf.l0.eq_2]
    exact Ev.neg (by omega) (Ev.now _)
  | succ d ih =>
    intro i hi
    apply Ev.succ
    simp only [impl_LengthOf.l0.eq_2]
    rw [lenFrom]
    refine Ev.pos (by omega) (Ev.bind (impl_fits_ev n i) ?_)
    refine Ev.ite (fun c => ?_) (fun c => ?_)
    · rw [if_pos c]; exact Ev.now _
    · rw [if_neg c, w64 (by omega) (by omega)]
      exact ih (i + 1) (by omega)
theorem impl_LengthOf_ev (n : Int) : Ev (fun k => impl_LengthOf.f k n) (lenOf n) := by
  simp only [impl_LengthOf.f]
  exact impl_LengthOf_l n 30 1 (by omega)

def p3 : List Int → Int
  | [] => 0
  | i :: is => 3 ^ i.toNat + p3 is
theorem p3_nonneg : ∀ l, 0 ≤ p3 l
  | [] => by simp [p3]
  | i :: is => by have := p3_nonneg is; have := pow3_pos i.toNat; simp only [p3]; omega
theorem bad_append : ∀ (l r s : List Int), impl_BalanceOf.bad s (l ++ r) = (impl_BalanceOf.bad s l || impl_BalanceOf.bad (s ++ l) r)
  | [], r, s => by simp [impl_BalanceOf.bad]
  | i :: l, r, s => by
    simp only [List.cons_append, impl_BalanceOf.bad, bad_append l r (s ++ [i])]
    simp [Bool.or_assoc]
theorem bad_range : ∀ (l s : List Int), impl_BalanceOf.bad s l = false → ∀ x ∈ l, 0 ≤ x ∧ x < 30
  | [], _, _ => by simp
  | i :: l, s, h => by
    simp only [impl_BalanceOf.bad, Bool.or_eq_false_iff, decide_eq_false_iff_not] at h
    intro x hx
    rcases List.mem_cons.1 hx with rfl | hx
    · omega
    · exact bad_range l _ h.2 x hx
theorem val_set : ∀ (w : List Int) (i : Nat) (v : Int) (h : i < w.length), val (w.set i v) = val w + (v - w[i]) * 3 ^ i
  | [], i, v, h => by simp at h
  | a :: w, 0, v, h => by simp [val]; omega
  | a :: w, i + 1, v, h => by
    have ih := val_set w i v (by simpa using h)
    simp only [List.set_cons_succ, val, ih, List.getElem_cons_succ, Int.pow_succ]
    generalize (3 : Int) ^ i = p
    have : (v - w[i]'(by simpa using h)) * (p * 3) = 3 * ((v - w[i]'(by simpa using h)) * p) := by
      rw [Int.mul_comm p 3, ← Int.mul_assoc, ← Int.mul_assoc, Int.mul_comm _ 3]
    omega
/-- One list of places: each within range and not yet taken gets v; none: there is a bad one. -/
def putB (v : Int) : List Int → List Int → Option (List Int)
  | [], tr => some tr
  | i :: is, tr => if 0 ≤ i ∧ i < 30 ∧ rd tr i = 0 then putB v is (tr.set i.toNat v) else none
/-- What stands where: exactly the places that were seen are taken. -/
def marks (tr seen : List Int) : Prop := tr.length = 30 ∧ (∀ j : Int, 0 ≤ j → j < 30 → (rd tr j = 0 ↔ seen.contains j = false)) ∧ ∀ a ∈ tr, -1 ≤ a ∧ a ≤ 1
theorem marks_zero : marks (List.replicate 30 0) [] := by
  refine ⟨by simp, fun j h0 h1 => ?_, fun a ha => ?_⟩
  · have h2 : j.toNat < 30 := by omega
    have e := rd_get (List.replicate 30 0) j.toNat (by simpa using h2)
    rw [show ((j.toNat : Nat) : Int) = j by omega, List.getElem_replicate] at e
    simp only [e, true_iff]
    rfl
  · have := List.eq_of_mem_replicate ha
    omega
theorem put_spec (v : Int) (hv : v = 1 ∨ v = -1) : ∀ (l seen tr : List Int), marks tr seen →
    (impl_BalanceOf.bad seen l = true → putB v l tr = none) ∧ (impl_BalanceOf.bad seen l = false → ∃ tr', putB v l tr = some tr' ∧ marks tr' (seen ++ l) ∧ val tr' = val tr + v * p3 l)
  | [], seen, tr, hm => ⟨by simp [impl_BalanceOf.bad], fun _ => ⟨tr, rfl, by simpa using hm, by simp [p3]⟩⟩
  | i :: l, seen, tr, hm => by
    obtain ⟨hl, hs, ht⟩ := hm
    simp only [impl_BalanceOf.bad, putB]
    by_cases h0 : i < 0
    · exact ⟨fun _ => if_neg (by omega), by simp [h0]⟩
    · by_cases h1 : 30 ≤ i
      · exact ⟨fun _ => if_neg (by omega), by simp [h1]⟩
      · have hsi := hs i (by omega) (by omega)
        cases hc : seen.contains i with
        | true => exact ⟨fun _ => if_neg (fun h => by rw [hsi.1 h.2.2] at hc; exact absurd hc (by simp)), by simp⟩
        | false =>
          have hz := hsi.2 hc
          have hil : i.toNat < tr.length := by omega
          have hget : tr[i.toNat] = 0 := by
            have e := rd_get tr i.toNat hil
            rw [show ((i.toNat : Nat) : Int) = i by omega, hz] at e
            exact e.symm
          have hm1 : marks (tr.set i.toNat v) (seen ++ [i]) := by
            refine ⟨by simpa using hl, fun j j0 j1 => ?_, fun a ha => ?_⟩
            · have hjl : j.toNat < tr.length := by omega
              have e := rd_get (tr.set i.toNat v) j.toNat (by simpa using hjl)
              rw [show ((j.toNat : Nat) : Int) = j by omega, List.getElem_set] at e
              by_cases hij : i = j
              · subst hij
                rw [if_pos rfl] at e
                rw [e]
                have hv0 : v ≠ 0 := by omega
                simp [hv0]
              · rw [if_neg (by omega)] at e
                have e2 := rd_get tr j.toNat hjl
                rw [show ((j.toNat : Nat) : Int) = j by omega] at e2
                rw [e, ← e2, hs j j0 j1]
                have hji : ¬ j = i := fun h => hij h.symm
                simp [hji]
            · rcases List.mem_or_eq_of_mem_set ha with h | h
              · exact ht a h
              · omega
          obtain ⟨ih1, ih2⟩ := put_spec v hv l (seen ++ [i]) (tr.set i.toNat v) hm1
          rw [if_pos ⟨by omega, by omega, hz⟩]
          refine ⟨fun hb => ih1 (by simpa [h0, h1] using hb), fun hb => ?_⟩
          obtain ⟨tr', e1, e2, e3⟩ := ih2 (by simpa [h0, h1] using hb)
          refine ⟨tr', e1, by simpa using e2, ?_⟩
          rw [e3, val_set tr i.toNat v hil, hget, p3, Int.mul_add, Int.sub_zero]
          omega
def balB (l r : List Int) (n : Int) : Int × Bool := if lenOf n = 0 ∨ impl_BalanceOf.bad [] (l ++ r) = true then (0, false) else (sgn (n + p3 l - p3 r), true)
/-- Where all is good: the trits, their value, and how great the sums may be. -/
theorem good_balance (l r : List Int) (h : impl_BalanceOf.bad [] (l ++ r) = false) : ∃ tr, (putB 1 l (List.replicate 30 0)).bind (putB (-1) r) = some tr ∧ tr.length = 30 ∧ (∀ a ∈ tr, -1 ≤ a ∧ a ≤ 1) ∧ val tr = p3 l - p3 r ∧ p3 l ≤ 102945566047324 ∧ p3 r ≤ 205891132094648 := by
  rw [bad_append, Bool.or_eq_false_iff] at h
  obtain ⟨t1, a1, a2, a3⟩ := (put_spec 1 (.inl rfl) l [] _ marks_zero).2 h.1
  obtain ⟨t2, b1, b2, b3⟩ := (put_spec (-1) (.inr rfl) r _ t1 a2).2 h.2
  have c1 := val_range t1 a2.2.2
  have c2 := val_range t2 b2.2.2
  rw [a2.1] at c1
  rw [b2.1] at c2
  have c3 := L3_30 (i := 30) (by omega)
  rw [val_replicate] at a3
  exact ⟨t2, by rw [a1]; exact b1, b2.1, b2.2.2, by omega, by omega, by omega⟩
theorem bad_balance (l r : List Int) (h : impl_BalanceOf.bad [] (l ++ r) = true) : (putB 1 l (List.replicate 30 0)).bind (putB (-1) r) = none := by
  rw [bad_append, Bool.or_eq_true] at h
  cases h1 : impl_BalanceOf.bad [] l with
  | true => rw [(put_spec 1 (.inl rfl) l [] _ marks_zero).1 h1]; rfl
  | false =>
    obtain ⟨t1, a1, a2, a3⟩ := (put_spec 1 (.inl rfl) l [] _ marks_zero).2 h1
    rw [h1] at h
    rw [a1]
    exact (put_spec (-1) (.inr rfl) r _ t1 a2).1 (by simpa using h)
theorem lenOf_bound (n : Int) (h : ¬ lenOf n = 0) : -102945566047324 ≤ n ∧ n ≤ 102945566047324 := by
  rcases lenOf_spec n with h1 | ⟨m, _, _, h2, h3, _⟩
  · exact absurd h1.1 h
  · have := L3_30 h2
    omega

theorem impl_BalanceOf_s1 : ∀ (l : List Int) (s : Int), (∀ x ∈ l, 0 ≤ x ∧ x < 30) → -1000000000000000 ≤ s → s + p3 l ≤ 1000000000000000 → Ev (fun k => impl_BalanceOf.s1 k l s) (s + p3 l)
  | [], s, _, _, _ => Ev.ret (by simp [p3])
  | i :: l, s, h, h0, h1 => by
    have hi := h i (by simp)
    have hp := p3_nonneg l
    have hq := pow3_pos i.toNat
    simp only [p3] at h1
    simp only [impl_BalanceOf.s1]
    refine Ev.bind (impl_power_ev i hi.1 (by omega)) ?_
    rw [w64 (by omega) (by omega)]
    exact evTo (impl_BalanceOf_s1 l (s + 3 ^ i.toNat) (fun x hx => h x (by simp [hx])) (by omega) (by omega)) (by simp only [p3]; omega)
theorem impl_BalanceOf_s2 : ∀ (l : List Int) (s : Int), (∀ x ∈ l, 0 ≤ x ∧ x < 30) → s ≤ 1000000000000000 → -1000000000000000 ≤ s - p3 l → Ev (fun k => impl_BalanceOf.s2 k l s) (s - p3 l)
  | [], s, _, _, _ => Ev.ret (by simp [p3])
  | i :: l, s, h, h0, h1 => by
    have hi := h i (by simp)
    have hp := p3_nonneg l
    have hq := pow3_pos i.toNat
    simp only [p3] at h1
    simp only [impl_BalanceOf.s2]
    refine Ev.bind (impl_power_ev i hi.1 (by omega)) ?_
    rw [w64 (by omega) (by omega)]
    exact evTo (impl_BalanceOf_s2 l (s - 3 ^ i.toNat) (fun x hx => h x (by simp [hx])) (by omega) (by omega)) (by simp only [p3]; omega)
theorem impl_BalanceOf_ev (l r : List Int) (hl : l.length ≤ 1048576) (hr : r.length ≤ 1048576) (n : Int) : Ev (fun k => impl_BalanceOf.f k l r n) (balB l r n) := by
  simp only [impl_BalanceOf.f]
  unfold balB
  have ec : Ev (fun k => slices_Concat_int_int.f k [l, r]) (l ++ r) := evTo (slices_Concat_ev [l, r] (by simp) (by simp [total]; omega)) (by simp)
  refine Ev.bind (impl_LengthOf_ev n) (Ev.ite (fun h => Ev.ret (by rw [if_pos (.inl h)])) (fun h => Ev.bind ec (Ev.pos rfl ?_)))
  refine Ev.ite (fun hb => Ev.ret (by rw [if_pos (.inr hb)])) (fun hb => ?_)
  rw [if_neg (by simp [h, hb])]
  replace hb : impl_BalanceOf.bad [] (l ++ r) = false := by simpa using hb
  obtain ⟨tr, h1, h2, h3, h4, h5, h6⟩ := good_balance l r hb
  have hin := bad_range _ _ hb
  have hn := lenOf_bound n h
  have p1 := p3_nonneg l
  have p2 := p3_nonneg r
  refine Ev.bind (impl_BalanceOf_s1 l n (fun x hx => hin x (by simp [hx])) (by omega) (by omega)) (Ev.bind (impl_BalanceOf_s2 r _ (fun x hx => hin x (by simp [hx])) (by omega) (by omega)) ?_)
  exact Ev.bindc (impl_SignOf_eq _) (Ev.now _)

theorem spec_l2Value_l (x : List Int) (hn : x.length ≤ 30) (ht : ∀ a ∈ x, -1 ≤ a ∧ a ≤ 1) : ∀ i : Nat, i ≤ x.length → Ev (fun k => spec_l2Value.l0 k x (val (x.drop i)) ((i : Int) - 1)) (val x) := by
  intro i
  induction i with
  | zero =>
    intro _
    apply Ev.succ
    simp only [spec_l2Value.l0.eq_2]
    exact Ev.neg (by omega) (Ev.ret (by simp))
  | succ i ih =>
    intro hi
    apply Ev.succ
    simp only [spec_l2Value.l0.eq_2]
    refine Ev.pos (by omega) (Ev.pos (by omega) (Ev.pos (by omega) ?_))
    have hr := val_range (x.drop (i + 1)) (fun a ha => ht a (List.mem_of_mem_drop ha))
    have hl := L3_30 (i := (x.drop (i + 1)).length) (by simp; omega)
    have hx := ht x[i] (List.getElem_mem _)
    have e1 : ((i + 1 : Nat) : Int) - 1 = (i : Int) := by omega
    rw [e1, rd_get x i (by omega), w64 (n := 3 * val (x.drop (i + 1))) (by omega) (by omega), w64 (by omega) (by omega), w64 (n := (i : Int) - 1) (by omega) (by omega)]
    have e2 : 3 * val (x.drop (i + 1)) + x[i] = val (x.drop i) := by
      rw [drop_cons x i (by omega), val]; omega
    rw [e2]
    exact ih (by omega)
theorem spec_l2Value_ev (x : List Int) (hn : x.length ≤ 30) (ht : ∀ a ∈ x, -1 ≤ a ∧ a ≤ 1) : Ev (fun k => spec_l2Value.f k x) (val x) := by
  simp only [spec_l2Value.f]
  rw [w64 (by omega) (by omega)]
  have h := spec_l2Value_l x hn ht x.length (Nat.le_refl _)
  rw [List.drop_length] at h
  exact h

theorem spec_IsTrit_eq (a : Int) : spec_IsTrit.f a = some (isTrit a) := by
  unfold spec_IsTrit.f isTrit
  rw [spec_l1In_eq]; rfl

theorem spec_IsWord_l (x : List Int) (hn : x.length ≤ 35184372088832) : ∀ (d i : Nat), i + d = x.length → Ev (fun k => spec_IsWord.l0 k x x x.length i) (decide (1 ≤ x.length ∧ x.length ≤ 30) && (x.drop i).all isTrit) := by
  intro d
  induction d with
  | zero =>
    intro i hi
    apply Ev.succ
    simp only [spec_IsWord.l0.eq_2, spec_l1In_eq, Option.bind_some]
    refine Ev.neg (by omega) (Ev.ret ?_)
    rw [List.drop_eq_nil_of_le (by omega), List.all_nil, Bool.and_true]
    exact decide_eq_decide.2 (by omega)
  | succ d ih =>
    intro i hi
    apply Ev.succ
    simp only [spec_IsWord.l0.eq_2, spec_IsTrit_eq, Option.bind_some]
    refine Ev.pos (by omega) (Ev.pos (by omega) (Ev.pos (by omega) ?_))
    rw [rd_get x i (by omega), drop_cons x i (by omega), List.all_cons, w64 (by omega) (by omega)]
    refine Ev.ite (fun h => ?_) (fun h => Ev.ret ?_)
    · exact evTo (ih (i + 1) (by omega)) (by rw [h, Bool.true_and])
    · rw [Bool.not_eq_true] at h; rw [h, Bool.false_and, Bool.and_false]
theorem spec_IsWord_ev (x : List Int) (hn : x.length ≤ 35184372088832) : Ev (fun k => spec_IsWord.f k x) (isWord x) := by
  simp only [spec_IsWord.f]
  exact spec_IsWord_l x hn x.length 0 (by omega)

theorem spec_ValueOf_ev (x : List Int) (h : isWord x = true) : Ev (fun k => spec_ValueOf.f k x) (val x) := by
  have hw := (isWord_iff x).1 h
  simp only [spec_ValueOf.f]
  exact Ev.bind (spec_IsWord_ev x (by omega)) (Ev.pos h (Ev.bind (spec_l2Value_ev x hw.1.2 hw.2) (Ev.now _)))

theorem spec_l5Lift_l : ∀ (d i : Nat), i + d ≤ 30 → Ev (fun k => spec_l5Lift.l0 k ((3 : Int) ^ i) d) ((3 : Int) ^ (i + d)) := by
  intro d
  induction d with
  | zero =>
    intro i hi
    apply Ev.succ
    simp only [spec_l5Lift.l0.eq_2]
    exact Ev.neg (by omega) (Ev.ret rfl)
  | succ d ih =>
    intro i hi
    apply Ev.succ
    simp only [spec_l5Lift.l0.eq_2]
    have h1 := pow3_30 (i := i + 1) (by omega)
    have h2 := pow3_pos i
    rw [pow3_succ] at h1
    refine Ev.pos (by omega) ?_
    rw [w64 (by omega) (by omega), w64 (by omega) (by omega), ← pow3_succ, show ((d + 1 : Nat) : Int) - 1 = (d : Int) by omega, show i + (d + 1) = i + 1 + d by omega]
    exact ih (i + 1) (by omega)

theorem spec_MakePower_ev (n : Int) : Ev (fun k => spec_MakePower.f k n) ((3 : Int) ^ (max 0 (min n 30)).toNat) := by
  have e : mx 0 (mn n 30) = (((max 0 (min n 30)).toNat : Nat) : Int) := by unfold mx mn; split <;> split <;> omega
  simp only [spec_MakePower.f, e]
  have h := spec_l5Lift_l (max 0 (min n 30)).toNat 0 (by omega)
  rw [Nat.zero_add] at h
  refine Ev.bind h (Ev.now _)

theorem spec_LengthOf_l (n : Int) : ∀ (d i : Nat), i + d = 31 → Ev (fun k => spec_LengthOf.l0 k n i) (lenFrom n i d) := by
  intro d
  induction d with
  | zero =>
    intro i hi
    apply Ev.succ
    simp only [spec_LengthOf.l0.eq_2]
    exact Ev.neg (by omega) (Ev.now _)
  | succ d ih =>
    intro i hi
    apply Ev.succ
    simp only [spec_LengthOf.l0.eq_2]
    rw [lenFrom]
    have h1 := lim_nonneg i
    have h2 := lim_le i
    refine Ev.pos (by omega) (Ev.bind (spec_LimitOf_ev i) (Ev.bind (spec_LimitOf_ev i) ?_))
    rw [w64 (n := -lim i) (by omega) (by omega)]
    refine Ev.bindc (spec_l1In_eq _ _ _) ?_
    refine Ev.ite (fun c => ?_) (fun c => ?_)
    · rw [if_pos (show fitsB n i = true from c)]; exact Ev.now _
    · rw [if_neg (show ¬ fitsB n i = true from c), w64 (by omega) (by omega)]
      exact ih (i + 1) (by omega)
theorem spec_LengthOf_ev (n : Int) : Ev (fun k => spec_LengthOf.f k n) (lenOf n) := by
  simp only [spec_LengthOf.f]
  exact spec_LengthOf_l n 30 1 (by omega)

def sq : List Int → Int
  | [] => 0
  | a :: w => a * a + sq w
theorem trit_sq (a : Int) (h : -1 ≤ a ∧ a ≤ 1) : 0 ≤ a * a ∧ a * a ≤ 1 := by
  have : a = -1 ∨ a = 0 ∨ a = 1 := by omega
  rcases this with rfl | rfl | rfl <;> decide
theorem spec_WeightOf_l (x : List Int) (hn : x.length ≤ 30) (ht : ∀ a ∈ x, -1 ≤ a ∧ a ≤ 1) : ∀ (d i : Nat) (s : Int), i + d = x.length → 0 ≤ s → s ≤ i → Ev (fun k => spec_WeightOf.l0 k s x x.length i) (s + sq (x.drop i)) := by
  intro d
  induction d with
  | zero =>
    intro i s hi h0 h1
    apply Ev.succ
    simp only [spec_WeightOf.l0.eq_2]
    refine Ev.neg (by omega) (Ev.ret ?_)
    rw [List.drop_eq_nil_of_le (by omega)]; simp [sq]
  | succ d ih =>
    intro i s hi h0 h1
    apply Ev.succ
    simp only [spec_WeightOf.l0.eq_2]
    have hx := trit_sq x[i] (ht _ (List.getElem_mem _))
    refine Ev.pos (by omega) (Ev.pos (by omega) (Ev.pos (by omega) ?_))
    rw [rd_get x i (by omega), w64 (n := x[i] * x[i]) (by omega) (by omega), w64 (n := s + x[i] * x[i]) (by omega) (by omega), w64 (n := (i : Int) + 1) (by omega) (by omega)]
    have e : (i : Int) + 1 = ((i + 1 : Nat) : Int) := by omega
    rw [e]
    refine evTo (ih (i + 1) _ (by omega) (by omega) (by omega)) ?_
    rw [drop_cons x i (by omega), sq]; omega
theorem spec_WeightOf_ev (x : List Int) (h : isWord x = true) : Ev (fun k => spec_WeightOf.f k x) (sq x) := by
  have hw := (isWord_iff x).1 h
  simp only [spec_WeightOf.f]
  refine Ev.bind (spec_IsWord_ev x (by omega)) (Ev.pos h ?_)
  exact evTo (spec_WeightOf_l x hw.1.2 hw.2 x.length 0 0 (by omega) (by omega) (by omega)) (by simp)

end Go.Proofs.Ytffohdlbkigehaa.LemFnWeighed
