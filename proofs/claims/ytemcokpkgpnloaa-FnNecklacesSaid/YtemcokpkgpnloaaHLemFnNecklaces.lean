/- Lemmas: what each function that this statement reaches computes. -/
import Derived.Test.YtemcokpkgpnloaaHFnNecklacesx5
import Derived.Test.YtemcokpkgpnloaaBase
import Derived.Test.YtemcokpkgpnloaaLynM
import Derived.Test.YtemcokpkgpnloaaRotM
import Derived.Test.YtemcokpkgpnloaaWordM
set_option linter.unusedVariables false
set_option linter.unusedSimpArgs false
namespace Go.Proofs.Ytemcokpkgpnloaa.LemFnNecklaces
open Go.RowKit Go.Proofs.YtemcokpkgpnloaaW.PrintWords Go.Proofs.YtemcokpkgpnloaaW.PrintLast Go.Proofs.YtemcokpkgpnloaaW.PrintMore Go.Proofs.Ytemcokpkgpnloaa.HFnNecklaces Go.Proofs.Ytemcokpkgpnloaa.Base

theorem impl_IsTrit_eq (a : Int) : impl_IsTrit.f a = some (isTrit a) := by
  unfold impl_IsTrit.f isTrit
  by_cases h : -1 ≤ a
  · rw [if_pos (by omega)]; simp [h]
  · rw [if_neg (by omega)]; simp [h]

theorem impl_trits_l (x : List Int) (hn : x.length ≤ 35184372088832) : ∀ (d i : Nat), i + d = x.length → Ev (fun k => impl_trits.l0 k x x.length i) ((x.drop i).all isTrit) := by
  intro d
  induction d with
  | zero =>
    intro i hi
    apply Ev.succ
    simp only [impl_trits.l0.eq_2]
    refine Ev.neg (by omega) (Ev.ret ?_)
    rw [List.drop_eq_nil_of_le (by omega)]; rfl
  | succ d ih =>
    intro i hi
    apply Ev.succ
    simp only [impl_trits.l0.eq_2, impl_IsTrit_eq, Option.bind_some]
    refine Ev.pos (by omega) (Ev.pos (by omega) (Ev.pos (by omega) ?_))
    rw [rd_get x i (by omega), drop_cons x i (by omega), List.all_cons, w64 (by omega) (by omega)]
    refine Ev.ite (fun h => ?_) (fun h => Ev.ret ?_)
    · exact evTo (ih (i + 1) (by omega)) (by rw [h, Bool.true_and])
    · rw [Bool.not_eq_true] at h; rw [h, Bool.false_and]
theorem impl_trits_ev (x : List Int) (hn : x.length ≤ 35184372088832) : Ev (fun k => impl_trits.f k x) (x.all isTrit) := by
  simp only [impl_trits.f]
  exact impl_trits_l x hn x.length 0 (by omega)

theorem impl_IsWord_ev (x : List Int) : Ev (fun k => impl_IsWord.f k x) (isWord x) := by
  simp only [impl_IsWord.f, isWord]
  refine Ev.ite (fun h => Ev.ite (fun h1 => ?_) (fun h1 => Ev.ret ?_)) (fun h => Ev.ret ?_)
  · refine Ev.bind (impl_trits_ev x (by omega)) (Ev.ret ?_)
    rw [decide_eq_true (by omega), Bool.true_and]
  · rw [decide_eq_false (by omega), Bool.false_and]
  · rw [decide_eq_false (by omega), Bool.false_and]

theorem cmp_Compare_eq (a b : Int) : cmp_Compare_int.f a b = some (if a < b then -1 else if a > b then 1 else 0) := by
  unfold cmp_Compare_int.f cmp_isNaN_int.f
  simp only [Option.bind_some, bne_self_eq_false]
  rw [if_neg (by decide), if_neg (by decide)]
  by_cases h : a < b
  · rw [if_pos h, if_pos h]
  · rw [if_neg h, if_neg h]
    by_cases h1 : a > b
    · rw [if_pos h1, if_pos h1]
    · rw [if_neg h1, if_neg h1]
theorem slices_Compare_l (v w : List Int) (hv : v.length ≤ 1000000000) (hw : w.length ≤ 1000000000) : ∀ (d i : Nat), i + d = v.length → i ≤ w.length → Ev (fun k => slices_Compare_int_int.l0 k v w v v.length i) (if cmpL (v.drop i) (w.drop i) = 0 then cmpL (v.drop i) (w.drop i) else cmpL (v.drop i) (w.drop i)) := by
  intro d
  induction d with
  | zero =>
    intro i hi hiw
    apply Ev.succ
    simp only [slices_Compare_int_int.l0.eq_2, ite_self]
    refine Ev.neg (by omega) ?_
    rw [show v.drop i = [] from List.drop_eq_nil_of_le (by omega)]
    refine Ev.ite (fun h => Ev.ret ?_) (fun h => Ev.ret ?_)
    · rw [drop_cons w i (by omega)]; rfl
    · rw [List.drop_eq_nil_of_le (by omega)]; rfl
  | succ d ih =>
    intro i hi hiw
    apply Ev.succ
    simp only [slices_Compare_int_int.l0.eq_2, ite_self]
    simp only [ite_self] at ih
    rw [drop_cons v i (by omega), rd_get v i (by omega), w64 (by omega) (by omega)]
    refine Ev.pos (by omega) (Ev.pos (by omega) (Ev.pos (by omega) ?_))
    refine Ev.ite (fun h => Ev.ret ?_) (fun h => ?_)
    · rw [show w.drop i = [] from List.drop_eq_nil_of_le (by omega)]; rfl
    · rw [drop_cons w i (by omega), rd_get w i (by omega), cmpL]
      refine Ev.pos (by omega) (Ev.bindc (cmp_Compare_eq _ _) ?_)
      by_cases h1 : v[i] < w[i]
      · rw [if_pos h1, if_pos h1]; exact Ev.neg (by decide) (Ev.now _)
      · rw [if_neg h1, if_neg h1]
        by_cases h2 : v[i] > w[i]
        · rw [if_pos h2, if_pos h2]; exact Ev.neg (by decide) (Ev.now _)
        · rw [if_neg h2, if_neg h2]
          exact Ev.pos rfl (ih (i + 1) (by omega) (by omega))
theorem slices_Compare_ev (v w : List Int) (hv : v.length ≤ 1000000000) (hw : w.length ≤ 1000000000) : Ev (fun k => slices_Compare_int_int.f k v w) (cmpL v w) := by
  simp only [slices_Compare_int_int.f]
  have h := slices_Compare_l v w hv hw v.length 0 (by omega) (by omega)
  simpa using h

theorem slices_Grow_eq (n : Int) (h0 : 0 ≤ n) (h : n ≤ 17592186044415) : slices_Grow_int_int.f [] n = some [] := by
  unfold slices_Grow_int_int.f; rw [if_pos ⟨rfl, h0, h⟩]
def total : List (List Int) → Nat
  | [] => 0
  | a :: l => a.length + total l
theorem total_join (l : List (List Int)) : l.flatten.length = total l := by
  induction l with
  | nil => rfl
  | cons a l ih => rw [List.flatten_cons, List.length_append, ih]; rfl
theorem total_append (a b : List (List Int)) : total (a ++ b) = total a + total b := by
  induction a with
  | nil => simp [total]
  | cons x a ih => rw [List.cons_append, total, total, ih]; omega
theorem rdll_get (xs : List (List Int)) (i : Nat) (h : i < xs.length) : rd_L1 xs (i : Int) = xs[i] := by
  simp [rd_L1, List.getD_eq_getElem?_getD, List.getElem?_eq_getElem h]
theorem total_take_le (l : List (List Int)) (i : Nat) : total (l.take i) ≤ total l := by
  have : total l = total (l.take i) + total (l.drop i) := by rw [← total_append, List.take_append_drop]
  omega
theorem slices_Concat_l1 (l : List (List Int)) (hn : l.length ≤ 1000000000) (ht : total l ≤ 1000000000000) : ∀ (d i : Nat), i + d = l.length → Ev (fun k => slices_Concat_int_int.l1 k (l.take i).flatten l l.length i) l.flatten := by
  intro d
  induction d with
  | zero =>
    intro i hi
    apply Ev.succ
    simp only [slices_Concat_int_int.l1.eq_2]
    exact Ev.neg (by omega) (Ev.ret (by rw [List.take_of_length_le (by omega)]))
  | succ d ih =>
    intro i hi
    apply Ev.succ
    simp only [slices_Concat_int_int.l1.eq_2]
    have h1 := ih (i + 1) (by omega)
    have h2 := total_take_le l (i + 1)
    rw [take_snoc l i (by omega)] at h1 h2
    rw [List.flatten_append, List.flatten_cons, List.flatten_nil, List.append_nil] at h1
    rw [total_append] at h2
    simp only [total] at h2
    rw [rdll_get l i (by omega), w64 (by omega) (by omega)]
    refine Ev.pos (by omega) (Ev.pos (by omega) (Ev.pos (by omega) (Ev.pos ?_ h1)))
    rw [total_join]; omega
theorem slices_Concat_l0 (l : List (List Int)) (hn : l.length ≤ 1000000000) (ht : total l ≤ 1000000000000) : ∀ (d i : Nat), i + d = l.length → Ev (fun k => slices_Concat_int_int.l0 k l (total (l.take i) : Nat) l l.length i) l.flatten := by
  intro d
  induction d with
  | zero =>
    intro i hi
    apply Ev.succ
    simp only [slices_Concat_int_int.l0.eq_2]
    have h2 := total_take_le l i
    refine Ev.neg (by omega) (Ev.bindc (slices_Grow_eq _ (by omega) (by omega)) ?_)
    exact slices_Concat_l1 l hn ht l.length 0 (by omega)
  | succ d ih =>
    intro i hi
    apply Ev.succ
    simp only [slices_Concat_int_int.l0.eq_2]
    have h1 := ih (i + 1) (by omega)
    have h2 := total_take_le l (i + 1)
    rw [take_snoc l i (by omega), total_append] at h1 h2
    simp only [total] at h1 h2
    rw [rdll_get l i (by omega), w64 (n := (i : Int) + 1) (by omega) (by omega), w64 (by omega) (by omega)]
    refine Ev.pos (by omega) (Ev.pos (by omega) (Ev.pos (by omega) (Ev.neg (by omega) ?_)))
    have e : ((total (l.take i) + (l[i].length + 0) : Nat) : Int) = (total (l.take i) : Int) + (l[i].length : Int) := by omega
    rw [e] at h1
    exact h1
theorem slices_Concat_ev (l : List (List Int)) (hn : l.length ≤ 1000000000) (ht : total l ≤ 1000000000000) : Ev (fun k => slices_Concat_int_int.f k l) l.flatten := by
  simp only [slices_Concat_int_int.f]
  exact slices_Concat_l0 l hn ht l.length 0 (by omega)

theorem impl_rotated_ev (w : List Int) (i : Nat) (hi : i ≤ w.length) (hn : w.length ≤ 1000000) : Ev (fun k => impl_rotated.f k w i) (rot w i) := by
  simp only [impl_rotated.f]
  refine Ev.pos (by omega) (Ev.pos (by omega) ?_)
  rw [show ((i : Int)).toNat = i by omega]
  refine Ev.bind (slices_Concat_ev [w.drop i, w.take i] (by simp) ?_) (Ev.ret ?_)
  · simp only [total, List.length_drop, List.length_take]; omega
  · simp [rot]

theorem impl_IsLyndon_l (w : List Int) (hw : w.length ≤ 1000000) : ∀ (d i : Nat), i + d = w.length → Ev (fun k => impl_IsLyndon.l0 k w i) (lynFrom w i d) := by
  intro d
  induction d with
  | zero =>
    intro i hi
    apply Ev.succ
    simp only [impl_IsLyndon.l0.eq_2]
    exact Ev.neg (by omega) (Ev.now _)
  | succ d ih =>
    intro i hi
    apply Ev.succ
    simp only [impl_IsLyndon.l0.eq_2]
    refine Ev.pos (by omega) (Ev.bind (impl_rotated_ev w i (by omega) hw) ?_)
    refine Ev.bind (slices_Compare_ev (rot w i) w (by rw [rot_length w i (by omega)]; omega) (by omega)) ?_
    rw [lynFrom, w64 (by omega) (by omega)]
    refine Ev.ite (fun h => Ev.ret (by rw [if_pos h])) (fun h => ?_)
    rw [if_neg h]
    exact ih (i + 1) (by omega)
theorem impl_IsLyndon_ev (w : List Int) : Ev (fun k => impl_IsLyndon.f k w) (isWord w && lyn w) := by
  simp only [impl_IsLyndon.f]
  refine Ev.bind (impl_IsWord_ev w) ?_
  refine Ev.ite (fun h => ?_) (fun h => Ev.ret (by rw [Bool.not_eq_true] at h; rw [h, Bool.false_and]))
  have hw := (isWord_iff w).1 h
  refine evTo (impl_IsLyndon_l w (by omega) (w.length - 1) 1 (by omega)) ?_
  rw [h, Bool.true_and]; rfl

theorem slices_Clone_eq (l : List Int) (h : l.length < 17592186044416) : slices_Clone_int_int.f l = some l := by
  unfold slices_Clone_int_int.f; rw [if_pos h]
theorem impl_NecklaceOf_l (w : List Int) (hw : w.length ≤ 1000000) : ∀ (d i : Nat) (b : List Int), i + d = w.length → b.length = w.length → Ev (fun k => impl_NecklaceOf.l0 k w b w.length i) (neckFrom w i d b) := by
  intro d
  induction d with
  | zero =>
    intro i b hi hb
    apply Ev.succ
    simp only [impl_NecklaceOf.l0.eq_2]
    exact Ev.neg (by omega) (Ev.now _)
  | succ d ih =>
    intro i b hi hb
    apply Ev.succ
    simp only [impl_NecklaceOf.l0.eq_2]
    have hl := rot_length w i (by omega)
    refine Ev.pos (by omega) (Ev.bind (impl_rotated_ev w i (by omega) hw) ?_)
    refine Ev.bind (slices_Compare_ev (rot w i) b (by omega) (by omega)) ?_
    rw [neckFrom, w64 (by omega) (by omega)]
    refine Ev.ite (fun h => ?_) (fun h => ?_)
    · rw [if_pos h]; exact ih (i + 1) _ (by omega) hl
    · rw [if_neg h]; exact ih (i + 1) _ (by omega) hb
theorem impl_NecklaceOf_ev (w : List Int) : Ev (fun k => impl_NecklaceOf.f k w) (if isWord w = true then neck w else []) := by
  simp only [impl_NecklaceOf.f]
  refine Ev.bind (impl_IsWord_ev w) ?_
  refine Ev.ite (fun h => ?_) (fun h => Ev.ret (by rw [if_neg h]))
  rw [if_pos h]
  have hw := (isWord_iff w).1 h
  refine Ev.bindc (slices_Clone_eq w (by omega)) ?_
  refine evTo (impl_NecklaceOf_l w (by omega) w.length 0 w (by omega) rfl) ?_
  obtain ⟨n, hn⟩ : ∃ n, w.length = n + 1 := ⟨w.length - 1, by omega⟩
  rw [hn, neckFrom, rot_zero, cmpL_self, if_neg (by omega)]
  unfold neck; rw [hn]; rfl

def atv (l : List Int) (i : Nat) : Int := if i < l.length then rd l i else ((i : Int) * 37 + l.length * 11) % 256
theorem atv_range (l : List Int) (i : Nat) (h : ∀ x ∈ l, (Lit.int .u8 x).wf = true) : 0 ≤ atv l i ∧ atv l i < 256 := by
  unfold atv
  by_cases hi : i < l.length
  · rw [if_pos hi]
    exact wf8 (h _ (rd_mem (by omega) (by omega)))
  · rw [if_neg hi]; omega
theorem laws_at_eq (l : List Int) (i : Nat) (hn : l.length ≤ 1048576) (hi : i ≤ 100) (h : ∀ x ∈ l, (Lit.int .u8 x).wf = true) : laws_at.f l (i : Int) = some (atv l i) := by
  unfold laws_at.f atv
  by_cases hi : i < l.length
  · rw [if_pos (by omega), if_pos (by omega), if_pos hi]
    have := wf8 (h _ (rd_mem (xs := l) (i := i) (by omega) (by omega)))
    rw [w64 (by omega) (by omega)]
  · rw [if_neg (by omega), if_neg hi]
    rw [w64 (n := (i : Int) * 37) (by omega) (by omega), w64 (n := (l.length : Int) * 11) (by omega) (by omega), w64 (by omega) (by omega), Int.tmod_eq_emod_of_nonneg (by omega)]

theorem laws_ints_l (x0 x1 : List Int) (hl : x0.length = x1.length) (hn : x0.length ≤ 35184372088832) : ∀ (d i : Nat), i + d = x0.length → Ev (fun k => laws_ints.l0 k x0 x1 x0.length i) (decide (x0.drop i = x1.drop i)) := by
  intro d
  induction d with
  | zero =>
    intro i hi
    apply Ev.succ
    simp only [laws_ints.l0.eq_2]
    refine Ev.neg (by omega) (Ev.ret ?_)
    rw [List.drop_eq_nil_of_le (by omega), List.drop_eq_nil_of_le (by omega)]; simp
  | succ d ih =>
    intro i hi
    apply Ev.succ
    simp only [laws_ints.l0.eq_2]
    refine Ev.pos (by omega) (Ev.pos (by omega) (Ev.pos (by omega) (Ev.pos (by omega) ?_)))
    rw [rd_get x0 i (by omega), rd_get x1 i (by omega), drop_cons x0 i (by omega), drop_cons x1 i (by omega)]
    refine Ev.ite (fun h => ?_) (fun h => ?_)
    · rw [w64 (by omega) (by omega)]
      exact evTo (ih (i + 1) (by omega)) (by simp only [List.cons.injEq, h, true_and])
    · exact Ev.ret (by simp only [List.cons.injEq, h, false_and, decide_false])
theorem laws_ints_ev (x0 x1 : List Int) (hn : x0.length ≤ 35184372088832) : Ev (fun k => laws_ints.f k x0 x1) (decide (x0 = x1)) := by
  simp only [laws_ints.f]
  refine Ev.ite (fun h => ?_) (fun h => Ev.ret ?_)
  · exact evTo (laws_ints_l x0 x1 (by omega) hn x0.length 0 (by omega)) (by simp)
  · symm; rw [decide_eq_false_iff_not]; intro e; rw [e] at h; exact h rfl

theorem spec_l5Lift_l : ∀ (d i : Nat), i + d ≤ 30 → Ev (fun k => spec_l5Lift.l0 k ((3 : Int) ^ i) d) ((3 : Int) ^ (i + d)) := by
  intro d
  induction d with
  | zero =>
    intro i hi
    apply Ev.succ
    simp only [spec_l5Lift.l0.eq_2]
    exact Ev.neg (by omega) (Ev.ret rfl)
  | succ d ih =>
    intro i hi
    apply Ev.succ
    simp only [spec_l5Lift.l0.eq_2]
    have h1 := pow3_30 (i := i + 1) (by omega)
    have h2 := pow3_pos i
    rw [pow3_succ] at h1
    refine Ev.pos (by omega) ?_
    rw [w64 (by omega) (by omega), w64 (by omega) (by omega), ← pow3_succ, show ((d + 1 : Nat) : Int) - 1 = (d : Int) by omega, show i + (d + 1) = i + 1 + d by omega]
    exact ih (i + 1) (by omega)

theorem spec_MakePower_ev (n : Int) : Ev (fun k => spec_MakePower.f k n) ((3 : Int) ^ (max 0 (min n 30)).toNat) := by
  have e : mx 0 (mn n 30) = (((max 0 (min n 30)).toNat : Nat) : Int) := by unfold mx mn; split <;> split <;> omega
  simp only [spec_MakePower.f, e]
  have h := spec_l5Lift_l (max 0 (min n 30)).toNat 0 (by omega)
  rw [Nat.zero_add] at h
  refine Ev.bind h (Ev.now _)

theorem impl_power_l (n : Nat) (hn : n ≤ 30) : ∀ (d i : Nat), i + d = n → Ev (fun k => impl_power.l0 k ((3 : Int) ^ i) n i) ((3 : Int) ^ n) := by
  intro d
  induction d with
  | zero =>
    intro i hi
    apply Ev.succ
    simp only [impl_power.l0.eq_2]
    refine Ev.neg (by omega) (Ev.ret ?_)
    rw [← hi]; rfl
  | succ d ih =>
    intro i hi
    apply Ev.succ
    simp only [impl_power.l0.eq_2]
    have h1 := pow3_30 (i := i + 1) (by omega)
    have h2 := pow3_pos i
    rw [pow3_succ] at h1
    refine Ev.pos (by omega) ?_
    rw [w64 (by omega) (by omega), w64 (by omega) (by omega), Int.mul_comm, ← pow3_succ]
    exact ih (i + 1) (by omega)
theorem impl_power_ev (n : Int) (h0 : 0 ≤ n) (hn : n ≤ 30) : Ev (fun k => impl_power.f k n) ((3 : Int) ^ n.toNat) := by
  obtain ⟨m, rfl⟩ : ∃ m : Nat, n = m := ⟨n.toNat, by omega⟩
  exact impl_power_l m (by omega) m 0 (by omega)

theorem impl_LimitOf_ev (k : Int) : Ev (fun n => impl_LimitOf.f n k) (lim k) := by
  simp only [impl_LimitOf.f]
  unfold lim
  refine Ev.ite (fun h => Ev.ret (by rw [if_neg (by omega)])) (fun h => Ev.ite (fun h1 => Ev.ret (by rw [if_neg (by omega)])) (fun h1 => ?_))
  rw [if_pos (by omega)]
  refine Ev.bind (impl_power_ev k (by omega) (by omega)) (Ev.ret ?_)
  have h2 := pow3_30 (i := k.toNat) (by omega)
  have h3 := pow3_pos k.toNat
  rw [w64 (n := _ - 1) (by omega) (by omega), Int.tdiv_eq_ediv_of_nonneg (by omega), w64 (by omega) (by omega)]

theorem impl_fits_ev (n k : Int) : Ev (fun m => impl_fits.f m n k) (fitsB n k) := by
  simp only [impl_fits.f]
  have h1 := lim_nonneg k
  have h2 := lim_le k
  refine Ev.bind (impl_LimitOf_ev k) ?_
  rw [w64 (by omega) (by omega)]
  refine Ev.ite (fun h => Ev.bind (impl_LimitOf_ev k) (Ev.ret ?_)) (fun h => Ev.ret ?_)
  · unfold fitsB; exact decide_eq_decide.2 (by omega)
  · unfold fitsB; rw [decide_eq_false]; omega

theorem impl_carried_eq (n : Int) (h : -4 ≤ n ∧ n ≤ 4) : impl_carried.f n = some (if n > 1 then n - 3 else if n < -1 then n + 3 else n, if n > 1 then 1 else if n < -1 then -1 else 0) := by
  unfold impl_carried.f
  by_cases h1 : n > 1
  · rw [if_pos h1, if_pos h1, if_pos h1, w64 (by omega) (by omega)]
  · rw [if_neg h1, if_neg h1, if_neg h1]
    by_cases h2 : n < -1
    · rw [if_pos h2, if_pos h2, if_pos h2, w64 (by omega) (by omega)]
    · rw [if_neg h2, if_neg h2, if_neg h2]

theorem tmod3 (n : Int) : Int.tmod n 3 = if 0 ≤ n then n % 3 else -((-n) % 3) := by
  split
  · exact Int.tmod_eq_emod_of_nonneg (by omega)
  · have h : Int.tmod (-n) 3 = (-n) % 3 := Int.tmod_eq_emod_of_nonneg (by omega)
    rw [Int.neg_tmod] at h; omega
theorem tdiv3 (n : Int) (h : n % 3 = 0) : Int.tdiv n 3 = n / 3 := by
  rw [Int.tdiv_eq_ediv_of_dvd (Int.dvd_of_emod_eq_zero h)]
theorem impl_WordOf_l (k : Nat) (hk : k ≤ 30) : ∀ (d i : Nat) (n : Int) (o : List Int), i + d = k → o.length = i → -100000000000000000 ≤ n → n ≤ 100000000000000000 → Ev (fun m => impl_WordOf.l0 m n o k i) (o ++ word d n, true) := by
  intro d
  induction d with
  | zero =>
    intro i n o hi ho h0 h1
    apply Ev.succ
    simp only [impl_WordOf.l0.eq_2]
    exact Ev.neg (by omega) (Ev.ret (by simp [word]))
  | succ d ih =>
    intro i n o hi ho h0 h1
    apply Ev.succ
    simp only [impl_WordOf.l0.eq_2]
    have ht := tmod3 n
    generalize hr : Int.tmod n 3 = r at *
    have h2 : -2 ≤ r ∧ r ≤ 2 ∧ (r - n) % 3 = 0 := by split at ht <;> omega
    refine Ev.pos (by omega) (Ev.bindc (impl_carried_eq r (by omega)) ?_)
    refine Ev.pos (by omega) ?_
    generalize hs : (if r > 1 then r - 3 else if r < -1 then r + 3 else r) = s
    have hs2 : s = (n + 1) % 3 - 1 := by split at hs <;> first | omega | (split at hs <;> omega)
    have e : Int.tdiv (n - s) 3 = (n + 1) / 3 := by rw [tdiv3 _ (by omega)]; omega
    rw [w64 (n := n - s) (by omega) (by omega), e, w64 (by omega) (by omega), w64 (by omega) (by omega)]
    refine evTo (ih (i + 1) ((n + 1) / 3) (o ++ [s]) (by omega) (by simp [ho]) (by omega) (by omega)) ?_
    rw [word, hs2]; simp
theorem impl_WordOf_ev (n k : Int) : Ev (fun m => impl_WordOf.f m n k) (wordOf n k) := by
  simp only [impl_WordOf.f]
  have no : ¬ (1 ≤ k ∧ k ≤ 30 ∧ fitsB n k = true) → Ev (fun m => impl_WordOf.j0 m n k true) (wordOf n k) := by
    intro h
    apply Ev.succ
    simp only [impl_WordOf.j0.eq_2]
    exact Ev.pos (by simp) (Ev.ret (by unfold wordOf; rw [if_neg h]))
  refine Ev.ite (fun h => no (by omega)) (fun h => Ev.ite (fun h1 => no (by omega)) (fun h1 => ?_))
  refine Ev.bind (impl_fits_ev n k) ?_
  by_cases c : fitsB n k = true
  · rw [c]
    apply Ev.succ
    simp only [impl_WordOf.j0.eq_2]
    refine Ev.neg (by simp) ?_
    have hf := c
    unfold fitsB at hf
    have h2 := lim_nonneg k
    have h3 := lim_le k
    have h4 := of_decide_eq_true hf
    have hl := impl_WordOf_l k.toNat (by omega) k.toNat 0 n [] (by omega) rfl (by omega) (by omega)
    rw [show ((k.toNat : Nat) : Int) = k by omega] at hl
    unfold wordOf; rw [if_pos ⟨by omega, by omega, c⟩]
    simpa using hl
  · rw [Bool.not_eq_true] at c
    rw [c]
    exact no (by rw [c]; simp)

theorem all_ev {α : Type} {β : Type} [DecidableEq β] (g : α → Nat → Option β) (r : α → β) : ∀ (l : List α), (∀ x ∈ l, Ev (g x) (r x)) → ∃ K, ∀ k, K ≤ k → ∀ x ∈ l, g x k = some (r x)
  | [], _ => ⟨0, fun _ _ x hx => absurd hx (by simp)⟩
  | a :: l, h => by
    obtain ⟨K1, h1⟩ := h a (by simp)
    obtain ⟨K2, h2⟩ := all_ev g r l (fun x hx => h x (by simp [hx]))
    refine ⟨max K1 K2, fun k hk x hx => ?_⟩
    rcases List.mem_cons.1 hx with rfl | hx
    · exact h1 k (by omega)
    · exact h2 k (by omega) x hx
theorem cmpok_ev (l : List (List Int)) (hl : ∀ x ∈ l, x.length ≤ 1000000000) : ∃ K, ∀ k, K ≤ k → impl_LyndonWords.cmpok k l := by
  have hl2 : ∀ x ∈ [] :: l, x.length ≤ 1000000000 := fun x hx => by
    rcases List.mem_cons.1 hx with rfl | hx
    · simp
    · exact hl x hx
  have h : ∀ x ∈ [] :: l, ∃ K, ∀ k, K ≤ k → ∀ y ∈ [] :: l, slices_Compare_int_int.f k x y = some (cmpL x y) := fun x hx => all_ev (fun y k => slices_Compare_int_int.f k x y) (fun y => cmpL x y) ([] :: l) (fun y hy => slices_Compare_ev x y (hl2 x hx) (hl2 y hy))
  have h2 : ∀ (m : List (List Int)), (∀ x ∈ m, ∃ K, ∀ k, K ≤ k → ∀ y ∈ [] :: l, slices_Compare_int_int.f k x y = some (cmpL x y)) → ∃ K, ∀ k, K ≤ k → ∀ x ∈ m, ∀ y ∈ [] :: l, slices_Compare_int_int.f k x y = some (cmpL x y) := by
    intro m
    induction m with
    | nil => intro _; exact ⟨0, fun _ _ x hx => absurd hx (by simp)⟩
    | cons a m ih =>
      intro hm
      obtain ⟨K1, h1⟩ := hm a (by simp)
      obtain ⟨K2, h2⟩ := ih (fun x hx => hm x (by simp [hx]))
      refine ⟨max K1 K2, fun k hk x hx => ?_⟩
      rcases List.mem_cons.1 hx with rfl | hx
      · exact h1 k (by omega)
      · exact h2 k (by omega) x hx
  obtain ⟨K, hK⟩ := h2 _ h
  exact ⟨K, fun k hk => hK k hk⟩
theorem lynWords_inner (s : Nat) (hs : 1 ≤ s ∧ s ≤ 7) : ∀ (c : Nat) (n : Int) (out : List (List Int)), n + c = L3 s + 1 → -(L3 s) ≤ n → out.length + c ≤ 1000000 → Ev (fun k => impl_LyndonWords.inner k s c n out) (out ++ gi s c n)
  | 0, n, out, _, _, _ => Ev.ret (by simp [gi])
  | c + 1, n, out, h0, h1, h2 => by
    have hw := word_isWord s n ⟨hs.1, by omega⟩
    have hf : fitsB n (s : Int) = true := (fitsB_iff n s ⟨hs.1, by omega⟩).2 ⟨h1, by omega⟩
    have ew : wordOf n (s : Int) = (word s n, true) := by
      unfold wordOf
      rw [if_pos ⟨by omega, by omega, hf⟩, Int.toNat_natCast]
    simp only [impl_LyndonWords.inner]
    refine Ev.pos (by omega) (Ev.bind (impl_WordOf_ev n s) ?_)
    rw [ew]
    refine Ev.bind (impl_IsLyndon_ev (word s n)) ?_
    rw [hw, Bool.true_and, gi]
    by_cases hl : lyn (word s n) = true
    · rw [if_pos hl, if_pos hl]
      exact evTo (lynWords_inner s hs c (n + 1) (out ++ [word s n]) (by omega) (by omega) (by simp; omega)) (by simp)
    · rw [if_neg hl, if_neg hl]
      exact lynWords_inner s hs c (n + 1) out (by omega) (by omega) (by omega)
theorem gi_length (s : Nat) : ∀ (c : Nat) (n : Int), (gi s c n).length ≤ c
  | 0, _ => by simp [gi]
  | c + 1, n => by
    have := gi_length s c (n + 1)
    rw [gi]; split
    · simp; omega
    · omega
set_option maxRecDepth 100000 in
theorem lynWords_outer (kk : Nat) (hk : 1 ≤ kk ∧ kk ≤ 7) : ∀ (c s : Nat) (out : List (List Int)), s + c = kk + 1 → 1 ≤ s → out.length + c * 2187 ≤ 1000000 → Ev (fun k => impl_LyndonWords.outer k kk c s out) (out ++ implFrom kk c s)
  | 0, s, out, _, _, _ => Ev.ret (by simp [implFrom])
  | c + 1, s, out, h0, h1, h2 => by
    have hs : 1 ≤ s ∧ s ≤ 7 := by omega
    have e3 := L3_pow s
    have hp := pow3_mono (i := s) (n := 7) (by omega)
    have h7 : (3 : Int) ^ 7 = 2187 := by decide
    have e3n : ((3 ^ s : Nat) : Int) = (3 : Int) ^ s := by simp
    simp only [impl_LyndonWords.outer]
    refine Ev.bind (impl_LimitOf_ev (s : Int)) ?_
    rw [lim_eq s ⟨hs.1, by omega⟩]
    refine Ev.pos ⟨L3_nonneg s, by omega⟩ ?_
    have e5 : ((3 ^ s : Nat) : Int) = 2 * L3 s + 1 := by rw [e3n, e3]
    have ec : (2 * L3 s + 1).toNat = 3 ^ s := by rw [← e5, Int.toNat_natCast]
    have hq : 3 ^ s ≤ 2187 := Nat.le_trans (Nat.pow_le_pow_right (by omega) (show s ≤ 7 by omega)) (by decide)
    have ed : ((kk : Int) % (s : Int) = 0) ↔ kk % s = 0 := by omega
    have es : (s : Int) + 1 = ((s + 1 : Nat) : Int) := by omega
    rw [ec, es, implFrom]
    by_cases hd : kk % s = 0
    · have hg := gi_length s (3 ^ s) (-(L3 s))
      simp only [if_pos (ed.2 hd), if_pos hd]
      clear hp h7 e3n e3
      generalize 3 ^ s = q at *
      refine Ev.bind (lynWords_inner s hs q (-(L3 s)) out (by omega) (by omega) (by omega)) ?_
      exact evTo (lynWords_outer kk hk c (s + 1) _ (by omega) (by omega) (by rw [List.length_append]; omega)) (by simp)
    · simp only [if_neg (fun h => hd (ed.1 h)), if_neg hd]
      clear hp h7 e3n e3 e5 ec hq
      exact Ev.bind (Ev.now _) (evTo (lynWords_outer kk hk c (s + 1) out (by omega) (by omega) (by omega)) (by simp))
theorem gi_words (s : Nat) : ∀ (c : Nat) (n : Int), ∀ x ∈ gi s c n, x.length = s
  | 0, _, x, h => by simp [gi] at h
  | c + 1, n, x, h => by
    rw [gi] at h
    split at h
    · rcases List.mem_cons.1 h with rfl | h
      · exact word_length s n
      · exact gi_words s c (n + 1) x h
    · exact gi_words s c (n + 1) x h
theorem implFrom_words (k : Nat) : ∀ (c s : Nat), ∀ x ∈ implFrom k c s, x.length ≤ s + c
  | 0, _, x, h => by simp [implFrom] at h
  | c + 1, s, x, h => by
    rw [implFrom, List.mem_append] at h
    rcases h with h | h
    · split at h
      · have := gi_words s _ _ x h; omega
      · simp at h
    · have := implFrom_words k c (s + 1) x h; omega
set_option maxRecDepth 100000 in
theorem implFrom_length (k : Nat) (hk : k ≤ 7) : ∀ (c s : Nat), s + c ≤ 8 → (implFrom k c s).length ≤ c * 2187
  | 0, _, _ => by simp [implFrom]
  | c + 1, s, h => by
    have ih := implFrom_length k hk c (s + 1) (by omega)
    have hp : 3 ^ s ≤ 2187 := Nat.le_trans (Nat.pow_le_pow_right (by omega) (show s ≤ 7 by omega)) (by decide)
    have hg := gi_length s (3 ^ s) (-(L3 s))
    rw [implFrom, List.length_append]
    generalize 3 ^ s = q at *
    split
    · omega
    · rw [List.length_nil, Nat.zero_add]; omega
theorem specL_words (k : Nat) (hk : 1 ≤ k ∧ k ≤ 7) : (∀ x ∈ specL k, x.length ≤ 8) ∧ (specL k).length ≤ 15309 := by
  have hp : (specL k).Perm (implL k) := by rw [← sort_eq k hk]; exact List.mergeSort_perm _ _
  refine ⟨fun x hx => ?_, ?_⟩
  · have := implFrom_words k k 1 x (hp.mem_iff.1 hx)
    omega
  · have := implFrom_length k hk.2 k 1 (by omega)
    rw [hp.length_eq]
    unfold implL
    omega
theorem implL_ne (k : Nat) (hk : 1 ≤ k) : implL k ≠ [] := by
  have e : implL k = implFrom k (k - 1 + 1) 1 := by unfold implL; rw [Nat.sub_add_cancel hk]
  rw [e, implFrom, if_pos (Nat.mod_one k)]
  have : gi 1 (3 ^ 1) (-(L3 1)) ≠ [] := by decide
  intro h
  exact this (List.append_eq_nil_iff.1 h).1
theorem impl_LyndonWords_ev (kk : Int) : Ev (fun k => impl_LyndonWords.f k kk) (lynW kk) := by
  simp only [impl_LyndonWords.f]
  unfold lynW
  by_cases h : kk < 1 ∨ 7 < kk
  · rw [if_pos h]
    exact Ev.pos h (Ev.now _)
  · rw [if_neg h]
    refine Ev.neg h ?_
    obtain ⟨n, rfl⟩ : ∃ n : Nat, kk = n := ⟨kk.toNat, by omega⟩
    have hn : 1 ≤ n ∧ n ≤ 7 := by omega
    have ho := lynWords_outer n hn n 1 [] (by omega) (by omega) (by simp; omega)
    rw [List.nil_append] at ho
    rw [Int.toNat_natCast]
    refine Ev.bind ho ?_
    have hlen := implFrom_length n hn.2 n 1 (by omega)
    refine Ev.pos ⟨implL_ne n hn.1, by omega⟩ ?_
    obtain ⟨K, hK⟩ := cmpok_ev (implFrom n n 1) (fun x hx => by have := implFrom_words n n 1 x hx; omega)
    refine ⟨K, fun k hk => ?_⟩
    dsimp only
    rw [if_pos (hK k hk)]
    rw [← sort_eq n hn]
    rfl

theorem spec_l01New_l (b : List Int) : ∀ (d i : Nat) (h : Int), i + d = 4000 → ∃ g, Ev (fun k => spec_l01New.l0 k b h i) (b, 0, g) := by
  intro d
  induction d with
  | zero =>
    intro i h hi
    refine ⟨h, ?_⟩
    apply Ev.succ
    simp only [spec_l01New.l0.eq_2]
    refine Ev.ite (fun c => Ev.neg (by omega) (Ev.now _)) (fun c => Ev.now _)
  | succ d ih =>
    intro i h hi
    by_cases c : (i : Int) < (b.length : Int)
    · obtain ⟨g, hg⟩ := ih (i + 1) (Go.bits .and .i64 (wrap64 ((wrap64 ((wrap64 (h * 1103)) + (wrap64 (rd b i)))) + 7)) 1073741823) (by omega)
      refine ⟨g, ?_⟩
      apply Ev.succ
      simp only [spec_l01New.l0.eq_2]
      refine Ev.pos c (Ev.pos (by omega) (Ev.pos (by omega) ?_))
      rw [w64 (n := (i : Int) + 1) (by omega) (by omega)]
      exact hg
    · refine ⟨h, ?_⟩
      apply Ev.succ
      simp only [spec_l01New.l0.eq_2]
      exact Ev.neg c (Ev.now _)
theorem spec_l01New_ev (b : List Int) : ∃ g, Ev (fun k => spec_l01New.f k b) (b, 0, g) := by
  simp only [spec_l01New.f]
  exact spec_l01New_l b 4000 0 _ (by omega)

theorem and_range (x y : Int) (h0 : 0 ≤ y) (h1 : y < 9223372036854775808) : 0 ≤ Go.bits .and .i64 x y ∧ Go.bits .and .i64 x y ≤ y := by
  unfold Go.bits
  have h2 : (BitVec.ofInt 64 x &&& BitVec.ofInt 64 y).toNat ≤ (BitVec.ofInt 64 y).toNat := by
    rw [BitVec.toNat_and]; exact Nat.and_le_right
  have h3 : ((BitVec.ofInt 64 y).toNat : Int) = y := by
    rw [BitVec.toNat_ofInt]
    have : (y % (2 ^ 64 : Nat)) = y := Int.emod_eq_of_lt h0 (by omega)
    omega
  show 0 ≤ IntKind.i64.wrap ((BitVec.ofInt 64 x &&& BitVec.ofInt 64 y).toNat : Int) ∧ IntKind.i64.wrap ((BitVec.ofInt 64 x &&& BitVec.ofInt 64 y).toNat : Int) ≤ y
  have h4 : IntKind.i64.wrap ((BitVec.ofInt 64 x &&& BitVec.ofInt 64 y).toNat : Int) = wrap64 ((BitVec.ofInt 64 x &&& BitVec.ofInt 64 y).toNat : Int) := i64_w _
  rw [h4, w64 (by omega) (by omega)]
  omega
theorem spec_l01Byte_ev (b : List Int) (hb : b.length ≤ 1000000000) (i h : Int) (h0 : 0 ≤ i) : ∃ x j g, spec_l01Byte.f b i h = some (x, j, g) ∧ (0 ≤ x ∧ x ≤ 255) ∧ 0 ≤ j := by
  unfold spec_l01Byte.f
  by_cases c : i < (b.length : Int)
  · rw [if_pos c, if_pos h0]
    exact ⟨_, _, _, rfl, and_range _ 255 (by omega) (by omega), by rw [w64 (by omega) (by omega)]; omega⟩
  · rw [if_neg c]
    exact ⟨_, _, _, rfl, and_range _ 255 (by omega) (by omega), h0⟩

theorem spec_l01Below_ev (b : List Int) (hb : b.length ≤ 1000000000) (i h n : Int) (h0 : 0 ≤ i) : ∃ x j g, spec_l01Below.f b i h n = some (x, j, g) ∧ (0 ≤ x ∧ (1 ≤ n → x < n)) ∧ 0 ≤ j := by
  unfold spec_l01Below.f
  by_cases c : n ≤ 0
  · rw [if_pos c]; exact ⟨_, _, _, rfl, ⟨by omega, by omega⟩, h0⟩
  · rw [if_neg c]
    obtain ⟨x1, j1, g1, e1, b1, i1⟩ := spec_l01Byte_ev b hb i h h0
    by_cases c2 : n ≤ 256
    · rw [if_pos c2, e1]
      simp only [Option.bind_some]
      rw [if_neg (by omega), Int.tmod_eq_emod_of_nonneg (by omega)]
      refine ⟨_, _, _, rfl, ⟨Int.emod_nonneg _ (by omega), fun _ => Int.emod_lt_of_pos _ (by omega)⟩, i1⟩
    · rw [if_neg c2, e1]
      simp only [Option.bind_some]
      obtain ⟨x2, j2, g2, e2, b2, i2⟩ := spec_l01Byte_ev b hb j1 g1 i1
      rw [e2]; simp only [Option.bind_some]
      obtain ⟨x3, j3, g3, e3, b3, i3⟩ := spec_l01Byte_ev b hb j2 g2 i2
      rw [e3]; simp only [Option.bind_some]
      obtain ⟨x4, j4, g4, e4, b4, i4⟩ := spec_l01Byte_ev b hb j3 g3 i3
      rw [e4]; simp only [Option.bind_some]
      rw [if_neg (by omega)]
      rw [w64 (n := x1 * 16777216) (by omega) (by omega), w64 (n := x2 * 65536) (by omega) (by omega), w64 (n := x3 * 256) (by omega) (by omega), w64 (n := x1 * 16777216 + x2 * 65536) (by omega) (by omega), w64 (n := x1 * 16777216 + x2 * 65536 + x3 * 256) (by omega) (by omega), w64 (n := x1 * 16777216 + x2 * 65536 + x3 * 256 + x4) (by omega) (by omega), Int.tmod_eq_emod_of_nonneg (by omega)]
      refine ⟨_, _, _, rfl, ⟨Int.emod_nonneg _ (by omega), fun _ => Int.emod_lt_of_pos _ (by omega)⟩, i4⟩

theorem fill_trits {w : List Int} {i : Nat} {v : Int} (hv : -1 ≤ v ∧ v ≤ 1) (h : ∀ a ∈ w, -1 ≤ a ∧ a ≤ 1) : ∀ a ∈ w.set i v, -1 ≤ a ∧ a ≤ 1 := by
  intro a ha
  rcases List.mem_or_eq_of_mem_set ha with h1 | h1
  · exact h a h1
  · rw [h1]; exact hv
theorem spec_l2Draw_l1 (b : List Int) (j g : Int) : ∀ (d i : Nat) (w : List Int), i + d = w.length → w.length ≤ 100 → (∀ a ∈ w, -1 ≤ a ∧ a ≤ 1) → ∃ v, Ev (fun k => spec_l2Draw.l1 k w w.length i b j g) (v, j, g) ∧ v.length = w.length ∧ ∀ a ∈ v, -1 ≤ a ∧ a ≤ 1 := by
  intro d
  induction d with
  | zero =>
    intro i w hi hw ht
    refine ⟨w, ?_, rfl, ht⟩
    apply Ev.succ
    simp only [spec_l2Draw.l1.eq_2]
    exact Ev.neg (by omega) (Ev.now _)
  | succ d ih =>
    intro i w hi hw ht
    obtain ⟨v, hv, hl, hvt⟩ := ih (i + 1) (w.set i 1) (by simp; omega) (by simpa using hw) (fill_trits (by omega) ht)
    simp only [List.length_set] at hv hl
    refine ⟨v, ?_, hl, hvt⟩
    apply Ev.succ
    simp only [spec_l2Draw.l1.eq_2]
    refine Ev.pos (by omega) (Ev.pos (by omega) (Ev.pos (by omega) ?_))
    rw [w64 (by omega) (by omega)]
    exact hv
theorem spec_l2Draw_l2 (b : List Int) (j g : Int) : ∀ (d i : Nat) (w : List Int), i + d = w.length → w.length ≤ 100 → (∀ a ∈ w, -1 ≤ a ∧ a ≤ 1) → ∃ v, Ev (fun k => spec_l2Draw.l2 k w w.length i b j g) (v, j, g) ∧ v.length = w.length ∧ ∀ a ∈ v, -1 ≤ a ∧ a ≤ 1 := by
  intro d
  induction d with
  | zero =>
    intro i w hi hw ht
    refine ⟨w, ?_, rfl, ht⟩
    apply Ev.succ
    simp only [spec_l2Draw.l2.eq_2]
    exact Ev.neg (by omega) (Ev.now _)
  | succ d ih =>
    intro i w hi hw ht
    obtain ⟨v, hv, hl, hvt⟩ := ih (i + 1) (w.set i (-1)) (by simp; omega) (by simpa using hw) (fill_trits (by omega) ht)
    simp only [List.length_set] at hv hl
    refine ⟨v, ?_, hl, hvt⟩
    apply Ev.succ
    simp only [spec_l2Draw.l2.eq_2]
    refine Ev.pos (by omega) (Ev.pos (by omega) (Ev.pos (by omega) ?_))
    rw [w64 (by omega) (by omega)]
    exact hv
theorem spec_l2Draw_l3 (b : List Int) (j g : Int) : ∀ (d i : Nat) (w : List Int), i + d = w.length → w.length ≤ 100 → (∀ a ∈ w, -1 ≤ a ∧ a ≤ 1) → ∃ v, Ev (fun k => spec_l2Draw.l3 k w w.length i b j g) (v, j, g) ∧ v.length = w.length ∧ ∀ a ∈ v, -1 ≤ a ∧ a ≤ 1 := by
  intro d
  induction d with
  | zero =>
    intro i w hi hw ht
    refine ⟨w, ?_, rfl, ht⟩
    apply Ev.succ
    simp only [spec_l2Draw.l3.eq_2]
    exact Ev.neg (by omega) (Ev.now _)
  | succ d ih =>
    intro i w hi hw ht
    obtain ⟨v, hv, hl, hvt⟩ := ih (i + 1) (w.set i 0) (by simp; omega) (by simpa using hw) (fill_trits (by omega) ht)
    simp only [List.length_set] at hv hl
    refine ⟨v, ?_, hl, hvt⟩
    apply Ev.succ
    simp only [spec_l2Draw.l3.eq_2]
    refine Ev.pos (by omega) (Ev.pos (by omega) (Ev.pos (by omega) ?_))
    rw [w64 (by omega) (by omega)]
    exact hv
theorem spec_l2Draw_l0 (b : List Int) (hb : b.length ≤ 1000000000) : ∀ (d : Nat) (j g : Int) (w : List Int), d + w.length ≤ 100 → 0 ≤ j → (∀ a ∈ w, -1 ≤ a ∧ a ≤ 1) → ∃ v j' g', Ev (fun k => spec_l2Draw.l0 k w d b j g) (v, j', g') ∧ v.length = d + w.length ∧ (∀ a ∈ v, -1 ≤ a ∧ a ≤ 1) ∧ 0 ≤ j' := by
  intro d
  induction d with
  | zero =>
    intro j g w hw hj ht
    obtain ⟨x, j1, g1, e1, b1, i1⟩ := spec_l01Below_ev b hb j g 12 hj
    by_cases c0 : x = 0
    · obtain ⟨v, hv, hl, hvt⟩ := spec_l2Draw_l1 b j1 g1 w.length 0 w (by omega) (by omega) ht
      refine ⟨v, j1, g1, ?_, by omega, hvt, i1⟩
      apply Ev.succ
      simp only [spec_l2Draw.l0.eq_2]
      refine Ev.neg (by omega) (Ev.bindc e1 ?_)
      exact Ev.pos c0 hv
    · by_cases c1 : x = 1
      · obtain ⟨v, hv, hl, hvt⟩ := spec_l2Draw_l2 b j1 g1 w.length 0 w (by omega) (by omega) ht
        refine ⟨v, j1, g1, ?_, by omega, hvt, i1⟩
        apply Ev.succ
        simp only [spec_l2Draw.l0.eq_2]
        refine Ev.neg (by omega) (Ev.bindc e1 ?_)
        exact Ev.neg c0 (Ev.pos c1 hv)
      · by_cases c2 : x = 2
        · obtain ⟨v, hv, hl, hvt⟩ := spec_l2Draw_l3 b j1 g1 w.length 0 w (by omega) (by omega) ht
          refine ⟨v, j1, g1, ?_, by omega, hvt, i1⟩
          apply Ev.succ
          simp only [spec_l2Draw.l0.eq_2]
          refine Ev.neg (by omega) (Ev.bindc e1 ?_)
          exact Ev.neg c0 (Ev.neg c1 (Ev.pos c2 hv))
        · refine ⟨w, j1, g1, ?_, by omega, ht, i1⟩
          apply Ev.succ
          simp only [spec_l2Draw.l0.eq_2]
          refine Ev.neg (by omega) (Ev.bindc e1 ?_)
          exact Ev.neg c0 (Ev.neg c1 (Ev.neg c2 (Ev.now _)))
  | succ d ih =>
    intro j g w hw hj ht
    obtain ⟨x, j1, g1, e1, b1, i1⟩ := spec_l01Below_ev b hb j g 3 hj
    have hx := b1.2 (by omega)
    obtain ⟨v, j2, g2, hv, hl, hvt, i2⟩ := ih j1 g1 (w ++ [x - 1]) (by simp; omega) i1 (by
      intro a ha
      rcases List.mem_append.1 ha with h | h
      · exact ht a h
      · simp at h; omega)
    refine ⟨v, j2, g2, ?_, by simp at hl; omega, hvt, i2⟩
    apply Ev.succ
    simp only [spec_l2Draw.l0.eq_2]
    refine Ev.pos (by omega) (Ev.bindc e1 ?_)
    refine Ev.pos (by omega) ?_
    rw [w64 (n := x - 1) (by omega) (by omega), w64 (by omega) (by omega), show ((d + 1 : Nat) : Int) - 1 = (d : Int) by omega]
    exact hv
theorem spec_l2Draw_ev (b : List Int) (hb : b.length ≤ 1000000000) (j g n : Int) (hj : 0 ≤ j) (h1 : 1 ≤ n) (hn : n ≤ 90) : ∃ v j' g', Ev (fun k => spec_l2Draw.f k b j g n) (v, j', g') ∧ (1 ≤ v.length ∧ (v.length : Int) ≤ n) ∧ (∀ a ∈ v, -1 ≤ a ∧ a ≤ 1) ∧ 0 ≤ j' := by
  simp only [spec_l2Draw.f]
  obtain ⟨x, j1, g1, e1, b1, i1⟩ := spec_l01Below_ev b hb j g n hj
  have hx := b1.2 h1
  obtain ⟨v, j2, g2, hv, hl, hvt, i2⟩ := spec_l2Draw_l0 b hb (1 + x).toNat j1 g1 [] (by simp; omega) i1 (by simp)
  refine ⟨v, j2, g2, ?_, ⟨by simp at hl; omega, by simp at hl; omega⟩, hvt, i2⟩
  refine Ev.bindc e1 ?_
  rw [w64 (by omega) (by omega)]
  rw [show (((1 + x).toNat : Nat) : Int) = 1 + x by omega] at hv
  exact hv

theorem mx_eq (a b : Int) : mx a b = max a b := by unfold mx; omega
theorem mn_eq (a b : Int) : mn a b = min a b := by unfold mn; omega
theorem spec_MakeWord_ev (b : List Int) (hb : b.length ≤ 1000000000) (n : Int) (h1 : 1 ≤ n) (hn : n ≤ 30) : ∃ w, Ev (fun k => spec_MakeWord.f k b n) w ∧ isWord w = true ∧ (w.length : Int) ≤ n := by
  simp only [spec_MakeWord.f, mx_eq, mn_eq]
  obtain ⟨g, hg⟩ := spec_l01New_ev b
  obtain ⟨v, j, g', hv, hl, ht, _⟩ := spec_l2Draw_ev b hb 0 g (max 1 (min n 30)) (by omega) (by omega) (by omega)
  refine ⟨v, Ev.bind hg (Ev.bind hv (Ev.now _)), (isWord_iff v).2 ⟨by omega, ht⟩, by omega⟩

def rotV (w : List Int) (by_ : Int) : List Int := if isWord w = true then rot w (by_ % w.length).toNat else []
theorem tmod_fix (a : Int) (n : Nat) (hn : 1 ≤ n) : -(n : Int) < Int.tmod a n ∧ Int.tmod a n < n ∧ (if Int.tmod a n < 0 then Int.tmod a n + n else Int.tmod a n) = a % n := by
  have h1 := Int.tmod_lt_of_pos a (show (0 : Int) < n by omega)
  have h2 : -(n : Int) < Int.tmod a n := by
    have := Int.tmod_lt_of_pos (-a) (show (0 : Int) < n by omega)
    rw [Int.neg_tmod] at this; omega
  refine ⟨h2, h1, ?_⟩
  have h3 : (Int.tmod a n) % n = a % n := by
    have h4 := Int.mul_tdiv_add_tmod a n
    have h5 : a % n = (n * Int.tdiv a n + Int.tmod a n) % n := by rw [h4]
    rw [h5, Int.add_comm, Int.add_mul_emod_self_left]
  rw [← h3]
  generalize Int.tmod a n = t at *
  split
  · have e : t % (n : Int) = (t + n) % n := by rw [Int.add_emod_right]
    rw [e]; exact (Int.emod_eq_of_lt (by omega) (by omega)).symm
  · exact (Int.emod_eq_of_lt (by omega) (by omega)).symm
theorem impl_RotateWord_ev (w : List Int) (b : Int) : Ev (fun k => impl_RotateWord.f k w b) (rotV w b) := by
  simp only [impl_RotateWord.f]
  refine Ev.bind (impl_IsWord_ev w) ?_
  unfold rotV
  refine Ev.ite (fun h => ?_) (fun h => Ev.ret (by rw [if_neg h]))
  rw [if_pos h]
  have hw := (isWord_iff w).1 h
  obtain ⟨h1, h2, h3⟩ := tmod_fix b w.length hw.1.1
  refine Ev.neg (by omega) ?_
  have h4 := Int.emod_nonneg b (show (w.length : Int) ≠ 0 by omega)
  have h5 := Int.emod_lt_of_pos b (show (0 : Int) < w.length by omega)
  have hr := impl_rotated_ev w (b % w.length).toNat (by omega) (by omega)
  rw [show (((b % (w.length : Int)).toNat : Nat) : Int) = b % w.length by omega] at hr
  rw [w64 (by omega) (by omega)]
  refine Ev.ite (fun c => ?_) (fun c => ?_)
  · rw [if_pos c] at h3
    rw [h3]; exact Ev.bind hr (Ev.now _)
  · rw [if_neg c] at h3
    rw [h3]; exact Ev.bind hr (Ev.now _)

theorem rdL_get (xs : List (List Int)) (i : Nat) (h : i < xs.length) : rd_L1 xs (i : Int) = xs[i] := by
  simp [rd_L1, List.getD_eq_getElem?_getD, List.getElem?_eq_getElem h]
/-- All numbers of all rows. -/
def tot : List (List Int) → Nat
  | [] => 0
  | x :: xs => x.length + tot xs
theorem tot_drop (xs : List (List Int)) (i : Nat) (h : i < xs.length) : tot (xs.drop i) = xs[i].length + tot (xs.drop (i + 1)) := by
  rw [drop_cons xs i h, tot]
theorem tot_mem {l : List (List Int)} {x : List Int} (h : x ∈ l) : x.length ≤ tot l := by
  induction l with
  | nil => simp at h
  | cons y ys ih =>
    rw [tot]
    rcases List.mem_cons.1 h with rfl | h
    · omega
    · have := ih h; omega

def sumL : List Int → Int
  | [] => 0
  | a :: l => a + sumL l
theorem sumL_append : ∀ (a b : List Int), sumL (a ++ b) = sumL a + sumL b
  | [], b => by simp [sumL]
  | x :: a, b => by rw [List.cons_append, sumL, sumL_append a b, sumL]; omega
theorem sumL_bound : ∀ (l : List Int), (∀ a ∈ l, -1 ≤ a ∧ a ≤ 1) → -(l.length : Int) ≤ sumL l ∧ sumL l ≤ l.length
  | [], _ => by simp [sumL]
  | a :: l, h => by
    have ih := sumL_bound l (fun b hb => h b (by simp [hb]))
    have := h a (by simp)
    rw [sumL, List.length_cons]
    omega
theorem impl_SumOf_l (w : List Int) (hw : isWord w = true) : ∀ (d i : Nat) (s : Int), i + d = w.length → s = sumL (w.take i) → Ev (fun k => impl_SumOf.l0 k s w (w.length : Int) i) (sumL w) := by
  have hx := (isWord_iff w).1 hw
  intro d
  induction d with
  | zero =>
    intro i s hi hs
    apply Ev.succ
    simp only [impl_SumOf.l0.eq_2]
    rw [List.take_of_length_le (by omega)] at hs
    exact Ev.neg (by omega) (Ev.ret hs)
  | succ d ih =>
    intro i s hi hs
    have hlt : i < w.length := by omega
    have h1 := hx.2 _ (List.getElem_mem hlt)
    have hb := sumL_bound (w.take i) (fun a ha => hx.2 a (List.mem_of_mem_take ha))
    rw [List.length_take] at hb
    apply Ev.succ
    simp only [impl_SumOf.l0.eq_2]
    refine Ev.pos (by omega) (Ev.pos (by omega) (Ev.pos (by omega) ?_))
    rw [rd_get w i hlt, w64 (n := (i : Int) + 1) (by omega) (by omega), w64 (by omega) (by omega), show (i : Int) + 1 = ((i + 1 : Nat) : Int) by omega]
    refine ih (i + 1) _ (by omega) ?_
    rw [take_snoc w i hlt, sumL_append, hs]
    simp [sumL]
theorem impl_SumOf_ev (w : List Int) : Ev (fun k => impl_SumOf.f k w) (if isWord w = true then sumL w else 0) := by
  simp only [impl_SumOf.f]
  refine Ev.bind (impl_IsWord_ev w) (Ev.ite (fun h => ?_) (fun h => Ev.ret (by rw [if_neg h])))
  rw [if_pos h]
  exact impl_SumOf_l w h w.length 0 0 (by omega) (by simp [sumL])

end Go.Proofs.Ytemcokpkgpnloaa.LemFnNecklaces
