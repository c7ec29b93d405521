/- Lemmas: what each function that this statement reaches computes. -/
import Derived.Test.YtlmiankjbffboaaHOpFnBranched
import Derived.Test.YtlmiankjbffboaaBase
import Derived.Test.YtlmiankjbffboaaDivM
import Derived.Test.YtlmiankjbffboaaWordM
set_option linter.unusedVariables false
set_option linter.unusedSimpArgs false
namespace Go.Proofs.Ytlmiankjbffboaa.LemFnBranched
open Go.RowKit Go.Proofs.YtlmiankjbffboaaW.PrintWords Go.Proofs.YtlmiankjbffboaaW.PrintLast Go.Proofs.YtlmiankjbffboaaW.PrintMore Go.Proofs.Ytlmiankjbffboaa.HFnBranched Go.Proofs.Ytlmiankjbffboaa.Base

theorem impl_power_l (n : Nat) (hn : n ≤ 30) : ∀ (d i : Nat), i + d = n → Ev (fun k => impl_power.l0 k ((3 : Int) ^ i) n i) ((3 : Int) ^ n) := by
 intro d
 induction d with
 | zero =>
  intro i hi
  apply Ev.succ
  simp only [impl_power.l0.eq_2]
  refine Ev.neg (by omega) (Ev.ret ?_)
  rw [← hi]; rfl
 | succ d ih =>
  intro i hi
  apply Ev.succ
  simp only [impl_power.l0.eq_2]
  have h1 := pow3_30 (i := i + 1) (by omega)
  have h2 := pow3_pos i
  rw [pow3_succ] at h1
  refine Ev.pos (by omega) ?_
  rw [w64 (by omega) (by omega), w64 (by omega) (by omega), Int.mul_comm, ← pow3_succ]
  exact ih (i + 1) (by omega)
theorem impl_power_ev (n : Int) (h0 : 0 ≤ n) (hn : n ≤ 30) : Ev (fun k => impl_power.f k n) ((3 : Int) ^ n.toNat) := by
 obtain ⟨m, rfl⟩ : ∃ m : Nat, n = m := ⟨n.toNat, by omega⟩
 exact impl_power_l m (by omega) m 0 (by omega)

theorem impl_LimitOf_ev (k : Int) : Ev (fun n => impl_LimitOf.f n k) (lim k) := by
 simp only [impl_LimitOf.f]
 unfold lim
 refine Ev.ite (fun h => Ev.ret (by rw [if_neg (by omega)])) (fun h => Ev.ite (fun h1 => Ev.ret (by rw [if_neg (by omega)])) (fun h1 => ?_))
 rw [if_pos (by omega)]
 refine Ev.bind (impl_power_ev k (by omega) (by omega)) (Ev.ret ?_)
 have h2 := pow3_30 (i := k.toNat) (by omega)
 have h3 := pow3_pos k.toNat
 rw [w64 (n := _ - 1) (by omega) (by omega), Int.tdiv_eq_ediv_of_nonneg (by omega), w64 (by omega) (by omega)]

theorem impl_fits_ev (n k : Int) : Ev (fun m => impl_fits.f m n k) (fitsB n k) := by
 simp only [impl_fits.f]
 have h1 := lim_nonneg k
 have h2 := lim_le k
 refine Ev.bind (impl_LimitOf_ev k) ?_
 rw [w64 (by omega) (by omega)]
 refine Ev.ite (fun h => Ev.bind (impl_LimitOf_ev k) (Ev.ret ?_)) (fun h => Ev.ret ?_)
 ·unfold fitsB; exact decide_eq_decide.2 (by omega)
 ·unfold fitsB; rw [decide_eq_false]; omega

/-- An operation that may stand in a code of n. -/
def opB (n : Int) (x : S48) : Bool := decide (
 if x.f0 = 1 then (-9841 ≤ x.f1 ∧ x.f1 ≤ 9841) ∧ x.f2 = 0 ∧ x.f3 = 0
 else if x.f0 = 10 then (-9 ≤ x.f1 ∧ x.f1 ≤ 9) ∧ x.f2 = 0 ∧ x.f3 = 0
 else if x.f0 = 13 then (0 ≤ x.f1 ∧ x.f1 ≤ n) ∧ x.f2 = 0 ∧ x.f3 = 0
 else if x.f0 = 14 then (0 ≤ x.f1 ∧ x.f1 ≤ n) ∧ (0 ≤ x.f2 ∧ x.f2 ≤ n) ∧ (0 ≤ x.f3 ∧ x.f3 ≤ n)
 else (1 ≤ x.f0 ∧ x.f0 ≤ 15) ∧ x.f1 = 0 ∧ x.f2 = 0 ∧ x.f3 = 0)
def codeB (l : List S48) : Bool := decide (1 ≤ l.length ∧ l.length ≤ 80) && l.all (opB l.length)

theorem anyO_ev {α : Type} {g : Nat → α → Option Bool} {p : α → Bool} : ∀ (l : List α), (∀ x ∈ l, Ev (fun k => g k x) (p x)) → Ev (fun k => Go.Proofs.Ytlmiankjbffboaa.Any.anyO (g k) l) (l.any p)
 | [], _ => Ev.now _
 | x :: xs, h => by
  simp only [Go.Proofs.Ytlmiankjbffboaa.Any.anyO]
  exact Ev.bind (h x List.mem_cons_self) (Ev.bind (anyO_ev xs (fun y hy => h y (List.mem_cons_of_mem _ hy))) (Ev.ret (by rw [List.any_cons])))
theorem not_any_not {α : Type} (p : α → Bool) (l : List α) : (!l.any fun x => !p x) = l.all p := by
 induction l with
 | nil => rfl
 | cons x xs ih => rw [List.any_cons, List.all_cons, ← ih]; simp

theorem fits9 (a : Int) : fitsB a 9 = decide (-9841 ≤ a ∧ a ≤ 9841) := by
 unfold fitsB
 rw [show lim 9 = 9841 by rfl]
theorem impl_isOp_ev (x : S48) (n : Int) : Ev (fun k => impl_isOp.f k x.f0 x.f1 x.f2 x.f3 n) (opB n x) := by
 simp only [impl_isOp.f]
 refine Ev.bind (impl_fits_ev x.f1 9) (Ev.ret ?_)
 rw [fits9, Bool.eq_iff_iff]
 unfold isOpB opB
 split
 ·simp; omega
 ·split
  ·simp; omega
  ·split
   ·simp; omega
   ·split
    ·simp; omega
    ·simp; omega

theorem impl_IsCode_ev (l : List S48) : Ev (fun k => impl_IsCode.f k l) (codeB l) := by
 simp only [impl_IsCode.f]
 unfold codeB
 refine Ev.ite (fun h => Ev.ite (fun h' => ?_) (fun h' => Ev.ret ?_)) (fun h => Ev.ret ?_)
 ·rw [decide_eq_true (by omega), Bool.true_and]
  refine Ev.bind (anyO_ev (p := fun x => !opB l.length x) l (fun x _ => Ev.bind (impl_isOp_ev x l.length) (Ev.now _))) (Ev.ret ?_)
  exact not_any_not _ _
 ·rw [decide_eq_false (by omega), Bool.false_and]
 ·rw [decide_eq_false (by omega), Bool.false_and]

def cellB (n : Int) : Bool := decide (-9841 ≤ n ∧ n ≤ 9841)

theorem impl_cells_ev (l : List Int) : Ev (fun k => impl_cells.f k l) (l.all cellB) := by
 simp only [impl_cells.f]
 refine Ev.bind (anyO_ev (p := fun x => !cellB x) l (fun x _ => Ev.bind (impl_fits_ev x 9) (Ev.ret ?_))) (Ev.ret (not_any_not _ _))
 rw [fits9]; rfl

def machB (l : List S48) (p : Int) (s c : List Int) : Bool := s.all cellB && c.all cellB && codeB l && decide (0 ≤ p ∧ p ≤ l.length) && decide (s.length ≤ 20) && decide (c.length = 27)

theorem impl_IsMachine_ev (l : List S48) (p : Int) (s c : List Int) : Ev (fun k => impl_IsMachine.f k l p s c) (machB l p s c) := by
 simp only [impl_IsMachine.f]
 unfold machB
 refine Ev.bind (impl_IsCode_ev l) (Ev.ite (fun h => ?_) (fun h => Ev.ret ?_))
 ·rw [h]
  refine Ev.ite (fun h1 => Ev.ite (fun h2 => Ev.ite (fun h3 => Ev.ite (fun h4 => ?_) (fun h4 => Ev.ret ?_)) (fun h3 => Ev.ret ?_)) (fun h2 => Ev.ret ?_)) (fun h1 => Ev.ret ?_)
  ·rw [decide_eq_true (by omega : 0 ≤ p ∧ p ≤ (l.length : Int)), decide_eq_true (by omega : s.length ≤ 20), decide_eq_true (by omega : c.length = 27)]
   refine Ev.bind (impl_cells_ev s) (Ev.ite (fun h5 => Ev.bind (impl_cells_ev c) (Ev.ret ?_)) (fun h5 => Ev.ret ?_))
   ·rw [h5]; simp
   ·rw [Bool.not_eq_true] at h5; rw [h5]; simp
  ·rw [decide_eq_false (by omega : ¬ c.length = 27)]; simp
  ·rw [decide_eq_false (by omega : ¬ s.length ≤ 20)]; simp
  ·rw [decide_eq_false (by omega : ¬ (0 ≤ p ∧ p ≤ (l.length : Int)))]; simp
  ·rw [decide_eq_false (by omega : ¬ (0 ≤ p ∧ p ≤ (l.length : Int)))]; simp
 ·rw [Bool.not_eq_true] at h; rw [h]; simp

theorem slices_Clone_eq (l : List Int) (h : l.length ≤ 1000000000) : slices_Clone_int_int.f l = some l := by
 unfold slices_Clone_int_int.f; rw [if_pos (by omega)]

theorem impl_copyMachine_eq (pc : Int) (s c : List Int) (hs : s.length ≤ 1000000000) (hc : c.length ≤ 1000000000) : impl_copyMachine.f pc s c = some (pc, s, c) := by
 unfold impl_copyMachine.f
 rw [slices_Clone_eq s hs, slices_Clone_eq c hc]; rfl

theorem impl_size_eq (d : Int) (h0 : -1000000000000000000 ≤ d) (h1 : d ≤ 1000000000000000000) : impl_size.f d = some (if d < 0 then -d else d) := by
 unfold impl_size.f mx
 rw [w64 (by omega) (by omega)]
 refine congrArg some ?_
 split <;> split <;> omega

theorem impl_divided_eq (a d : Int) (ha : -1000000000000000000 ≤ a ∧ a ≤ 1000000000000000000) (hd : -1000000000000000000 ≤ d ∧ d ≤ 1000000000000000000) (h0 : d ≠ 0) : impl_divided.f a d = some (Int.tdiv (a - divr a d) d, divr a d) := by
 have hs : impl_size.f d = some (if d < 0 then -d else d) := by
  unfold impl_size.f mx
  rw [w64 (by omega) (by omega)]
  refine congrArg some ?_
  split <;> split <;> omega
 unfold impl_divided.f
 rw [hs]
 simp only [Option.bind_some]
 rw [divr_eq a d _ _ rfl rfl]
 generalize hS : (if d < 0 then -d else d) = s
 have hs1 : 0 < s := by split at hS <;> omega
 have hs2 : s ≤ 1000000000000000000 := by split at hS <;> omega
 have h1 := Int.tmod_lt_of_pos a hs1
 have h2 : -s < Int.tmod a s := by
  have := Int.tmod_lt_of_pos (-a) hs1
  rw [Int.neg_tmod] at this; omega
 generalize hR : Int.tmod a s = r at *
 have key : ∀ b : Int, -2000000000000000000 ≤ b → b ≤ 2000000000000000000 → wrap64 (Int.tdiv b d) = Int.tdiv b d := by
  intro b hb0 hb1
  have := Int.natAbs_tdiv_le_natAbs b d
  exact w64 (by omega) (by omega)
 rw [if_neg (by omega), w64 (n := 2 * r) (by omega) (by omega), w64 (n := -s) (by omega) (by omega)]
 by_cases c1 : 2 * r > s
 ·rw [if_pos c1, if_neg h0]
  rw [if_pos c1, w64 (n := r - s) (by omega) (by omega), w64 (n := a - (r - s)) (by omega) (by omega), key _ (by omega) (by omega)]
 ·rw [if_neg c1]
  by_cases c2 : 2 * r ≤ -s
  ·rw [if_pos c2, if_neg h0]
   rw [if_neg c1, if_pos c2, w64 (n := r + s) (by omega) (by omega), w64 (n := a - (r + s)) (by omega) (by omega), key _ (by omega) (by omega)]
  ·rw [if_neg c2, if_neg h0]
   rw [if_neg c1, if_neg c2, w64 (n := a - r) (by omega) (by omega), key _ (by omega) (by omega)]

def wrapc (n : Int) : Int := (n + 9841) % 19683 - 9841
theorem wrapc_range (n : Int) : -9841 ≤ wrapc n ∧ wrapc n ≤ 9841 := by unfold wrapc; omega
theorem tmod_19683 (n : Int) : Int.tmod n 19683 = if 0 ≤ n then n % 19683 else -((-n) % 19683) := by
 split
 ·exact Int.tmod_eq_emod_of_nonneg (by omega)
 ·have h : Int.tmod (-n) 19683 = (-n) % 19683 := Int.tmod_eq_emod_of_nonneg (by omega)
  rw [Int.neg_tmod] at h; omega

theorem impl_WrapCell_ev (n : Int) : Ev (fun k => impl_WrapCell.f k n) (wrapc n) := by
 simp only [impl_WrapCell.f]
 have hp := impl_power_ev 9 (by omega) (by omega)
 refine Ev.bind hp ?_
 refine Ev.neg (by decide) ?_
 refine Ev.bind hp ?_
 have e : (3 : Int) ^ (Int.toNat 9) = 19683 := by decide
 rw [e]
 have h := tmod_19683 n
 generalize hr : Int.tmod n 19683 = r at *
 have h1 : -19683 < r ∧ r < 19683 ∧ (r - n) % 19683 = 0 := by split at h <;> omega
 refine Ev.bindc (impl_divided_eq r 19683 (by omega) (by omega) (by omega)) (Ev.ret ?_)
 have h3 : Int.tmod r 19683 = r := by rw [tmod_19683 r]; split <;> omega
 rw [divr_eq r 19683 19683 r (by decide) h3]
 unfold wrapc
 split
 ·omega
 ·split <;> omega

theorem impl_SignOf_eq (n : Int) : impl_SignOf.f n = some (sgn n) := by
 unfold impl_SignOf.f sgn
 by_cases h : n < 0
 ·rw [if_pos h, if_pos h]
 ·rw [if_neg h, if_neg h]
  by_cases h1 : n > 0
  ·rw [if_pos h1, if_pos h1]
  ·rw [if_neg h1, if_neg h1]

theorem impl_IsTrit_eq (a : Int) : impl_IsTrit.f a = some (isTrit a) := by
 unfold impl_IsTrit.f isTrit
 by_cases h : -1 ≤ a
 ·rw [if_pos (by omega)]; simp [h]
 ·rw [if_neg (by omega)]; simp [h]

theorem impl_trits_l (x : List Int) (hn : x.length ≤ 35184372088832) : ∀ (d i : Nat), i + d = x.length → Ev (fun k => impl_trits.l0 k x x.length i) ((x.drop i).all isTrit) := by
 intro d
 induction d with
 | zero =>
  intro i hi
  apply Ev.succ
  simp only [impl_trits.l0.eq_2]
  refine Ev.neg (by omega) (Ev.ret ?_)
  rw [List.drop_eq_nil_of_le (by omega)]; rfl
 | succ d ih =>
  intro i hi
  apply Ev.succ
  simp only [impl_trits.l0.eq_2, impl_IsTrit_eq, Option.bind_some]
  refine Ev.pos (by omega) (Ev.pos (by omega) (Ev.pos (by omega) ?_))
  rw [rd_get x i (by omega), drop_cons x i (by omega), List.all_cons, w64 (by omega) (by omega)]
  refine Ev.ite (fun h => ?_) (fun h => Ev.ret ?_)
  ·exact evTo (ih (i + 1) (by omega)) (by rw [h, Bool.true_and])
  ·rw [Bool.not_eq_true] at h; rw [h, Bool.false_and]
theorem impl_trits_ev (x : List Int) (hn : x.length ≤ 35184372088832) : Ev (fun k => impl_trits.f k x) (x.all isTrit) := by
 simp only [impl_trits.f]
 exact impl_trits_l x hn x.length 0 (by omega)

theorem impl_IsWord_ev (x : List Int) : Ev (fun k => impl_IsWord.f k x) (isWord x) := by
 simp only [impl_IsWord.f, isWord]
 refine Ev.ite (fun h => Ev.ite (fun h1 => ?_) (fun h1 => Ev.ret ?_)) (fun h => Ev.ret ?_)
 ·refine Ev.bind (impl_trits_ev x (by omega)) (Ev.ret ?_)
  rw [decide_eq_true (by omega), Bool.true_and]
 ·rw [decide_eq_false (by omega), Bool.false_and]
 ·rw [decide_eq_false (by omega), Bool.false_and]

theorem slices_Grow_eq (n : Int) (h0 : 0 ≤ n) (h : n ≤ 17592186044415) : slices_Grow_int_int.f [] n = some [] := by
 unfold slices_Grow_int_int.f; rw [if_pos ⟨rfl, h0, h⟩]
def total : List (List Int) → Nat
 | [] => 0
 | a :: l => a.length + total l
theorem total_join (l : List (List Int)) : l.flatten.length = total l := by
 induction l with
 | nil => rfl
 | cons a l ih => rw [List.flatten_cons, List.length_append, ih]; rfl
theorem total_append (a b : List (List Int)) : total (a ++ b) = total a + total b := by
 induction a with
 | nil => simp [total]
 | cons x a ih => rw [List.cons_append, total, total, ih]; omega
theorem rdll_get (xs : List (List Int)) (i : Nat) (h : i < xs.length) : rd_L2 xs (i : Int) = xs[i] := by
 simp [rd_L2, List.getD_eq_getElem?_getD, List.getElem?_eq_getElem h]
theorem total_take_le (l : List (List Int)) (i : Nat) : total (l.take i) ≤ total l := by
 have : total l = total (l.take i) + total (l.drop i) := by rw [← total_append, List.take_append_drop]
 omega
theorem slices_Concat_l1 (l : List (List Int)) (hn : l.length ≤ 1000000000) (ht : total l ≤ 1000000000000) : ∀ (d i : Nat), i + d = l.length → Ev (fun k => slices_Concat_int_int.l1 k (l.take i).flatten l l.length i) l.flatten := by
 intro d
 induction d with
 | zero =>
  intro i hi
  apply Ev.succ
  simp only [slices_Concat_int_int.l1.eq_2]
  exact Ev.neg (by omega) (Ev.ret (by rw [List.take_of_length_le (by omega)]))
 | succ d ih =>
  intro i hi
  apply Ev.succ
  simp only [slices_Concat_int_int.l1.eq_2]
  have h1 := ih (i + 1) (by omega)
  have h2 := total_take_le l (i + 1)
  rw [take_snoc l i (by omega)] at h1 h2
  rw [List.flatten_append, List.flatten_cons, List.flatten_nil, List.append_nil] at h1
  rw [total_append] at h2
  simp only [total] at h2
  rw [rdll_get l i (by omega), w64 (by omega) (by omega)]
  refine Ev.pos (by omega) (Ev.pos (by omega) (Ev.pos (by omega) (Ev.pos ?_ h1)))
  rw [total_join]; omega
theorem slices_Concat_l0 (l : List (List Int)) (hn : l.length ≤ 1000000000) (ht : total l ≤ 1000000000000) : ∀ (d i : Nat), i + d = l.length → Ev (fun k => slices_Concat_int_int.l0 k l (total (l.take i) : Nat) l l.length i) l.flatten := by
 intro d
 induction d with
 | zero =>
  intro i hi
  apply Ev.succ
  simp only [slices_Concat_int_int.l0.eq_2]
  have h2 := total_take_le l i
  refine Ev.neg (by omega) (Ev.bindc (slices_Grow_eq _ (by omega) (by omega)) ?_)
  exact slices_Concat_l1 l hn ht l.length 0 (by omega)
 | succ d ih =>
  intro i hi
  apply Ev.succ
  simp only [slices_Concat_int_int.l0.eq_2]
  have h1 := ih (i + 1) (by omega)
  have h2 := total_take_le l (i + 1)
  rw [take_snoc l i (by omega), total_append] at h1 h2
  simp only [total] at h1 h2
  rw [rdll_get l i (by omega), w64 (n := (i : Int) + 1) (by omega) (by omega), w64 (by omega) (by omega)]
  refine Ev.pos (by omega) (Ev.pos (by omega) (Ev.pos (by omega) (Ev.neg (by omega) ?_)))
  have e : ((total (l.take i) + (l[i].length + 0) : Nat) : Int) = (total (l.take i) : Int) + (l[i].length : Int) := by omega
  rw [e] at h1
  exact h1
theorem slices_Concat_ev (l : List (List Int)) (hn : l.length ≤ 1000000000) (ht : total l ≤ 1000000000000) : Ev (fun k => slices_Concat_int_int.f k l) l.flatten := by
 simp only [slices_Concat_int_int.f]
 exact slices_Concat_l0 l hn ht l.length 0 (by omega)

/-- What ShiftWord gives. -/
def shiftW (w : List Int) (d : Int) : List Int × Bool :=
 if isWord w = true ∧ d ≤ 30 - (w.length : Int) then
  if d ≤ -(w.length : Int) then ([0], true) else if d < 0 then (w.drop (-d).toNat, true) else (List.replicate d.toNat 0 ++ w, true)
 else ([], false)
theorem shiftW_trits (w : List Int) (d : Int) : ∀ a ∈ (shiftW w d).1, -1 ≤ a ∧ a ≤ 1 := by
 unfold shiftW
 split
 ·next h =>
  have hw := ((isWord_iff w).1 h.1).2
  split
  ·intro a ha; simp at ha; omega
  ·split
   ·intro a ha; exact hw a (List.mem_of_mem_drop ha)
   ·intro a ha
    rcases List.mem_append.1 ha with h1 | h1
    ·rw [List.eq_of_mem_replicate h1]; omega
    ·exact hw a h1
 ·intro a ha; exact absurd ha (by simp)
theorem shiftW_length (w : List Int) (d : Int) : (shiftW w d).1.length ≤ 30 := by
 unfold shiftW
 split
 ·next h =>
  have hw := ((isWord_iff w).1 h.1).1
  split
  ·simp
  ·split
   ·simp; omega
   ·simp; omega
 ·simp
/-- A cell that is shifted. -/
def shv (n d : Int) : Int := val ((shiftW (word 9 n) d).1.take 9)
theorem shv_cell (n d : Int) : -9841 ≤ shv n d ∧ shv n d ≤ 9841 := by
 unfold shv
 have h := val_range ((shiftW (word 9 n) d).1.take 9) (fun a ha => shiftW_trits _ _ a (List.mem_of_mem_take ha))
 have h2 := L3_mono (i := ((shiftW (word 9 n) d).1.take 9).length) (n := 9) (by rw [List.length_take]; omega)
 have h3 : L3 9 = 9841 := by decide
 omega

theorem impl_ShiftWord_ev (w : List Int) (d : Int) (hw : w.length ≤ 1000000000) : Ev (fun k => impl_ShiftWord.f k w d) (shiftW w d) := by
 simp only [impl_ShiftWord.f]
 have no : ¬ (isWord w = true ∧ d ≤ 30 - (w.length : Int)) → Ev (fun m => impl_ShiftWord.j0 m w d true) (shiftW w d) := by
  intro h
  apply Ev.succ
  simp only [impl_ShiftWord.j0.eq_2]
  exact Ev.pos (by simp) (Ev.ret (by unfold shiftW; rw [if_neg h]))
 refine Ev.bind (impl_IsWord_ev w) (Ev.ite (fun h => ?_) (fun h => no (fun h1 => h h1.1)))
 have hl := (isWord_iff w).1 h
 rw [w64 (by omega) (by omega)]
 by_cases c : d > 30 - (w.length : Int)
 ·rw [decide_eq_true c]; exact no (by omega)
 ·rw [decide_eq_false c]
  apply Ev.succ
  simp only [impl_ShiftWord.j0.eq_2]
  have hsh : shiftW w d = if d ≤ -(w.length : Int) then ([0], true) else if d < 0 then (w.drop (-d).toNat, true) else (List.replicate d.toNat 0 ++ w, true) := by
   unfold shiftW; exact if_pos ⟨h, by omega⟩
  rw [hsh, w64 (n := -(w.length : Int)) (by omega) (by omega)]
  refine Ev.neg (by simp) (Ev.ite (fun h1 => Ev.ret (by rw [if_pos h1])) (fun h1 => ?_))
  rw [if_neg h1]
  refine Ev.ite (fun h2 => ?_) (fun h2 => ?_)
  ·rw [if_pos h2, w64 (n := -d) (by omega) (by omega)]
   refine Ev.pos (by omega) (Ev.pos (by omega) (Ev.bindc (slices_Clone_eq _ (by simp; omega)) (Ev.now _)))
  ·rw [if_neg h2]
   refine Ev.pos (by omega) (Ev.pos (by omega) (Ev.bind (slices_Concat_ev _ (by simp) (by simp [total]; omega)) (Ev.ret (by simp))))

theorem impl_carried_eq (n : Int) (h : -4 ≤ n ∧ n ≤ 4) : impl_carried.f n = some (if n > 1 then n - 3 else if n < -1 then n + 3 else n, if n > 1 then 1 else if n < -1 then -1 else 0) := by
 unfold impl_carried.f
 by_cases h1 : n > 1
 ·rw [if_pos h1, if_pos h1, if_pos h1, w64 (by omega) (by omega)]
 ·rw [if_neg h1, if_neg h1, if_neg h1]
  by_cases h2 : n < -1
  ·rw [if_pos h2, if_pos h2, if_pos h2, w64 (by omega) (by omega)]
  ·rw [if_neg h2, if_neg h2, if_neg h2]

theorem tmod3 (n : Int) : Int.tmod n 3 = if 0 ≤ n then n % 3 else -((-n) % 3) := by
 split
 ·exact Int.tmod_eq_emod_of_nonneg (by omega)
 ·have h : Int.tmod (-n) 3 = (-n) % 3 := Int.tmod_eq_emod_of_nonneg (by omega)
  rw [Int.neg_tmod] at h; omega
theorem tdiv3 (n : Int) (h : n % 3 = 0) : Int.tdiv n 3 = n / 3 := by
 rw [Int.tdiv_eq_ediv_of_dvd (Int.dvd_of_emod_eq_zero h)]
theorem impl_WordOf_l (k : Nat) (hk : k ≤ 30) : ∀ (d i : Nat) (n : Int) (o : List Int), i + d = k → o.length = i → -100000000000000000 ≤ n → n ≤ 100000000000000000 → Ev (fun m => impl_WordOf.l0 m n o k i) (o ++ word d n, true) := by
 intro d
 induction d with
 | zero =>
  intro i n o hi ho h0 h1
  apply Ev.succ
  simp only [impl_WordOf.l0.eq_2]
  exact Ev.neg (by omega) (Ev.ret (by simp [word]))
 | succ d ih =>
  intro i n o hi ho h0 h1
  apply Ev.succ
  simp only [impl_WordOf.l0.eq_2]
  have ht := tmod3 n
  generalize hr : Int.tmod n 3 = r at *
  have h2 : -2 ≤ r ∧ r ≤ 2 ∧ (r - n) % 3 = 0 := by split at ht <;> omega
  refine Ev.pos (by omega) (Ev.bindc (impl_carried_eq r (by omega)) ?_)
  refine Ev.pos (by omega) ?_
  generalize hs : (if r > 1 then r - 3 else if r < -1 then r + 3 else r) = s
  have hs2 : s = (n + 1) % 3 - 1 := by split at hs <;> first | omega | (split at hs <;> omega)
  have e : Int.tdiv (n - s) 3 = (n + 1) / 3 := by rw [tdiv3 _ (by omega)]; omega
  rw [w64 (n := n - s) (by omega) (by omega), e, w64 (by omega) (by omega), w64 (by omega) (by omega)]
  refine evTo (ih (i + 1) ((n + 1) / 3) (o ++ [s]) (by omega) (by simp [ho]) (by omega) (by omega)) ?_
  rw [word, hs2]; simp
theorem impl_WordOf_ev (n k : Int) : Ev (fun m => impl_WordOf.f m n k) (wordOf n k) := by
 simp only [impl_WordOf.f]
 have no : ¬ (1 ≤ k ∧ k ≤ 30 ∧ fitsB n k = true) → Ev (fun m => impl_WordOf.j0 m n k true) (wordOf n k) := by
  intro h
  apply Ev.succ
  simp only [impl_WordOf.j0.eq_2]
  exact Ev.pos (by simp) (Ev.ret (by unfold wordOf; rw [if_neg h]))
 refine Ev.ite (fun h => no (by omega)) (fun h => Ev.ite (fun h1 => no (by omega)) (fun h1 => ?_))
 refine Ev.bind (impl_fits_ev n k) ?_
 by_cases c : fitsB n k = true
 ·rw [c]
  apply Ev.succ
  simp only [impl_WordOf.j0.eq_2]
  refine Ev.neg (by simp) ?_
  have hf := c
  unfold fitsB at hf
  have h2 := lim_nonneg k
  have h3 := lim_le k
  have h4 := of_decide_eq_true hf
  have hl := impl_WordOf_l k.toNat (by omega) k.toNat 0 n [] (by omega) rfl (by omega) (by omega)
  rw [show ((k.toNat : Nat) : Int) = k by omega] at hl
  unfold wordOf; rw [if_pos ⟨by omega, by omega, c⟩]
  simpa using hl
 ·rw [Bool.not_eq_true] at c
  rw [c]
  exact no (by rw [c]; simp)

theorem impl_value_l (x : List Int) (hn : x.length ≤ 30) (ht : ∀ a ∈ x, -1 ≤ a ∧ a ≤ 1) : ∀ i : Nat, i ≤ x.length → Ev (fun k => impl_value.l0 k x (val (x.drop i)) ((i : Int) - 1)) (val x) := by
 intro i
 induction i with
 | zero =>
  intro _
  apply Ev.succ
  simp only [impl_value.l0.eq_2]
  exact Ev.neg (by omega) (Ev.ret (by simp))
 | succ i ih =>
  intro hi
  apply Ev.succ
  simp only [impl_value.l0.eq_2]
  refine Ev.pos (by omega) (Ev.pos (by omega) (Ev.pos (by omega) ?_))
  have hr := val_range (x.drop (i + 1)) (fun a ha => ht a (List.mem_of_mem_drop ha))
  have hl := L3_30 (i := (x.drop (i + 1)).length) (by simp; omega)
  have hx := ht x[i] (List.getElem_mem _)
  have e1 : ((i + 1 : Nat) : Int) - 1 = (i : Int) := by omega
  rw [e1, rd_get x i (by omega), w64 (n := 3 * val (x.drop (i + 1))) (by omega) (by omega), w64 (by omega) (by omega), w64 (n := (i : Int) - 1) (by omega) (by omega)]
  have e2 : 3 * val (x.drop (i + 1)) + x[i] = val (x.drop i) := by
   rw [drop_cons x i (by omega), val]; omega
  rw [e2]
  exact ih (by omega)
theorem impl_value_ev (x : List Int) (hn : x.length ≤ 30) (ht : ∀ a ∈ x, -1 ≤ a ∧ a ≤ 1) : Ev (fun k => impl_value.f k x) (val x) := by
 simp only [impl_value.f]
 rw [w64 (by omega) (by omega)]
 have h := impl_value_l x hn ht x.length (Nat.le_refl _)
 rw [List.drop_length] at h
 exact h

theorem impl_shifted_ev (n d : Int) (h : -9841 ≤ n ∧ n ≤ 9841) : Ev (fun k => impl_shifted.f k n d) (shv n d) := by
 simp only [impl_shifted.f]
 have hw : wordOf n 9 = (word 9 n, true) := by
  unfold wordOf
  rw [if_pos ⟨by omega, by omega, by rw [fits9]; simpa using h⟩]; rfl
 have h0 := impl_WordOf_ev n 9
 rw [hw] at h0
 refine Ev.bind h0 (Ev.bind (impl_ShiftWord_ev (word 9 n) d (by rw [word_length]; omega)) ?_)
 have hl := shiftW_length (word 9 n) d
 have ht := shiftW_trits (word 9 n) d
 unfold shv
 generalize (shiftW (word 9 n) d).1 = w at *
 have e : mn (w.length : Int) 9 = ((min w.length 9 : Nat) : Int) := by unfold mn; split <;> omega
 rw [e]
 refine Ev.pos (by omega) (Ev.pos (by omega) ?_)
 have e2 : w.take (((min w.length 9 : Nat) : Int)).toNat = w.take 9 := by
  rw [Int.toNat_natCast]
  by_cases c : w.length ≤ 9
  ·rw [Nat.min_eq_left c, List.take_length, List.take_of_length_le c]
  ·rw [Nat.min_eq_right (by omega)]
 rw [e2]
 exact Ev.bind (impl_value_ev _ (by rw [List.length_take]; omega) (fun a ha => ht a (List.mem_of_mem_take ha))) (Ev.now _)

/-- A step of the machine: why it is not executed (0 if it is), and the machine behind it. -/
def goP (x : S48) (pc : Int) (st cl : List Int) (y a : Int) : Int × Int × List Int × List Int :=
 if x.f0 = 1 then (0, pc + 1, st ++ [x.f1], cl)
 else if x.f0 = 2 then (0, pc + 1, (st.set (st.length - 2) (wrapc (a + y))).take (st.length - 1), cl)
 else if x.f0 = 3 then (0, pc + 1, (st.set (st.length - 2) (wrapc (a - y))).take (st.length - 1), cl)
 else if x.f0 = 4 then (0, pc + 1, (st.set (st.length - 2) (wrapc (a * y))).take (st.length - 1), cl)
 else if x.f0 = 5 then (0, pc + 1, st.set (st.length - 1) (-y), cl)
 else if x.f0 = 6 then (0, pc + 1, st.set (st.length - 1) (sgn y), cl)
 else if x.f0 = 7 then (0, pc + 1, st ++ [y], cl)
 else if x.f0 = 8 then (0, pc + 1, (st.set (st.length - 2) y).set (st.length - 1) a, cl)
 else if x.f0 = 9 then (0, pc + 1, st.take (st.length - 1), cl)
 else if x.f0 = 10 then (0, pc + 1, st.set (st.length - 1) (shv y x.f1), cl)
 else if x.f0 = 11 then (0, pc + 1, st.set (st.length - 1) (rd cl (y + 13)), cl)
 else if x.f0 = 12 then (0, pc + 1, st.take (st.length - 2), cl.set (y + 13).toNat a)
 else if x.f0 = 13 then (0, x.f1, st, cl)
 else (0, if sgn y = -1 then x.f1 else if sgn y = 0 then x.f2 else x.f3, st.take (st.length - 1), cl)
def ndP (c : Int) : Nat := if c = 2 ∨ c = 3 ∨ c = 4 ∨ c = 8 ∨ c = 12 then 2 else if c = 5 ∨ c = 6 ∨ c = 7 ∨ c = 9 ∨ c = 10 ∨ c = 11 ∨ c = 14 then 1 else 0
def stepP (l : List S48) (pc : Int) (st cl : List Int) : Int × Int × List Int × List Int :=
 if pc = (l.length : Int) then (2, pc, st, cl)
 else if (rd_T48 l pc).f0 = 15 then (1, pc, st, cl)
 else if st.length < ndP (rd_T48 l pc).f0 then (3, pc, st, cl)
 else if st.length = 20 ∧ ((rd_T48 l pc).f0 = 1 ∨ (rd_T48 l pc).f0 = 7) then (3, pc, st, cl)
 else if ((rd_T48 l pc).f0 = 11 ∨ (rd_T48 l pc).f0 = 12) ∧ ¬ (-13 ≤ rd st ((st.length : Int) - 1) ∧ rd st ((st.length : Int) - 1) ≤ 13) then (4, pc, st, cl)
 else goP (rd_T48 l pc) pc st cl (rd st ((st.length : Int) - 1)) (rd st ((st.length : Int) - 2))
/-- A machine that is valid for a code. -/
structure Vm (l : List S48) (pc : Int) (st cl : List Int) : Prop where
 p0 : 0 ≤ pc
 p1 : pc ≤ l.length
 sl : st.length ≤ 20
 cn : cl.length = 27
 s : ∀ a ∈ st, -9841 ≤ a ∧ a ≤ 9841
 c : ∀ a ∈ cl, -9841 ≤ a ∧ a ≤ 9841
theorem machB_iff (l : List S48) (pc : Int) (st cl : List Int) : machB l pc st cl = true ↔ codeB l = true ∧ Vm l pc st cl := by
 unfold machB
 simp only [Bool.and_eq_true, List.all_eq_true, cellB, decide_eq_true_eq]
 constructor
 ·rintro ⟨⟨⟨⟨⟨h1, h2⟩, h3⟩, h4⟩, h5⟩, h6⟩
  exact ⟨h3, h4.1, h4.2, h5, h6, h1, h2⟩
 ·rintro ⟨h3, h⟩
  exact ⟨⟨⟨⟨⟨h.s, h.c⟩, h3⟩, h.p0, h.p1⟩, h.sl⟩, h.cn⟩
theorem codeB_op {l : List S48} (h : codeB l = true) {pc : Int} (h0 : 0 ≤ pc) (h1 : pc < l.length) : opB l.length (rd_T48 l pc) = true := by
 unfold codeB at h
 simp only [Bool.and_eq_true, List.all_eq_true] at h
 refine h.2 _ ?_
 unfold rd_T48
 rw [List.getD_eq_getElem?_getD, List.getElem?_eq_getElem (by omega)]
 exact List.getElem_mem _
theorem codeB_len {l : List S48} (h : codeB l = true) : 1 ≤ l.length ∧ l.length ≤ 80 := by
 unfold codeB at h
 simp only [Bool.and_eq_true, decide_eq_true_eq] at h
 exact h.1
theorem mem_take_set {st : List Int} {i j : Nat} {r a : Int} (h : a ∈ (st.set i r).take j) : a = r ∨ a ∈ st := by
 rcases List.mem_or_eq_of_mem_set (List.mem_of_mem_take h) with h | h
 ·exact .inr h
 ·exact .inl h
theorem wrapc_cell (n : Int) : -9841 ≤ wrapc n ∧ wrapc n ≤ 9841 := by unfold wrapc; omega
theorem sgn_cell (n : Int) : -1 ≤ sgn n ∧ sgn n ≤ 1 := by unfold sgn; split; omega; split <;> omega
theorem stepP_vm {l : List S48} {pc : Int} {st cl : List Int} (hc : codeB l = true) (h : Vm l pc st cl) : Vm l (stepP l pc st cl).2.1 (stepP l pc st cl).2.2.1 (stepP l pc st cl).2.2.2 := by
 unfold stepP
 by_cases e0 : pc = (l.length : Int)
 ·rw [if_pos e0]; exact h
 rw [if_neg e0]
 have hp := h.p1
 have h0 := h.p0
 have ho := codeB_op hc h.p0 (by omega)
 have hsl := h.sl
 generalize rd_T48 l pc = x at *
 by_cases e1 : x.f0 = 15
 ·rw [if_pos e1]; exact h
 rw [if_neg e1]
 by_cases e2 : st.length < ndP x.f0
 ·rw [if_pos e2]; exact h
 rw [if_neg e2]
 by_cases e3 : st.length = 20 ∧ (x.f0 = 1 ∨ x.f0 = 7)
 ·rw [if_pos e3]; exact h
 rw [if_neg e3]
 by_cases e4 : (x.f0 = 11 ∨ x.f0 = 12) ∧ ¬ (-13 ≤ rd st ((st.length : Int) - 1) ∧ rd st ((st.length : Int) - 1) ≤ 13)
 ·rw [if_pos e4]; exact h
 rw [if_neg e4]
 have hy : 1 ≤ st.length → -9841 ≤ rd st ((st.length : Int) - 1) ∧ rd st ((st.length : Int) - 1) ≤ 9841 := fun h1 => h.s _ (rd_mem (by omega) (by omega))
 have ha : 2 ≤ st.length → -9841 ≤ rd st ((st.length : Int) - 2) ∧ rd st ((st.length : Int) - 2) ≤ 9841 := fun h1 => h.s _ (rd_mem (by omega) (by omega))
 generalize rd st ((st.length : Int) - 1) = y at *
 generalize rd st ((st.length : Int) - 2) = a at *
 have tk : ∀ j, Vm l (pc + 1) (st.take j) cl := fun j => ⟨by omega, by omega, by rw [List.length_take]; omega, h.cn, fun b hb => h.s b (List.mem_of_mem_take hb), h.c⟩
 have stt : ∀ i r, -9841 ≤ r ∧ r ≤ 9841 → Vm l (pc + 1) (st.set i r) cl := fun i r hr => ⟨by omega, by omega, by rw [List.length_set]; omega, h.cn, fun b hb => by rcases List.mem_or_eq_of_mem_set hb with h1 | h1; exact h.s b h1; exact h1 ▸ hr, h.c⟩
 have sk : ∀ i j r, -9841 ≤ r ∧ r ≤ 9841 → Vm l (pc + 1) ((st.set i r).take j) cl := fun i j r hr => ⟨by omega, by omega, by rw [List.length_take, List.length_set]; omega, h.cn, fun b hb => by rcases mem_take_set hb with h1 | h1; exact h1 ▸ hr; exact h.s b h1, h.c⟩
 have ap : ∀ r, st.length < 20 → -9841 ≤ r ∧ r ≤ 9841 → Vm l (pc + 1) (st ++ [r]) cl := fun r hl hr => ⟨by omega, by omega, by simp; omega, h.cn, fun b hb => by rcases List.mem_append.1 hb with h1 | h1; exact h.s b h1; simp at h1; exact h1 ▸ hr, h.c⟩
 have ho2 : (if x.f0 = 1 then (-9841 ≤ x.f1 ∧ x.f1 ≤ 9841) ∧ x.f2 = 0 ∧ x.f3 = 0
  else if x.f0 = 10 then (-9 ≤ x.f1 ∧ x.f1 ≤ 9) ∧ x.f2 = 0 ∧ x.f3 = 0
  else if x.f0 = 13 then (0 ≤ x.f1 ∧ x.f1 ≤ (l.length : Int)) ∧ x.f2 = 0 ∧ x.f3 = 0
  else if x.f0 = 14 then (0 ≤ x.f1 ∧ x.f1 ≤ (l.length : Int)) ∧ (0 ≤ x.f2 ∧ x.f2 ≤ (l.length : Int)) ∧ (0 ≤ x.f3 ∧ x.f3 ≤ (l.length : Int))
  else (1 ≤ x.f0 ∧ x.f0 ≤ 15) ∧ x.f1 = 0 ∧ x.f2 = 0 ∧ x.f3 = 0) := by simpa [opB] using ho
 clear ho
 unfold goP
 by_cases c1 : x.f0 = 1
 ·rw [if_pos c1] at ho2 ⊢; exact ap _ (by rcases Nat.lt_or_ge st.length 20 with q | q; exact q; exact absurd ⟨by omega, .inl c1⟩ e3) ho2.1
 rw [if_neg c1] at ho2 ⊢
 by_cases c2 : x.f0 = 2
 ·rw [if_pos c2]; exact sk _ _ _ (wrapc_cell _)
 rw [if_neg c2]
 by_cases c3 : x.f0 = 3
 ·rw [if_pos c3]; exact sk _ _ _ (wrapc_cell _)
 rw [if_neg c3]
 by_cases c4 : x.f0 = 4
 ·rw [if_pos c4]; exact sk _ _ _ (wrapc_cell _)
 rw [if_neg c4]
 by_cases c5 : x.f0 = 5
 ·rw [if_pos c5]; have := hy (by rw [c5, show ndP 5 = 1 by decide] at e2; omega); exact stt _ _ (by omega)
 rw [if_neg c5]
 by_cases c6 : x.f0 = 6
 ·rw [if_pos c6]; have := sgn_cell y; exact stt _ _ (by omega)
 rw [if_neg c6]
 by_cases c7 : x.f0 = 7
 ·rw [if_pos c7]; exact ap _ (by rcases Nat.lt_or_ge st.length 20 with q | q; exact q; exact absurd ⟨by omega, .inr c7⟩ e3) (hy (by rw [c7, show ndP 7 = 1 by decide] at e2; omega))
 rw [if_neg c7]
 by_cases c8 : x.f0 = 8
 ·rw [if_pos c8]
  have hn : 2 ≤ st.length := by rw [c8, show ndP 8 = 2 by decide] at e2; omega
  have h2 := stt (st.length - 2) y (hy (by omega))
  exact ⟨h2.p0, h2.p1, by rw [List.length_set]; exact h2.sl, h2.cn, fun b hb => by rcases List.mem_or_eq_of_mem_set hb with h1 | h1; exact h2.s b h1; exact h1 ▸ ha hn, h2.c⟩
 rw [if_neg c8]
 by_cases c9 : x.f0 = 9
 ·rw [if_pos c9]; exact tk _
 rw [if_neg c9]
 by_cases c10 : x.f0 = 10
 ·rw [if_pos c10]; exact stt _ _ (shv_cell _ _)
 rw [if_neg c10] at ho2 ⊢
 by_cases c11 : x.f0 = 11
 ·rw [if_pos c11]
  have h13 : -13 ≤ y ∧ y ≤ 13 := Classical.byContradiction (fun q => e4 ⟨.inl c11, q⟩)
  have hcl := h.cn
  exact stt _ _ (h.c _ (rd_mem (by omega) (by omega)))
 rw [if_neg c11]
 by_cases c12 : x.f0 = 12
 ·rw [if_pos c12]
  have h2 := tk (st.length - 2)
  have hn : 2 ≤ st.length := by rw [c12, show ndP 12 = 2 by decide] at e2; omega
  exact ⟨h2.p0, h2.p1, h2.sl, by rw [List.length_set]; exact h.cn, h2.s, fun b hb => by rcases List.mem_or_eq_of_mem_set hb with h1 | h1; exact h.c b h1; exact h1 ▸ ha hn⟩
 rw [if_neg c12]
 by_cases c13 : x.f0 = 13
 ·rw [if_pos c13] at ho2 ⊢; exact ⟨ho2.1.1, ho2.1.2, h.sl, h.cn, h.s, h.c⟩
 rw [if_neg c13] at ho2 ⊢
 have c14 : x.f0 = 14 := by
  by_cases c14 : x.f0 = 14
  ·exact c14
  ·rw [if_neg c14] at ho2; omega
 rw [if_pos c14] at ho2
 refine ⟨?_, ?_, by rw [List.length_take]; omega, h.cn, fun b hb => h.s b (List.mem_of_mem_take hb), h.c⟩
 ·show (0 : Int) ≤ (if sgn y = -1 then x.f1 else if sgn y = 0 then x.f2 else x.f3)
  split
  ·omega
  ·split <;> omega
 ·show (if sgn y = -1 then x.f1 else if sgn y = 0 then x.f2 else x.f3) ≤ (l.length : Int)
  split
  ·omega
  ·split <;> omega
theorem goP_fst2 (x : S48) (pc : Int) (st cl : List Int) (y a : Int) : (goP x pc st cl y a).1 = 0 := by
 unfold goP; simp only [apply_ite Prod.fst, ite_self]
theorem stepP_stop2 {l : List S48} {pc : Int} {st cl : List Int} (h : (stepP l pc st cl).1 ≠ 0) : (stepP l pc st cl).2 = (pc, st, cl) := by
 unfold stepP at h ⊢
 split
 ·rfl
 ·split
  ·rfl
  ·split
   ·rfl
   ·split
    ·rfl
    ·split
     ·rfl
     ·next q0 q1 q2 q3 q4 =>
      rw [if_neg q0, if_neg q1, if_neg q2, if_neg q3, if_neg q4] at h
      exact absurd (goP_fst2 _ _ _ _ _ _) h

theorem mul_cell {a y : Int} (ha : -9841 ≤ a ∧ a ≤ 9841) (hy : -9841 ≤ y ∧ y ≤ 9841) : -96845281 ≤ a * y ∧ a * y ≤ 96845281 := by
 have h1 : (a.natAbs * y.natAbs : Nat) ≤ 9841 * 9841 := Nat.mul_le_mul (by omega) (by omega)
 have h2 : (a * y).natAbs = a.natAbs * y.natAbs := Int.natAbs_mul a y
 omega
theorem impl_step_nd (c : Int) : impl_step.nd c = ndP c := rfl
theorem impl_step_ev (l : List S48) (pc : Int) (st cl : List Int) (hc : codeB l = true) (h : Vm l pc st cl) : Ev (fun k => impl_step.f k l pc st cl) (stepP l pc st cl) := by
 simp only [impl_step.f]
 unfold stepP
 refine Ev.ite (fun e0 => Ev.ret (by rw [if_pos e0])) (fun e0 => ?_)
 rw [if_neg e0]
 have hp := h.p1
 have h0 := h.p0
 have hlen := codeB_len hc
 have ho := codeB_op hc h.p0 (by omega)
 have hsl := h.sl
 refine Ev.pos ⟨h0, by omega, hlen.2, hsl, h.cn⟩ ?_
 generalize rd_T48 l pc = x at *
 refine Ev.ite (fun e1 => Ev.ret (by rw [if_pos e1])) (fun e1 => ?_)
 rw [if_neg e1]
 refine Ev.ite (fun e2 => Ev.ret (by rw [if_pos (by rwa [impl_step_nd] at e2)])) (fun e2 => ?_)
 rw [impl_step_nd] at e2
 rw [if_neg e2]
 refine Ev.ite (fun e3 => Ev.ret (by rw [if_pos e3])) (fun e3 => ?_)
 rw [if_neg e3]
 have hy : 1 ≤ st.length → -9841 ≤ rd st ((st.length : Int) - 1) ∧ rd st ((st.length : Int) - 1) ≤ 9841 := fun h1 => h.s _ (rd_mem (by omega) (by omega))
 have ha : 2 ≤ st.length → -9841 ≤ rd st ((st.length : Int) - 2) ∧ rd st ((st.length : Int) - 2) ≤ 9841 := fun h1 => h.s _ (rd_mem (by omega) (by omega))
 generalize rd st ((st.length : Int) - 1) = y at *
 generalize rd st ((st.length : Int) - 2) = a at *
 have go : ¬ ((x.f0 = 11 ∨ x.f0 = 12) ∧ ¬ (-13 ≤ y ∧ y ≤ 13)) → Ev (fun k => impl_step.go k x pc st cl y a) (goP x pc st cl y a) := by
  intro e4
  simp only [impl_step.go]
  unfold goP
  refine Ev.ite (fun c => Ev.ret (by rw [if_pos c])) (fun c => ?_)
  rw [if_neg c]
  refine Ev.ite (fun c => ?_) (fun c => ?_)
  ·rw [if_pos c]
   have hn : 2 ≤ st.length := by rw [c, show ndP 2 = 2 by decide] at e2; omega
   have h1 := ha hn; have h2 := hy (by omega)
   rw [w64 (by omega) (by omega)]
   exact Ev.bind (impl_WrapCell_ev _) (Ev.now _)
  rw [if_neg c]
  refine Ev.ite (fun c => ?_) (fun c => ?_)
  ·rw [if_pos c]
   have hn : 2 ≤ st.length := by rw [c, show ndP 3 = 2 by decide] at e2; omega
   have h1 := ha hn; have h2 := hy (by omega)
   rw [w64 (by omega) (by omega)]
   exact Ev.bind (impl_WrapCell_ev _) (Ev.now _)
  rw [if_neg c]
  refine Ev.ite (fun c => ?_) (fun c => ?_)
  ·rw [if_pos c]
   have hn : 2 ≤ st.length := by rw [c, show ndP 4 = 2 by decide] at e2; omega
   have h1 := mul_cell (ha hn) (hy (by omega))
   rw [w64 (by omega) (by omega)]
   exact Ev.bind (impl_WrapCell_ev _) (Ev.now _)
  rw [if_neg c]
  refine Ev.ite (fun c => ?_) (fun c => ?_)
  ·rw [if_pos c]
   have h2 := hy (by rw [c, show ndP 5 = 1 by decide] at e2; omega)
   rw [w64 (by omega) (by omega)]
   exact Ev.now _
  rw [if_neg c]
  refine Ev.ite (fun c => ?_) (fun c => ?_)
  ·rw [if_pos c]
   exact Ev.bindc (impl_SignOf_eq y) (Ev.now _)
  rw [if_neg c]
  refine Ev.ite (fun c => Ev.ret (by rw [if_pos c])) (fun c => ?_)
  rw [if_neg c]
  refine Ev.ite (fun c => Ev.ret (by rw [if_pos c])) (fun c => ?_)
  rw [if_neg c]
  refine Ev.ite (fun c => Ev.ret (by rw [if_pos c])) (fun c => ?_)
  rw [if_neg c]
  refine Ev.ite (fun c => ?_) (fun c => ?_)
  ·rw [if_pos c]
   exact Ev.bind (impl_shifted_ev y x.f1 (hy (by rw [c, show ndP 10 = 1 by decide] at e2; omega))) (Ev.now _)
  rw [if_neg c]
  refine Ev.ite (fun c => Ev.ret (by rw [if_pos c])) (fun c => ?_)
  rw [if_neg c]
  refine Ev.ite (fun c => Ev.ret (by rw [if_pos c])) (fun c => ?_)
  rw [if_neg c]
  refine Ev.ite (fun c => Ev.ret (by rw [if_pos c])) (fun c => ?_)
  rw [if_neg c]
  refine Ev.pos ?_ (Ev.bindc (impl_SignOf_eq y) (Ev.now _))
  have ho2 : (if x.f0 = 1 then (-9841 ≤ x.f1 ∧ x.f1 ≤ 9841) ∧ x.f2 = 0 ∧ x.f3 = 0
   else if x.f0 = 10 then (-9 ≤ x.f1 ∧ x.f1 ≤ 9) ∧ x.f2 = 0 ∧ x.f3 = 0
   else if x.f0 = 13 then (0 ≤ x.f1 ∧ x.f1 ≤ (l.length : Int)) ∧ x.f2 = 0 ∧ x.f3 = 0
   else if x.f0 = 14 then (0 ≤ x.f1 ∧ x.f1 ≤ (l.length : Int)) ∧ (0 ≤ x.f2 ∧ x.f2 ≤ (l.length : Int)) ∧ (0 ≤ x.f3 ∧ x.f3 ≤ (l.length : Int))
   else (1 ≤ x.f0 ∧ x.f0 ≤ 15) ∧ x.f1 = 0 ∧ x.f2 = 0 ∧ x.f3 = 0) := by simpa [opB] using ho
  by_cases q : x.f0 = 14
  ·exact q
  ·exfalso
   rw [if_neg ‹¬ x.f0 = 1›, if_neg ‹¬ x.f0 = 10›, if_neg ‹¬ x.f0 = 13›, if_neg q] at ho2
   omega
 refine Ev.ite (fun e5 => ?_) (fun e5 => ?_)
 ·have hy1 := hy (by rcases e5 with e | e; (rw [e, show ndP 11 = 1 by decide] at e2; omega); (rw [e, show ndP 12 = 2 by decide] at e2; omega))
  have hsz : impl_size.f y = some (if y < 0 then -y else y) := by
   unfold impl_size.f mx
   rw [w64 (by omega) (by omega)]
   refine congrArg some ?_
   split <;> split <;> omega
  refine Ev.bindc hsz (Ev.ite (fun e6 => Ev.ret ?_) (fun e6 => ?_))
  ·rw [if_pos ⟨e5, by split at e6 <;> omega⟩]
  ·have h13 : -13 ≤ y ∧ y ≤ 13 := by split at e6 <;> omega
   refine Ev.pos h13 ?_
   rw [if_neg (fun hh => hh.2 h13)]
   exact go (fun hh => hh.2 h13)
 ·rw [if_neg (fun hh => e5 hh.1)]
  exact go (fun hh => e5 hh.1)

/-- A run of n steps at most. -/
def runP (l : List S48) : Nat → Int → List Int → List Int → Int × List Int × List Int × Int
 | 0, pc, st, cl => (pc, st, cl, 5)
 | n + 1, pc, st, cl => if (stepP l pc st cl).1 = 0 then runP l n (stepP l pc st cl).2.1 (stepP l pc st cl).2.2.1 (stepP l pc st cl).2.2.2 else ((stepP l pc st cl).2.1, (stepP l pc st cl).2.2.1, (stepP l pc st cl).2.2.2, (stepP l pc st cl).1)

theorem impl_RunMachine_l (l : List S48) (hc : codeB l = true) : ∀ (n : Nat) (pc : Int) (st cl : List Int), Vm l pc st cl → Ev (fun k => impl_RunMachine.loop k l n pc st cl) (runP l n pc st cl)
 | 0, _, _, _, _ => Ev.now _
 | n + 1, pc, st, cl, h => by
  simp only [impl_RunMachine.loop, runP]
  refine Ev.bind (impl_step_ev l pc st cl hc h) (Ev.ite (fun e => ?_) (fun e => Ev.ret (by rw [if_neg e])))
  rw [if_pos e]
  exact impl_RunMachine_l l hc n _ _ _ (stepP_vm hc h)
theorem impl_RunMachine_ev (l : List S48) (pc : Int) (st cl : List Int) (n : Nat) (hn : n ≤ 2000) (hc : codeB l = true) (h : Vm l pc st cl) : Ev (fun k => impl_RunMachine.f k l pc st cl n) (runP l n pc st cl) := by
 simp only [impl_RunMachine.f]
 have hm := (machB_iff l pc st cl).2 ⟨hc, h⟩
 have h1 := impl_IsMachine_ev l pc st cl
 rw [hm] at h1
 have := h.sl
 have := h.cn
 refine Ev.bind h1 (Ev.pos rfl (Ev.neg (by omega) (Ev.bindc (impl_copyMachine_eq pc st cl (by omega) (by omega)) ?_)))
 rw [Int.toNat_natCast]
 exact impl_RunMachine_l l hc n pc st cl h
theorem impl_RunMachine_no (l : List S48) (pc : Int) (st cl : List Int) (f : Int) (h : ¬ (machB l pc st cl = true ∧ 0 ≤ f ∧ f ≤ 2000)) : Ev (fun k => impl_RunMachine.f k l pc st cl f) (0, [], [], 0) := by
 simp only [impl_RunMachine.f]
 have h1 := impl_IsMachine_ev l pc st cl
 refine Ev.bind h1 (Ev.ite (fun q => Ev.pos ?_ (Ev.now _)) (fun q => Ev.now _))
 rcases Int.lt_or_le f 0 with c | c
 ·exact .inl c
 ·rcases Int.lt_or_le 2000 f with d | d
  ·exact .inr d
  ·exact absurd ⟨q, c, d⟩ h

theorem laws_ints_l (x0 x1 : List Int) (hl : x0.length = x1.length) (hn : x0.length ≤ 35184372088832) : ∀ (d i : Nat), i + d = x0.length → Ev (fun k => laws_ints.l0 k x0 x1 x0.length i) (decide (x0.drop i = x1.drop i)) := by
 intro d
 induction d with
 | zero =>
  intro i hi
  apply Ev.succ
  simp only [laws_ints.l0.eq_2]
  refine Ev.neg (by omega) (Ev.ret ?_)
  rw [List.drop_eq_nil_of_le (by omega), List.drop_eq_nil_of_le (by omega)]; simp
 | succ d ih =>
  intro i hi
  apply Ev.succ
  simp only [laws_ints.l0.eq_2]
  refine Ev.pos (by omega) (Ev.pos (by omega) (Ev.pos (by omega) (Ev.pos (by omega) ?_)))
  rw [rd_get x0 i (by omega), rd_get x1 i (by omega), drop_cons x0 i (by omega), drop_cons x1 i (by omega)]
  refine Ev.ite (fun h => ?_) (fun h => ?_)
  ·rw [w64 (by omega) (by omega)]
   exact evTo (ih (i + 1) (by omega)) (by simp only [List.cons.injEq, h, true_and])
  ·exact Ev.ret (by simp only [List.cons.injEq, h, false_and, decide_false])
theorem laws_ints_ev (x0 x1 : List Int) (hn : x0.length ≤ 35184372088832) : Ev (fun k => laws_ints.f k x0 x1) (decide (x0 = x1)) := by
 simp only [laws_ints.f]
 refine Ev.ite (fun h => ?_) (fun h => Ev.ret ?_)
 ·exact evTo (laws_ints_l x0 x1 (by omega) hn x0.length 0 (by omega)) (by simp)
 ·symm; rw [decide_eq_false_iff_not]; intro e; rw [e] at h; exact h rfl

def atv (l : List Int) (i : Nat) : Int := if i < l.length then rd l i else ((i : Int) * 37 + l.length * 11) % 256
theorem atv_range (l : List Int) (i : Nat) (h : ∀ x ∈ l, (Lit.int .u8 x).wf = true) : 0 ≤ atv l i ∧ atv l i < 256 := by
 unfold atv
 by_cases hi : i < l.length
 ·rw [if_pos hi]
  exact wf8 (h _ (rd_mem (by omega) (by omega)))
 ·rw [if_neg hi]; omega
theorem laws_at_eq (l : List Int) (i : Nat) (hn : l.length ≤ 1048576) (hi : i ≤ 100) (h : ∀ x ∈ l, (Lit.int .u8 x).wf = true) : laws_at.f l (i : Int) = some (atv l i) := by
 unfold laws_at.f atv
 by_cases hi : i < l.length
 ·rw [if_pos (by omega), if_pos (by omega), if_pos hi]
  have := wf8 (h _ (rd_mem (xs := l) (i := i) (by omega) (by omega)))
  rw [w64 (by omega) (by omega)]
 ·rw [if_neg (by omega), if_neg hi]
  rw [w64 (n := (i : Int) * 37) (by omega) (by omega), w64 (n := (l.length : Int) * 11) (by omega) (by omega), w64 (by omega) (by omega), Int.tmod_eq_emod_of_nonneg (by omega)]

theorem impl_NewMachine_eq : impl_NewMachine.f = some (0, [], List.replicate 27 0) := rfl

theorem spec_l1In_eq (a b c : Int) : spec_l1In.f a b c = some (decide (b ≤ a ∧ a ≤ c)) := by
 unfold spec_l1In.f
 by_cases h : b ≤ a
 ·rw [if_pos (by omega)]; simp [h]
 ·rw [if_neg (by omega)]; simp [h]

theorem spec_LimitOf_l (n : Nat) (hn : n ≤ 30) : ∀ (d i : Nat), i + d = n → Ev (fun k => spec_LimitOf.l0 k n (((3 : Int) ^ i - 1) / 2) i) (((3 : Int) ^ n - 1) / 2) := by
 intro d
 induction d with
 | zero =>
  intro i hi
  apply Ev.succ
  simp only [spec_LimitOf.l0.eq_2]
  refine Ev.neg (by omega) (Ev.ret ?_)
  rw [← hi]; rfl
 | succ d ih =>
  intro i hi
  apply Ev.succ
  simp only [spec_LimitOf.l0.eq_2]
  have h1 := pow3_30 (i := i + 1) (by omega)
  have h2 := pow3_pos i
  have h3 := pow3_lim i
  have h4 := pow3_lim (i + 1)
  rw [pow3_succ] at h1 h4
  refine Ev.pos (by omega) ?_
  rw [w64 (n := _ * _) (by omega) (by omega), w64 (by omega) (by omega), w64 (by omega) (by omega)]
  refine (ih (i + 1) (by omega)).congr (fun k => ?_)
  refine congrArg (fun z => spec_LimitOf.l0 k n z _) ?_
  rw [pow3_succ]; omega
theorem spec_LimitOf_ev (n : Int) : Ev (fun k => spec_LimitOf.f k n) (lim n) := by
 simp only [spec_LimitOf.f, spec_l1In_eq, Option.bind_some, decide_eq_true_eq]
 unfold lim
 refine Ev.ite (fun h => ?_) (fun h => Ev.ret (by rw [if_neg h]))
 obtain ⟨m, rfl⟩ : ∃ m : Nat, n = m := ⟨n.toNat, by omega⟩
 rw [if_pos h]
 exact spec_LimitOf_l m (by omega) m 0 (by omega)

theorem spec_l2Word_l (k : Nat) (hk : k ≤ 30) : ∀ (d i : Nat) (n : Int) (o : List Int), i + d = k → o.length = i → -100000000000000000 ≤ n → n ≤ 100000000000000000 → Ev (fun m => spec_l2Word.l0 m n k o i) (o ++ word d n) := by
 intro d
 induction d with
 | zero =>
  intro i n o hi ho h0 h1
  apply Ev.succ
  simp only [spec_l2Word.l0.eq_2]
  exact Ev.neg (by omega) (Ev.ret (by simp [word]))
 | succ d ih =>
  intro i n o hi ho h0 h1
  apply Ev.succ
  simp only [spec_l2Word.l0.eq_2]
  have ht : Int.tmod n 3 = if 0 ≤ n then n % 3 else -((-n) % 3) := by
   split
   ·exact Int.tmod_eq_emod_of_nonneg (by omega)
   ·have h : Int.tmod (-n) 3 = (-n) % 3 := Int.tmod_eq_emod_of_nonneg (by omega)
    rw [Int.neg_tmod] at h; omega
  generalize hr : Int.tmod n 3 = r at *
  have h2 : -2 ≤ r ∧ r ≤ 2 ∧ (r - n) % 3 = 0 := by split at ht <;> omega
  have next : ∀ s : Int, s = (n + 1) % 3 - 1 → Ev (fun m => spec_l2Word.l0 m (wrap64 (Int.tdiv (wrap64 (n - s)) 3)) k (o ++ [s]) (wrap64 ((i : Int) + 1))) (o ++ word (d + 1) n) := by
   intro s hs
   have e : Int.tdiv (n - s) 3 = (n + 1) / 3 := by
    rw [Int.tdiv_eq_ediv_of_dvd (Int.dvd_of_emod_eq_zero (by omega))]; omega
   rw [w64 (n := n - s) (by omega) (by omega), e, w64 (by omega) (by omega), w64 (by omega) (by omega)]
   refine evTo (ih (i + 1) ((n + 1) / 3) (o ++ [s]) (by omega) (by simp [ho]) (by omega) (by omega)) ?_
   rw [word, hs]; simp
  rw [w64 (n := r - 3) (by omega) (by omega), w64 (n := r + 3) (by omega) (by omega)]
  refine Ev.pos (by omega) (Ev.ite (fun c => Ev.neg (by omega) (Ev.pos (by omega) (next _ (by omega)))) (fun c => Ev.ite (fun c1 => Ev.pos (by omega) (next _ (by omega))) (fun c1 => Ev.pos (by omega) (next _ (by omega)))))
theorem spec_l2Word_ev (n : Int) (k : Nat) (hk : k ≤ 30) (h0 : -100000000000000000 ≤ n) (h1 : n ≤ 100000000000000000) : Ev (fun m => spec_l2Word.f m n k) (word k n) := by
 simp only [spec_l2Word.f]
 exact spec_l2Word_l k hk k 0 n [] (by omega) rfl h0 h1

theorem spec_WordOf_ev (n k : Int) : Ev (fun m => spec_WordOf.f m n k) (wordOf n k) := by
 simp only [spec_WordOf.f, spec_l1In_eq, Option.bind_some, decide_eq_true_eq]
 have h1 := lim_nonneg k
 have h2 := lim_le k
 refine Ev.ite (fun h => ?_) (fun h => Ev.ret (by unfold wordOf; rw [if_neg (by omega)]))
 refine Ev.bind (spec_LimitOf_ev k) (Ev.bind (spec_LimitOf_ev k) ?_)
 rw [w64 (by omega) (by omega)]
 refine Ev.ite (fun c => ?_) (fun c => Ev.ret ?_)
 ·have hw := spec_l2Word_ev n k.toNat (by omega) (by omega) (by omega)
  rw [show ((k.toNat : Nat) : Int) = k by omega] at hw
  refine Ev.bind hw (Ev.ret ?_)
  unfold wordOf; rw [if_pos ⟨h.1, h.2, decide_eq_true c⟩]
 ·unfold wordOf fitsB; rw [if_neg]; rintro ⟨_, _, h3⟩; exact c (of_decide_eq_true h3)

theorem spec_IsTrit_eq (a : Int) : spec_IsTrit.f a = some (isTrit a) := by
 unfold spec_IsTrit.f isTrit
 rw [spec_l1In_eq]; rfl

theorem spec_IsWord_l (x : List Int) (hn : x.length ≤ 35184372088832) : ∀ (d i : Nat), i + d = x.length → Ev (fun k => spec_IsWord.l0 k x x x.length i) (decide (1 ≤ x.length ∧ x.length ≤ 30) && (x.drop i).all isTrit) := by
 intro d
 induction d with
 | zero =>
  intro i hi
  apply Ev.succ
  simp only [spec_IsWord.l0.eq_2, spec_l1In_eq, Option.bind_some]
  refine Ev.neg (by omega) (Ev.ret ?_)
  rw [List.drop_eq_nil_of_le (by omega), List.all_nil, Bool.and_true]
  exact decide_eq_decide.2 (by omega)
 | succ d ih =>
  intro i hi
  apply Ev.succ
  simp only [spec_IsWord.l0.eq_2, spec_IsTrit_eq, Option.bind_some]
  refine Ev.pos (by omega) (Ev.pos (by omega) (Ev.pos (by omega) ?_))
  rw [rd_get x i (by omega), drop_cons x i (by omega), List.all_cons, w64 (by omega) (by omega)]
  refine Ev.ite (fun h => ?_) (fun h => Ev.ret ?_)
  ·exact evTo (ih (i + 1) (by omega)) (by rw [h, Bool.true_and])
  ·rw [Bool.not_eq_true] at h; rw [h, Bool.false_and, Bool.and_false]
theorem spec_IsWord_ev (x : List Int) (hn : x.length ≤ 35184372088832) : Ev (fun k => spec_IsWord.f k x) (isWord x) := by
 simp only [spec_IsWord.f]
 exact spec_IsWord_l x hn x.length 0 (by omega)

theorem spec_l2Value_l (x : List Int) (hn : x.length ≤ 30) (ht : ∀ a ∈ x, -1 ≤ a ∧ a ≤ 1) : ∀ i : Nat, i ≤ x.length → Ev (fun k => spec_l2Value.l0 k x (val (x.drop i)) ((i : Int) - 1)) (val x) := by
 intro i
 induction i with
 | zero =>
  intro _
  apply Ev.succ
  simp only [spec_l2Value.l0.eq_2]
  exact Ev.neg (by omega) (Ev.ret (by simp))
 | succ i ih =>
  intro hi
  apply Ev.succ
  simp only [spec_l2Value.l0.eq_2]
  refine Ev.pos (by omega) (Ev.pos (by omega) (Ev.pos (by omega) ?_))
  have hr := val_range (x.drop (i + 1)) (fun a ha => ht a (List.mem_of_mem_drop ha))
  have hl := L3_30 (i := (x.drop (i + 1)).length) (by simp; omega)
  have hx := ht x[i] (List.getElem_mem _)
  have e1 : ((i + 1 : Nat) : Int) - 1 = (i : Int) := by omega
  rw [e1, rd_get x i (by omega), w64 (n := 3 * val (x.drop (i + 1))) (by omega) (by omega), w64 (by omega) (by omega), w64 (n := (i : Int) - 1) (by omega) (by omega)]
  have e2 : 3 * val (x.drop (i + 1)) + x[i] = val (x.drop i) := by
   rw [drop_cons x i (by omega), val]; omega
  rw [e2]
  exact ih (by omega)
theorem spec_l2Value_ev (x : List Int) (hn : x.length ≤ 30) (ht : ∀ a ∈ x, -1 ≤ a ∧ a ≤ 1) : Ev (fun k => spec_l2Value.f k x) (val x) := by
 simp only [spec_l2Value.f]
 rw [w64 (by omega) (by omega)]
 have h := spec_l2Value_l x hn ht x.length (Nat.le_refl _)
 rw [List.drop_length] at h
 exact h

theorem spec_ValueOf_ev (x : List Int) (h : isWord x = true) : Ev (fun k => spec_ValueOf.f k x) (val x) := by
 have hw := (isWord_iff x).1 h
 simp only [spec_ValueOf.f]
 exact Ev.bind (spec_IsWord_ev x (by omega)) (Ev.pos h (Ev.bind (spec_l2Value_ev x hw.1.2 hw.2) (Ev.now _)))

theorem spec_l7Cell_eq (n : Int) : spec_l7Cell.f n = some (cellB n) := by
 unfold spec_l7Cell.f
 rw [spec_l1In_eq]; rfl

theorem rdO_get (xs : List S48) (i : Nat) (h : i < xs.length) : rd_T48 xs (i : Int) = xs[i] := by
 simp [rd_T48, List.getD_eq_getElem?_getD, List.getElem?_eq_getElem h]

theorem spec_IsCode_l (l : List S48) (n : Int) (hl : l.length ≤ 1048576) : ∀ (d i : Nat), i + d = l.length → Ev (fun k => spec_IsCode.l0 k n l (l.length : Int) i) ((l.drop i).all (opB n)) := by
 intro d
 induction d with
 | zero =>
  intro i hi
  apply Ev.succ
  simp only [spec_IsCode.l0.eq_2]
  refine Ev.neg (by omega) (Ev.ret ?_)
  rw [List.drop_of_length_le (by omega)]; rfl
 | succ d ihd =>
  intro i hi
  have hlt : i < l.length := by omega
  apply Ev.succ
  simp only [spec_IsCode.l0.eq_2]
  refine Ev.pos (by omega) (Ev.pos (by omega) (Ev.pos (by omega) ?_))
  rw [rdO_get l i hlt, drop_cons l i hlt, List.all_cons]
  have rec_ := ihd (i + 1) (by omega)
  generalize l[i] = x
  have go : ∀ b : Bool, (opB n x = true ↔ b = true) → Ev (fun k => if b = true then spec_IsCode.l0 k n l (l.length : Int) (wrap64 ((i : Int) + 1)) else some false) (opB n x && (l.drop (i + 1)).all (opB n)) := by
   intro b hb
   rw [w64 (by omega) (by omega)]
   refine Ev.ite (fun h => ?_) (fun h => Ev.ret ?_)
   ·rw [hb.2 h, Bool.true_and]; exact rec_
   ·have : opB n x = false := by rw [← Bool.not_eq_true]; exact fun h' => h (hb.1 h')
    rw [this, Bool.false_and]
  have bad : ¬ (opB n x = true) → Ev (fun k => (some false : Option Bool)) (opB n x && (l.drop (i + 1)).all (opB n)) := by
   intro h
   have : opB n x = false := by rw [← Bool.not_eq_true]; exact h
   rw [this, Bool.false_and]; exact Ev.now _
  have j1 : ∀ b6 : Bool, (b6 = true ↔ x.f2 = 0 ∧ x.f3 = 0) → Ev (fun k => spec_IsCode.j1 k n b6 l (l.length : Int) i x.f0 x.f1 x.f2 x.f3) (opB n x && (l.drop (i + 1)).all (opB n)) := by
   intro b6 h6
   apply Ev.succ
   simp only [spec_IsCode.j1.eq_2, spec_l7Cell_eq, spec_l1In_eq, Option.bind_some]
   refine Ev.ite (fun c1 => ?_) (fun c1 => Ev.ite (fun c2 => ?_) (fun c2 => Ev.ite (fun c3 => ?_) (fun c3 => Ev.ite (fun c4 => ?_) (fun c4 => ?_))))
   ·refine Ev.ite (fun h => go b6 ?_) (fun h => bad ?_)
    ·rw [h6]; simp only [cellB, decide_eq_true_eq] at h; simp [opB, c1, h]
    ·simp only [cellB, decide_eq_true_eq] at h; simp only [opB, c1, if_true, decide_eq_true_eq]; exact fun hh => h hh.1
   ·refine Ev.ite (fun h => go b6 ?_) (fun h => bad ?_)
    ·rw [h6]; simp only [decide_eq_true_eq] at h; simp [opB, c2, h]
    ·simp only [decide_eq_true_eq] at h; simp only [opB, if_neg c1, if_pos c2, decide_eq_true_eq]; exact fun hh => h hh.1
   ·refine Ev.ite (fun h => go b6 ?_) (fun h => bad ?_)
    ·rw [h6]; simp only [decide_eq_true_eq] at h; simp [opB, c3, h]
    ·simp only [decide_eq_true_eq] at h; simp only [opB, if_neg c1, if_neg c2, if_pos c3, decide_eq_true_eq]; exact fun hh => h hh.1
   ·refine Ev.ite (fun h => Ev.ite (fun h' => go _ ?_) (fun h' => bad ?_)) (fun h => bad ?_)
    ·simp only [decide_eq_true_eq] at h h' ⊢; simp only [opB, if_neg c1, if_neg c2, if_neg c3, if_pos c4, decide_eq_true_eq]; exact ⟨fun hh => hh.2.2, fun hh => ⟨h, h', hh⟩⟩
    ·simp only [decide_eq_true_eq] at h'; simp only [opB, if_neg c1, if_neg c2, if_neg c3, if_pos c4, decide_eq_true_eq]; exact fun hh => h' hh.2.1
    ·simp only [decide_eq_true_eq] at h; simp only [opB, if_neg c1, if_neg c2, if_neg c3, if_pos c4, decide_eq_true_eq]; exact fun hh => h hh.1
   ·refine Ev.ite (fun h => Ev.ite (fun h' => go b6 ?_) (fun h' => bad ?_)) (fun h => bad ?_)
    ·rw [h6]; simp only [decide_eq_true_eq] at h; simp only [opB, if_neg c1, if_neg c2, if_neg c3, if_neg c4, decide_eq_true_eq]; exact ⟨fun hh => hh.2.2, fun hh => ⟨h, h', hh⟩⟩
    ·simp only [opB, if_neg c1, if_neg c2, if_neg c3, if_neg c4, decide_eq_true_eq]; exact fun hh => h' hh.2.1
    ·simp only [decide_eq_true_eq] at h; simp only [opB, if_neg c1, if_neg c2, if_neg c3, if_neg c4, decide_eq_true_eq]; exact fun hh => h hh.1
  refine Ev.ite (fun h => j1 _ ?_) (fun h => j1 _ ?_)
  ·simp [h]
  ·simp [h]
theorem spec_IsCode_ev (l : List S48) (hl : l.length ≤ 1048576) : Ev (fun k => spec_IsCode.f k l) (codeB l) := by
 simp only [spec_IsCode.f, spec_l1In_eq, Option.bind_some, decide_eq_true_eq]
 unfold codeB
 refine Ev.ite (fun h => ?_) (fun h => Ev.ret ?_)
 ·rw [decide_eq_true (by omega), Bool.true_and]
  have := spec_IsCode_l l l.length hl l.length 0 (by omega)
  simpa using this
 ·rw [decide_eq_false (by omega), Bool.false_and]

theorem spec_l3Fit_ev (a b : List Int) (ha : a.length ≤ 1048576) (hb : b.length ≤ 1048576) : Ev (fun k => spec_l3Fit.f k a b) (isWord a && isWord b && decide (a.length = b.length)) := by
 simp only [spec_l3Fit.f]
 refine Ev.bind (spec_IsWord_ev a (by omega)) (Ev.ite (fun h => ?_) (fun h => Ev.ret ?_))
 ·rw [h, Bool.true_and]
  refine Ev.bind (spec_IsWord_ev b (by omega)) (Ev.ite (fun h => Ev.ret ?_) (fun h => Ev.ret ?_))
  ·rw [h, Bool.true_and, Bool.eq_iff_iff]; simp; omega
  ·rw [Bool.not_eq_true] at h; rw [h, Bool.false_and]
 ·rw [Bool.not_eq_true] at h; rw [h]; simp

theorem spec_l1Two_eq (a b : Int) : spec_l1Two.f a b = some (isTrit a && isTrit b) := by
 unfold spec_l1Two.f
 rw [spec_IsTrit_eq, Option.bind_some]
 by_cases h : isTrit a = true
 ·rw [if_pos h, spec_IsTrit_eq, Option.bind_some, h, Bool.true_and]
 ·rw [if_neg h]
  rw [Bool.not_eq_true] at h
  rw [h, Bool.false_and]

theorem spec_l1Parts_l1 (x c : Int) (hc : -100 ≤ c ∧ c ≤ 100) (h0 : -4 ≤ x) (h1 : x ≤ 1) : Ev (fun k => spec_l1Parts.l1 k x c) (if x < -1 then (x + 3, c - 1) else (x, c)) := by
 apply Ev.succ
 simp only [spec_l1Parts.l1.eq_2]
 refine Ev.ite (fun h => ?_) (fun h => Ev.ret (by rw [if_neg h]))
 rw [if_pos h, w64 (n := x + 3) (by omega) (by omega), w64 (n := c - 1) (by omega) (by omega)]
 apply Ev.succ
 simp only [spec_l1Parts.l1.eq_2]
 exact Ev.neg (by omega) (Ev.now _)
theorem spec_l1Parts_ev (n : Int) (h0 : -4 ≤ n) (h1 : n ≤ 4) : Ev (fun k => spec_l1Parts.f k n) ((n + 1) % 3 - 1, (n + 1) / 3) := by
 simp only [spec_l1Parts.f]
 apply Ev.succ
 simp only [spec_l1Parts.l0.eq_2]
 refine Ev.ite (fun h => ?_) (fun h => ?_)
 ·rw [w64 (n := n - 3) (by omega) (by omega), w64 (n := 0 + 1) (by omega) (by omega)]
  apply Ev.succ
  simp only [spec_l1Parts.l0.eq_2]
  refine Ev.neg (by omega) ?_
  refine evTo (spec_l1Parts_l1 (n - 3) (0 + 1) (by omega) (by omega) (by omega)) ?_
  rw [if_neg (by omega)]
  exact Prod.ext (by dsimp only; omega) (by dsimp only; omega)
 ·refine evTo (spec_l1Parts_l1 n 0 (by omega) (by omega) (by omega)) ?_
  split
  ·exact Prod.ext (by dsimp only; omega) (by dsimp only; omega)
  ·exact Prod.ext (by dsimp only; omega) (by dsimp only; omega)

theorem spec_FullAdd_ev (a b c : Int) (ha : -1 ≤ a ∧ a ≤ 1) (hb : -1 ≤ b ∧ b ≤ 1) (hc : -1 ≤ c ∧ c ≤ 1) : Ev (fun k => spec_FullAdd.f k a b c) ((a + b + c + 1) % 3 - 1, (a + b + c + 1) / 3) := by
 simp only [spec_FullAdd.f]
 refine Ev.bindc (spec_l1Two_eq a b) (Ev.pos (by simp [isTrit, ha, hb]) (Ev.bindc (spec_IsTrit_eq c) (Ev.pos (by simp [isTrit, hc]) ?_)))
 rw [w64 (n := a + b) (by omega) (by omega), w64 (n := a + b + c) (by omega) (by omega)]
 exact Ev.bind (spec_l1Parts_ev (a + b + c) (by omega) (by omega)) (Ev.now _)

/-- The sum of two words, trit by trit, with a carry in; the carry out. -/
def addW : List Int → List Int → Int → List Int × Int
 | a :: x, b :: y, c => (((a + b + c + 1) % 3 - 1) :: (addW x y ((a + b + c + 1) / 3)).1, (addW x y ((a + b + c + 1) / 3)).2)
 | _, _, c => ([], c)
/-- The carries into the places. -/
def addC : List Int → List Int → Int → List Int
 | a :: x, b :: y, c => c :: addC x y ((a + b + c + 1) / 3)
 | _, _, _ => []
theorem addC_length : ∀ (x y : List Int) (c : Int), (addC x y c).length ≤ x.length
 | [], _, _ => by simp [addC]
 | _ :: _, [], _ => by simp [addC]
 | a :: x, b :: y, c => by
  have := addC_length x y ((a + b + c + 1) / 3)
  simp [addC]; omega
theorem addW_length : ∀ (x y : List Int) (c : Int), x.length = y.length → (addW x y c).1.length = x.length
 | [], [], _, _ => rfl
 | a :: x, b :: y, c, h => by
  simp only [addW, List.length_cons] at h ⊢
  rw [addW_length x y _ (by omega)]
theorem addW_trits : ∀ (x y : List Int) (c : Int), ∀ t ∈ (addW x y c).1, -1 ≤ t ∧ t ≤ 1
 | [], _, _, t, h => by simp [addW] at h
 | _ :: _, [], _, t, h => by simp [addW] at h
 | a :: x, b :: y, c, t, h => by
  simp only [addW, List.mem_cons] at h
  rcases h with rfl | h
  ·omega
  ·exact addW_trits x y _ t h
theorem addW_val : ∀ (x y : List Int) (c : Int), x.length = y.length → val (addW x y c).1 + 3 ^ x.length * (addW x y c).2 = val x + val y + c
 | [], [], c, _ => by simp [addW, val]
 | a :: x, b :: y, c, h => by
  have ih := addW_val x y ((a + b + c + 1) / 3) (by simpa using h)
  simp only [addW, val, List.length_cons, pow3_succ, Int.mul_assoc]
  generalize (3 : Int) ^ x.length * (addW x y ((a + b + c + 1) / 3)).2 = p at *
  omega

theorem spec_l3Add_l (x y : List Int) (hl : x.length = y.length) (hn : x.length ≤ 30) (hx : ∀ a ∈ x, -1 ≤ a ∧ a ≤ 1) (hy : ∀ a ∈ y, -1 ≤ a ∧ a ≤ 1) : ∀ (d i : Nat) (c : Int) (o cs : List Int), i + d = x.length → o.length ≤ i → cs.length ≤ i → -1 ≤ c ∧ c ≤ 1 →
  Ev (fun k => spec_l3Add.l0 k y c o cs x (x.length : Int) i) (o ++ (addW (x.drop i) (y.drop i) c).1, cs ++ addC (x.drop i) (y.drop i) c, (addW (x.drop i) (y.drop i) c).2) := by
 intro d
 induction d with
 | zero =>
  intro i c o cs hi ho hcs hc
  apply Ev.succ
  simp only [spec_l3Add.l0.eq_2]
  refine Ev.neg (by omega) (Ev.ret ?_)
  rw [List.drop_eq_nil_of_le (by omega)]; simp [addW, addC]
 | succ d ih =>
  intro i c o cs hi ho hcs hc
  apply Ev.succ
  simp only [spec_l3Add.l0.eq_2]
  refine Ev.pos (by omega) (Ev.pos (by omega) (Ev.pos (by omega) (Ev.pos (by omega) (Ev.pos (by omega) ?_))))
  rw [rd_get x i (by omega), rd_get y i (by omega), drop_cons x i (by omega), drop_cons y i (by omega)]
  have ha := hx x[i] (List.getElem_mem _)
  have hb := hy y[i] (List.getElem_mem _)
  refine Ev.bind (spec_FullAdd_ev x[i] y[i] c ha hb hc) (Ev.pos (by omega) ?_)
  dsimp only
  rw [w64 (n := (i : Int) + 1) (by omega) (by omega)]
  refine evTo (ih (i + 1) ((x[i] + y[i] + c + 1) / 3) (o ++ [(x[i] + y[i] + c + 1) % 3 - 1]) (cs ++ [c]) (by omega) (by simp; omega) (by simp; omega) (by omega)) ?_
  simp [addW, addC]
theorem spec_l3Add_ev (x y : List Int) (c : Int) (hl : x.length = y.length) (hn : x.length ≤ 30) (hx : ∀ a ∈ x, -1 ≤ a ∧ a ≤ 1) (hy : ∀ a ∈ y, -1 ≤ a ∧ a ≤ 1) (hc : -1 ≤ c ∧ c ≤ 1) : Ev (fun k => spec_l3Add.f k x y c) ((addW x y c).1, addC x y c, (addW x y c).2) := by
 simp only [spec_l3Add.f]
 exact spec_l3Add_l x y hl hn hx hy x.length 0 c [] [] (by omega) (by simp) (by simp) hc

theorem spec_AddWords_ev (x y : List Int) (c : Int) (hl : x.length = y.length) (hx : isWord x = true) (hy : isWord y = true) (hc : -1 ≤ c ∧ c ≤ 1) : Ev (fun k => spec_AddWords.f k x y c) ((addW x y c).1, (addW x y c).2, true) := by
 simp only [spec_AddWords.f]
 have h1 := (isWord_iff x).1 hx
 have h2 := (isWord_iff y).1 hy
 have hf := spec_l3Fit_ev x y (by omega) (by omega)
 rw [hx, hy, decide_eq_true hl] at hf
 exact Ev.bind hf (Ev.pos rfl (Ev.bindc (spec_IsTrit_eq c) (Ev.pos (by simp [isTrit, hc]) (Ev.bind (spec_l3Add_ev x y c hl h1.1.2 h1.2 h2.2 hc) (Ev.now _)))))

end Go.Proofs.Ytlmiankjbffboaa.LemFnBranched
