/- Lemmas: what each function that this statement reaches computes. -/
import Derived.Test.YtffohdlbkigehaaHFnCoinsx6
import Derived.Test.YtffohdlbkigehaaBase
import Derived.Test.YtffohdlbkigehaaCoinM
import Derived.Test.YtffohdlbkigehaaTurnM
import Derived.Test.YtffohdlbkigehaaWordM
set_option linter.unusedVariables false
set_option linter.unusedSimpArgs false
namespace Go.Proofs.Ytffohdlbkigehaa.LemFnCoins
open Go.RowKit Go.Proofs.YtffohdlbkigehaaW.PrintWords Go.Proofs.YtffohdlbkigehaaW.PrintLast Go.Proofs.YtffohdlbkigehaaW.PrintMore Go.Proofs.Ytffohdlbkigehaa.HFnCoins Go.Proofs.Ytffohdlbkigehaa.Base

theorem slices_Grow_eq (n : Int) (h0 : 0 ≤ n) (h : n ≤ 17592186044415) : slices_Grow_int_int.f [] n = some [] := by
  unfold slices_Grow_int_int.f; rw [if_pos ⟨rfl, h0, h⟩]
def total : List (List Int) → Nat
  | [] => 0
  | a :: l => a.length + total l
theorem total_join (l : List (List Int)) : l.flatten.length = total l := by
  induction l with
  | nil => rfl
  | cons a l ih => rw [List.flatten_cons, List.length_append, ih]; rfl
theorem total_append (a b : List (List Int)) : total (a ++ b) = total a + total b := by
  induction a with
  | nil => simp [total]
  | cons x a ih => rw [List.cons_append, total, total, ih]; omega
theorem rdll_get (xs : List (List Int)) (i : Nat) (h : i < xs.length) : rd_L1 xs (i : Int) = xs[i] := by
  simp [rd_L1, List.getD_eq_getElem?_getD, List.getElem?_eq_getElem h]
theorem total_take_le (l : List (List Int)) (i : Nat) : total (l.take i) ≤ total l := by
  have : total l = total (l.take i) + total (l.drop i) := by rw [← total_append, List.take_append_drop]
  omega
theorem slices_Concat_l1 (l : List (List Int)) (hn : l.length ≤ 1000000000) (ht : total l ≤ 1000000000000) : ∀ (d i : Nat), i + d = l.length → Ev (fun k => slices_Concat_int_int.l1 k (l.take i).flatten l l.length i) l.flatten := by
  intro d
  induction d with
  | zero =>
    intro i hi
    apply Ev.succ
    simp only [slices_Concat_int_int.l1.eq_2]
    exact Ev.neg (by omega) (Ev.ret (by rw [List.take_of_length_le (by omega)]))
  | succ d ih =>
    intro i hi
    apply Ev.succ
    simp only [slices_Concat_int_int.l1.eq_2]
    have h1 := ih (i + 1) (by omega)
    have h2 := total_take_le l (i + 1)
    rw [take_snoc l i (by omega)] at h1 h2
    rw [List.flatten_append, List.flatten_cons, List.flatten_nil, List.append_nil] at h1
    rw [total_append] at h2
    simp only [total] at h2
    rw [rdll_get l i (by omega), w64 (by omega) (by omega)]
    refine Ev.pos (by omega) (Ev.pos (by omega) (Ev.pos (by omega) (Ev.pos ?_ h1)))
    rw [total_join]; omega
theorem slices_Concat_l0 (l : List (List Int)) (hn : l.length ≤ 1000000000) (ht : total l ≤ 1000000000000) : ∀ (d i : Nat), i + d = l.length → Ev (fun k => slices_Concat_int_int.l0 k l (total (l.take i) : Nat) l l.length i) l.flatten := by
  intro d
  induction d with
  | zero =>
    intro i hi
    apply Ev.succ
    simp only [slices_Concat_int_int.l0.eq_2]
    have h2 := total_take_le l i
    refine Ev.neg (by omega) (Ev.bindc (slices_Grow_eq _ (by omega) (by omega)) ?_)
    exact slices_Concat_l1 l hn ht l.length 0 (by omega)
  | succ d ih =>
    intro i hi
    apply Ev.succ
    simp only [slices_Concat_int_int.l0.eq_2]
    have h1 := ih (i + 1) (by omega)
    have h2 := total_take_le l (i + 1)
    rw [take_snoc l i (by omega), total_append] at h1 h2
    simp only [total] at h1 h2
    rw [rdll_get l i (by omega), w64 (n := (i : Int) + 1) (by omega) (by omega), w64 (by omega) (by omega)]
    refine Ev.pos (by omega) (Ev.pos (by omega) (Ev.pos (by omega) (Ev.neg (by omega) ?_)))
    have e : ((total (l.take i) + (l[i].length + 0) : Nat) : Int) = (total (l.take i) : Int) + (l[i].length : Int) := by omega
    rw [e] at h1
    exact h1
theorem slices_Concat_ev (l : List (List Int)) (hn : l.length ≤ 1000000000) (ht : total l ≤ 1000000000000) : Ev (fun k => slices_Concat_int_int.f k l) l.flatten := by
  simp only [slices_Concat_int_int.f]
  exact slices_Concat_l0 l hn ht l.length 0 (by omega)

theorem impl_SignOf_eq (n : Int) : impl_SignOf.f n = some (sgn n) := by
  unfold impl_SignOf.f sgn
  by_cases h : n < 0
  · rw [if_pos h, if_pos h]
  · rw [if_neg h, if_neg h]
    by_cases h1 : n > 0
    · rw [if_pos h1, if_pos h1]
    · rw [if_neg h1, if_neg h1]

def badI (n : Nat) (c : Int) : Bool := decide (c < 0) || decide ((n : Int) ≤ c)
def badW (a : Int) : Bool := decide (a < 0) || decide (1000000 < a)
/-- What WeighCoins gives. -/
def weigh (w l r : List Int) : Int × Bool := if (l ++ r).any (badI w.length) = true ∨ w.any badW = true then (0, false) else (sgn (impl_WeighCoins.s2 w r (impl_WeighCoins.s1 w l 0)), true)

theorem anyO_const {α : Type} (p : α → Bool) : ∀ l : List α, Go.Proofs.Ytffohdlbkigehaa.Any.anyO (fun x => some (p x)) l = some (l.any p)
  | [] => rfl
  | x :: xs => by rw [Go.Proofs.Ytffohdlbkigehaa.Any.anyO, anyO_const p xs]; rfl
theorem impl_WeighCoins_ev (w l r : List Int) (hl : l.length ≤ 1048576) (hr : r.length ≤ 1048576) : Ev (fun k => impl_WeighCoins.f k w l r) (weigh w l r) := by
  simp only [impl_WeighCoins.f]
  unfold weigh
  have e1 : impl_WeighCoins.b1 w = some (w.any badW) := anyO_const badW w
  have e2 : impl_WeighCoins.b2 w.length (l ++ r) = some ((l ++ r).any (badI w.length)) := anyO_const (badI w.length) (l ++ r)
  have ec : Ev (fun k => slices_Concat_int_int.f k [l, r]) (l ++ r) := evTo (slices_Concat_ev [l, r] (by simp) (by simp [total]; omega)) (by simp)
  refine Ev.bindc e1 (Ev.ite (fun h => Ev.ret (by rw [if_pos (.inr h)])) (fun h => ?_))
  refine Ev.bind ec (Ev.pos rfl (Ev.bindc e2 (Ev.ite (fun h' => Ev.ret (by rw [if_pos (.inl h')])) (fun h' => ?_))))
  rw [if_neg (fun c => c.elim h' h)]
  exact Ev.bindc (impl_SignOf_eq _) (Ev.now _)

theorem impl_IsTrit_eq (a : Int) : impl_IsTrit.f a = some (isTrit a) := by
  unfold impl_IsTrit.f isTrit
  by_cases h : -1 ≤ a
  · rw [if_pos (by omega)]; simp [h]
  · rw [if_neg (by omega)]; simp [h]

theorem impl_trits_l (x : List Int) (hn : x.length ≤ 35184372088832) : ∀ (d i : Nat), i + d = x.length → Ev (fun k => impl_trits.l0 k x x.length i) ((x.drop i).all isTrit) := by
  intro d
  induction d with
  | zero =>
    intro i hi
    apply Ev.succ
    simp only [impl_trits.l0.eq_2]
    refine Ev.neg (by omega) (Ev.ret ?_)
    rw [List.drop_eq_nil_of_le (by omega)]; rfl
  | succ d ih =>
    intro i hi
    apply Ev.succ
    simp only [impl_trits.l0.eq_2, impl_IsTrit_eq, Option.bind_some]
    refine Ev.pos (by omega) (Ev.pos (by omega) (Ev.pos (by omega) ?_))
    rw [rd_get x i (by omega), drop_cons x i (by omega), List.all_cons, w64 (by omega) (by omega)]
    refine Ev.ite (fun h => ?_) (fun h => Ev.ret ?_)
    · exact evTo (ih (i + 1) (by omega)) (by rw [h, Bool.true_and])
    · rw [Bool.not_eq_true] at h; rw [h, Bool.false_and]
theorem impl_trits_ev (x : List Int) (hn : x.length ≤ 35184372088832) : Ev (fun k => impl_trits.f k x) (x.all isTrit) := by
  simp only [impl_trits.f]
  exact impl_trits_l x hn x.length 0 (by omega)

theorem impl_IsWord_ev (x : List Int) : Ev (fun k => impl_IsWord.f k x) (isWord x) := by
  simp only [impl_IsWord.f, isWord]
  refine Ev.ite (fun h => Ev.ite (fun h1 => ?_) (fun h1 => Ev.ret ?_)) (fun h => Ev.ret ?_)
  · refine Ev.bind (impl_trits_ev x (by omega)) (Ev.ret ?_)
    rw [decide_eq_true (by omega), Bool.true_and]
  · rw [decide_eq_false (by omega), Bool.false_and]
  · rw [decide_eq_false (by omega), Bool.false_and]

theorem anyO_ev {α : Type} {g : Nat → α → Option Bool} {p : α → Bool} : ∀ (l : List α), (∀ x ∈ l, Ev (fun k => g k x) (p x)) → Ev (fun k => Go.Proofs.Ytffohdlbkigehaa.Any.anyO (g k) l) (l.any p)
  | [], _ => Ev.now _
  | x :: xs, h => by
    simp only [Go.Proofs.Ytffohdlbkigehaa.Any.anyO]
    exact Ev.bind (h x List.mem_cons_self) (Ev.bind (anyO_ev xs (fun y hy => h y (List.mem_cons_of_mem _ hy))) (Ev.ret (by rw [List.any_cons])))
theorem not_any_not {α : Type} (p : α → Bool) (l : List α) : (!l.any fun x => !p x) = l.all p := by
  induction l with
  | nil => rfl
  | cons x xs ih => rw [List.any_cons, List.all_cons, ← ih]; simp

/-- Words of the same number of trits, one at least. -/
def wordsB (l : List (List Int)) : Bool := decide (0 < l.length) && l.all fun x => isWord x && decide (x.length = (l.getD 0 []).length)

theorem impl_sameLength_ev (l : List (List Int)) : Ev (fun k => impl_sameLength.f k l) (wordsB l) := by
  simp only [impl_sameLength.f]
  unfold wordsB
  refine Ev.ite (fun h => ?_) (fun h => Ev.ret ?_)
  · rw [decide_eq_true (by omega : 0 < l.length), Bool.true_and]
    refine Ev.bind (anyO_ev (p := fun x => !(isWord x && decide (x.length = (l.getD 0 []).length))) l (fun x _ => Ev.bind (impl_IsWord_ev x) (Ev.ret ?_))) (Ev.ret (not_any_not _ _))
    cases isWord x <;> simp
  · rw [decide_eq_false (by omega), Bool.false_and]

theorem rdL_get (xs : List (List Int)) (i : Nat) (h : i < xs.length) : rd_L1 xs (i : Int) = xs[i] := by
  simp [rd_L1, List.getD_eq_getElem?_getD, List.getElem?_eq_getElem h]
/-- All numbers of all rows. -/
def tot : List (List Int) → Nat
  | [] => 0
  | x :: xs => x.length + tot xs
theorem tot_drop (xs : List (List Int)) (i : Nat) (h : i < xs.length) : tot (xs.drop i) = xs[i].length + tot (xs.drop (i + 1)) := by
  rw [drop_cons xs i h, tot]
theorem tot_mem {l : List (List Int)} {x : List Int} (h : x ∈ l) : x.length ≤ tot l := by
  induction l with
  | nil => simp at h
  | cons y ys ih =>
    rw [tot]
    rcases List.mem_cons.1 h with rfl | h
    · omega
    · have := ih h; omega

/-- What OutcomeOf gives. -/
def outB (l : List (List Int)) (c e : Int) : List Int × Bool :=
  if wordsB l = true ∧ isTrit e = true ∧ (e = 0 ∨ 0 ≤ c ∧ c < l.length) then (if e = 0 then (List.replicate (l.getD 0 []).length 0, true) else ((l.getD c.toNat []).map fun a => a * e, true)) else ([], false)
theorem wordsB_iff (l : List (List Int)) : wordsB l = true ↔ 0 < l.length ∧ ∀ x ∈ l, isWord x = true ∧ x.length = (l.getD 0 []).length := by
  simp [wordsB]

theorem impl_OutcomeOf_l (l : List (List Int)) (c e : Int) (he : -1 ≤ e ∧ e ≤ 1) (he0 : e ≠ 0) (j : Nat) (hj : j < l.length) (hc : c = j) (hw : l[j].length ≤ 30) (ht : ∀ a ∈ l[j], -1 ≤ a ∧ a ≤ 1) : ∀ (d i : Nat) (acc : List Int), i + d = l[j].length → acc.length = l[j].length → acc.take i = (l[j].map fun a => a * e).take i → Ev (fun k => impl_OutcomeOf.l0 k l c e acc (l[j].length : Int) i) (l[j].map fun a => a * e, true) := by
  intro d
  subst hc
  induction d with
  | zero =>
    intro i acc hi ha hk
    apply Ev.succ
    simp only [impl_OutcomeOf.l0.eq_2]
    refine Ev.neg (by omega) (Ev.ret ?_)
    rw [List.take_of_length_le (by omega), List.take_of_length_le (by simp; omega)] at hk
    rw [hk]
  | succ d ihd =>
    intro i acc hi ha hk
    have hlt : i < l[j].length := by omega
    apply Ev.succ
    simp only [impl_OutcomeOf.l0.eq_2, rdL_get l j hj]
    refine Ev.pos (by omega) (Ev.neg he0 (Ev.pos (by omega) (Ev.pos (by omega) (Ev.pos (by omega) (Ev.pos (by omega) (Ev.pos (by omega) ?_))))))
    have h1 := ht _ (List.getElem_mem hlt)
    have h2 : -1 ≤ l[j][i] * e ∧ l[j][i] * e ≤ 1 := by
      have c1 : l[j][i] = -1 ∨ l[j][i] = 0 ∨ l[j][i] = 1 := by omega
      rcases c1 with h | h | h <;> rw [h] <;> omega
    rw [w64 (n := (i : Int) + 1) (by omega) (by omega), rd_get l[j] i hlt, Int.mul_comm e, w64 (by omega) (by omega)]
    refine ihd (i + 1) _ (by omega) (by simp [ha]) ?_
    rw [take_snoc _ i (by simp; omega), take_snoc _ i (by simp; omega)]
    simp [List.take_set_of_le, hk]
theorem impl_OutcomeOf_z (l : List (List Int)) (c : Int) (acc : List Int) (n : Nat) (hn : n ≤ 1048576) : ∀ (d i : Nat), i + d = n → Ev (fun k => impl_OutcomeOf.l0 k l c 0 acc (n : Int) i) (acc, true) := by
  intro d
  induction d with
  | zero =>
    intro i hi
    apply Ev.succ
    simp only [impl_OutcomeOf.l0.eq_2]
    exact Ev.neg (by omega) (Ev.now _)
  | succ d ihd =>
    intro i hi
    apply Ev.succ
    simp only [impl_OutcomeOf.l0.eq_2]
    refine Ev.pos (by omega) (Ev.pos trivial ?_)
    rw [w64 (by omega) (by omega)]
    exact ihd (i + 1) (by omega)
theorem impl_OutcomeOf_ev (l : List (List Int)) (hl : l.length ≤ 1048576) (hw : ∀ y ∈ l, y.length ≤ 1048576) (c e : Int) : Ev (fun k => impl_OutcomeOf.f k l c e) (outB l c e) := by
  simp only [impl_OutcomeOf.f]
  have bad : (¬ (wordsB l = true ∧ isTrit e = true ∧ (e = 0 ∨ 0 ≤ c ∧ c < l.length))) → Ev (fun k => impl_OutcomeOf.j0 k l c e true) (outB l c e) := by
    intro h
    apply Ev.succ
    simp only [impl_OutcomeOf.j0.eq_2]
    refine Ev.pos trivial (Ev.ret ?_)
    unfold outB
    rw [if_neg h]
  refine Ev.bind (impl_sameLength_ev l) (Ev.ite (fun h => Ev.bindc (impl_IsTrit_eq e) (Ev.ite (fun ht => ?_) (fun ht => bad (fun hh => ht hh.2.1)))) (fun h => bad (fun hh => h hh.1)))
  have hwd := (wordsB_iff l).1 h
  have e0 : l.getD 0 [] = l[0]'hwd.1 := by simp [List.getD_eq_getElem?_getD, List.getElem?_eq_getElem hwd.1]
  have e1 : rd_L1 l 0 = l.getD 0 [] := by rw [e0]; exact rdL_get l 0 hwd.1
  have hL : (l.getD 0 []).length ≤ 1048576 := by rw [e0]; exact hw _ (List.getElem_mem _)
  have he := (isTrit_iff e).1 ht
  have good : (e = 0 ∨ 0 ≤ c ∧ c < l.length) → Ev (fun k => impl_OutcomeOf.j0 k l c e false) (outB l c e) := by
    intro hg
    apply Ev.succ
    simp only [impl_OutcomeOf.j0.eq_2, e1]
    refine Ev.neg (by simp) (Ev.pos (by omega) (Ev.pos (by omega) (Ev.pos (by omega) (Ev.bindc rfl ?_))))
    have en : ((List.replicate (((l.getD 0 []).length : Int)).toNat (0 : Int)).length : Int) = ((l.getD 0 []).length : Nat) := by simp
    rw [en]
    unfold outB
    rw [if_pos ⟨h, ht, hg⟩]
    by_cases h0 : e = 0
    · rw [if_pos h0]
      subst h0
      refine evTo (impl_OutcomeOf_z l c _ _ hL _ 0 (Nat.zero_add _)) ?_
      simp
    · rw [if_neg h0]
      obtain ⟨i, rfl⟩ : ∃ i : Nat, c = i := ⟨c.toNat, by omega⟩
      have hi : i < l.length := by omega
      have ei : l.getD i [] = l[i] := by simp [List.getD_eq_getElem?_getD, List.getElem?_eq_getElem hi]
      have hx := (isWord_iff _).1 (hwd.2 _ (List.getElem_mem hi)).1
      have hlen := (hwd.2 _ (List.getElem_mem hi)).2
      rw [show ((i : Int)).toNat = i by omega, ei, ← hlen]
      exact impl_OutcomeOf_l l i e he h0 i hi rfl hx.1.2 hx.2 l[i].length 0 _ (by omega) (by simp) (by simp)
  refine Ev.ite (fun h0 => good (.inl h0)) (fun h0 => Ev.ite (fun h1 => bad (by omega)) (fun h1 => ?_))
  by_cases h2 : c < l.length
  · rw [decide_eq_false (by omega)]; exact good (.inr ⟨by omega, h2⟩)
  · rw [decide_eq_true (by omega)]; exact bad (by omega)

def atv (l : List Int) (i : Nat) : Int := if i < l.length then rd l i else ((i : Int) * 37 + l.length * 11) % 256
theorem atv_range (l : List Int) (i : Nat) (h : ∀ x ∈ l, (Lit.int .u8 x).wf = true) : 0 ≤ atv l i ∧ atv l i < 256 := by
  unfold atv
  by_cases hi : i < l.length
  · rw [if_pos hi]
    exact wf8 (h _ (rd_mem (by omega) (by omega)))
  · rw [if_neg hi]; omega
theorem laws_at_eq (l : List Int) (i : Nat) (hn : l.length ≤ 1048576) (hi : i ≤ 100) (h : ∀ x ∈ l, (Lit.int .u8 x).wf = true) : laws_at.f l (i : Int) = some (atv l i) := by
  unfold laws_at.f atv
  by_cases hi : i < l.length
  · rw [if_pos (by omega), if_pos (by omega), if_pos hi]
    have := wf8 (h _ (rd_mem (xs := l) (i := i) (by omega) (by omega)))
    rw [w64 (by omega) (by omega)]
  · rw [if_neg (by omega), if_neg hi]
    rw [w64 (n := (i : Int) * 37) (by omega) (by omega), w64 (n := (l.length : Int) * 11) (by omega) (by omega), w64 (by omega) (by omega), Int.tmod_eq_emod_of_nonneg (by omega)]

theorem slices_Equal_int_int_l (x0 x1 : List Int) (hl : x0.length = x1.length) (hn : x0.length ≤ 35184372088832) : ∀ (d i : Nat), i + d = x0.length → Ev (fun k => slices_Equal_int_int.l0 k x0 x1 x0.length i) (decide (x0.drop i = x1.drop i)) := by
  intro d
  induction d with
  | zero =>
    intro i hi
    apply Ev.succ
    simp only [slices_Equal_int_int.l0.eq_2]
    refine Ev.neg (by omega) (Ev.ret ?_)
    rw [List.drop_eq_nil_of_le (by omega), List.drop_eq_nil_of_le (by omega)]; simp
  | succ d ih =>
    intro i hi
    apply Ev.succ
    simp only [slices_Equal_int_int.l0.eq_2]
    refine Ev.pos (by omega) (Ev.pos (by omega) (Ev.pos (by omega) (Ev.pos (by omega) ?_)))
    rw [rd_get x0 i (by omega), rd_get x1 i (by omega), drop_cons x0 i (by omega), drop_cons x1 i (by omega)]
    refine Ev.ite (fun h => ?_) (fun h => ?_)
    · rw [w64 (by omega) (by omega)]
      exact evTo (ih (i + 1) (by omega)) (by simp only [List.cons.injEq, h, true_and])
    · exact Ev.ret (by simp only [List.cons.injEq, h, false_and, decide_false])
theorem slices_Equal_int_int_ev (x0 x1 : List Int) (hn : x0.length ≤ 35184372088832) : Ev (fun k => slices_Equal_int_int.f k x0 x1) (decide (x0 = x1)) := by
  simp only [slices_Equal_int_int.f]
  refine Ev.ite (fun h => ?_) (fun h => Ev.ret ?_)
  · exact evTo (slices_Equal_int_int_l x0 x1 (by omega) hn x0.length 0 (by omega)) (by simp)
  · symm; rw [decide_eq_false_iff_not]; intro e; rw [e] at h; exact h rfl

/-- The first coin, from i on, that explains the outcomes. -/
def guessB (l : List (List Int)) (o : List Int) : Nat → Nat → Int × Int × Bool
  | _, 0 => (0, 0, false)
  | i, d + 1 => if (outB l i 1).1 = o then ((i : Int), 1, true) else if (outB l i (-1)).1 = o then ((i : Int), -1, true) else guessB l o (i + 1) d
theorem outB_len (l : List (List Int)) (h : wordsB l = true) (c e : Int) : (outB l c e).1.length = 0 ∨ (outB l c e).1.length = (l.getD 0 []).length := by
  unfold outB
  split
  · rename_i hh
    split
    · right; simp
    · right
      have hc : c.toNat < l.length := by omega
      have ei : l.getD c.toNat [] = l[c.toNat] := by simp [List.getD_eq_getElem?_getD, List.getElem?_eq_getElem hc]
      rw [List.length_map, ei]
      exact (((wordsB_iff l).1 h).2 _ (List.getElem_mem hc)).2
  · left; rfl
theorem outB_in (l : List (List Int)) (h : wordsB l = true) (c : Nat) (hc : c < l.length) (e : Int) (he : e = 1 ∨ e = -1) : (outB l c e).1.length = (l.getD 0 []).length := by
  unfold outB
  rw [if_pos ⟨h, by rcases he with rfl | rfl <;> rfl, .inr ⟨by omega, by omega⟩⟩, if_neg (by rcases he with rfl | rfl <;> decide)]
  have ei : l.getD c [] = l[c] := by simp [List.getD_eq_getElem?_getD, List.getElem?_eq_getElem hc]
  rw [Int.toNat_natCast, List.length_map, ei]
  exact (((wordsB_iff l).1 h).2 _ (List.getElem_mem hc)).2
theorem guessB_none (l : List (List Int)) (h : wordsB l = true) (o : List Int) (ho : o.length ≠ (l.getD 0 []).length) : ∀ (d i : Nat), i + d = l.length → guessB l o i d = (0, 0, false) := by
  intro d
  induction d with
  | zero => intro i _; rfl
  | succ d ih =>
    intro i hi
    have h1 := outB_in l h i (by omega) 1 (.inl rfl)
    have h2 := outB_in l h i (by omega) (-1) (.inr rfl)
    rw [guessB, if_neg (fun e => ho (by rw [← e, h1])), if_neg (fun e => ho (by rw [← e, h2])), ih (i + 1) (by omega)]
theorem outB_small (l : List (List Int)) (hw : ∀ y ∈ l, y.length ≤ 1048576) (c e : Int) : (outB l c e).1.length ≤ 1048576 := by
  by_cases h : wordsB l = true
  · have hl : (l.getD 0 []).length ≤ 1048576 := by
      have h0 := ((wordsB_iff l).1 h).1
      have e0 : l.getD 0 [] = l[0] := by simp [List.getD_eq_getElem?_getD, List.getElem?_eq_getElem h0]
      rw [e0]; exact hw _ (List.getElem_mem _)
    rcases outB_len l h c e with h1 | h1 <;> omega
  · unfold outB
    rw [if_neg (fun hh => h hh.1)]; simp
/-- What GuessOf gives. -/
def guess (l : List (List Int)) (o : List Int) : Int × Int × Bool :=
  if wordsB l = true then (if List.replicate (l.getD 0 []).length 0 = o then (-1, 0, true) else guessB l o 0 l.length) else (0, 0, false)

theorem impl_GuessOf_l1 (l : List (List Int)) (hl : l.length ≤ 1048576) (hw : ∀ y ∈ l, y.length ≤ 1048576) (o : List Int) (i : Nat) (hi : i ≤ 1048576) (z : Int × Int × Bool) (hz : Ev (fun k => impl_GuessOf.l0 k l o (l.length : Int) (wrap64 ((i : Int) + 1))) z) :
    Ev (fun k => impl_GuessOf.l1 k l o i (l.length : Int) i [1, -1] (([1, -1] : List Int).length : Int) 0) (if (outB l i 1).1 = o then ((i : Int), 1, true) else if (outB l i (-1)).1 = o then ((i : Int), -1, true) else z) := by
  have hs : ∀ e, (outB l i e).1.length ≤ 35184372088832 := fun e => by have := outB_small l hw i e; omega
  have r0 : rd [1, -1] 0 = 1 := rfl
  have r1 : rd [1, -1] (0 + 1) = -1 := rfl
  apply Ev.succ
  simp only [impl_GuessOf.l1.eq_2]
  refine Ev.pos (by simp) (Ev.pos (by omega) (Ev.pos (by simp) ?_))
  rw [r0]
  refine Ev.bind (impl_OutcomeOf_ev l hl hw i 1) (Ev.bind (slices_Equal_int_int_ev _ o (hs 1)) (Ev.ite (fun h => ?_) (fun h => ?_)))
  · rw [if_pos (of_decide_eq_true h)]; exact Ev.now _
  · rw [if_neg (fun e => h (decide_eq_true e)), w64 (by omega) (by omega)]
    apply Ev.succ
    simp only [impl_GuessOf.l1.eq_2]
    refine Ev.pos (by simp) (Ev.pos (by omega) (Ev.pos (by simp) ?_))
    rw [r1]
    refine Ev.bind (impl_OutcomeOf_ev l hl hw i (-1)) (Ev.bind (slices_Equal_int_int_ev _ o (hs (-1))) (Ev.ite (fun h => ?_) (fun h => ?_)))
    · rw [if_pos (of_decide_eq_true h)]; exact Ev.now _
    · rw [if_neg (fun e => h (decide_eq_true e)), w64 (by omega) (by omega)]
      apply Ev.succ
      simp only [impl_GuessOf.l1.eq_2]
      exact Ev.neg (by simp) hz
theorem impl_GuessOf_l0 (l : List (List Int)) (hl : l.length ≤ 1048576) (hw : ∀ y ∈ l, y.length ≤ 1048576) (o : List Int) : ∀ (d i : Nat), i + d = l.length → Ev (fun k => impl_GuessOf.l0 k l o (l.length : Int) i) (guessB l o i d) := by
  intro d
  induction d with
  | zero =>
    intro i hi
    apply Ev.succ
    simp only [impl_GuessOf.l0.eq_2]
    exact Ev.neg (by omega) (Ev.now _)
  | succ d ihd =>
    intro i hi
    apply Ev.succ
    simp only [impl_GuessOf.l0.eq_2]
    refine Ev.pos (by omega) (Ev.bindc rfl ?_)
    rw [guessB]
    refine impl_GuessOf_l1 l hl hw o i (by omega) _ ?_
    rw [w64 (by omega) (by omega)]
    exact ihd (i + 1) (by omega)
theorem any_ne_zero : ∀ (o : List Int), (o.any fun x => decide (x ≠ 0)) = false ↔ List.replicate o.length 0 = o
  | [] => by simp
  | x :: xs => by
    rw [List.any_cons, Bool.or_eq_false_iff, any_ne_zero xs, List.length_cons, List.replicate_succ, List.cons.injEq]
    simp; intro _; exact eq_comm
theorem impl_GuessOf_ev (l : List (List Int)) (hl : l.length ≤ 1048576) (hw : ∀ y ∈ l, y.length ≤ 1048576) (o : List Int) : Ev (fun k => impl_GuessOf.f k l o) (guess l o) := by
  simp only [impl_GuessOf.f]
  unfold guess
  have bad : Ev (fun k => impl_GuessOf.j0 k l o true) (0, 0, false) := by
    apply Ev.succ
    simp only [impl_GuessOf.j0.eq_2]
    exact Ev.pos trivial (Ev.now _)
  refine Ev.bind (impl_sameLength_ev l) (Ev.ite (fun h => ?_) (fun h => by rw [if_neg h]; exact bad))
  rw [if_pos h]
  have h0 := ((wordsB_iff l).1 h).1
  have e0 : l.getD 0 [] = l[0] := by simp [List.getD_eq_getElem?_getD, List.getElem?_eq_getElem h0]
  have e1 : rd_L1 l 0 = l.getD 0 [] := by rw [e0]; exact rdL_get l 0 h0
  refine Ev.pos (by omega) ?_
  rw [e1]
  by_cases ho : o.length = (l.getD 0 []).length
  · rw [show ((o.length : Int) != ((l.getD 0 []).length : Int)) = false by simp [ho]]
    apply Ev.succ
    simp only [impl_GuessOf.j0.eq_2]
    refine Ev.neg (by simp) ?_
    have ha : Ev (fun _ => slices_ContainsFunc_int_int__impl_GuessOf_1.f o) (o.any fun x => decide (x ≠ 0)) := anyO_ev (g := fun _ x => some (decide (x ≠ 0))) o (fun x _ => Ev.now _)
    refine Ev.bind ha (Ev.ite (fun h' => ?_) (fun h' => ?_))
    · rw [if_neg (fun e => by rw [← ho] at e; rw [(any_ne_zero o).2 e] at h'; simp at h')]
      exact impl_GuessOf_l0 l hl hw o l.length 0 (by omega)
    · rw [if_pos (by rw [← ho]; exact (any_ne_zero o).1 (by rw [← Bool.not_eq_true]; exact h'))]
      exact Ev.now _
  · rw [show ((o.length : Int) != ((l.getD 0 []).length : Int)) = true from bne_iff_ne.mpr (by omega), if_neg (fun e => ho (by rw [← e]; simp)), guessB_none l h o ho l.length 0 (by omega)]
    exact bad

/-- What WeighingsOf gives. -/
def weighsB (l : List (List Int)) : List S29 × Bool := if wordsB l = true then (impl_WeighingsOf.pairs (impl_WeighingsOf.all l 0 (List.replicate (2 * (l.getD 0 []).length) [])) (l.getD 0 []).length, true) else ([], false)
theorem impl_WeighingsOf_ev (l : List (List Int)) (hl : l.length ≤ 1000000) : Ev (fun k => impl_WeighingsOf.f k l) (weighsB l) := by
  simp only [impl_WeighingsOf.f]
  unfold weighsB
  refine Ev.bind (impl_sameLength_ev l) (Ev.ite (fun h => ?_) (fun h => Ev.ret (by rw [if_neg h])))
  rw [if_pos h]
  have hw := (wordsB_iff l).1 h
  have e0 : l.getD 0 [] = l[0]'hw.1 := by simp [List.getD_eq_getElem?_getD, List.getElem?_eq_getElem hw.1]
  have h0 := (isWord_iff _).1 (hw.2 _ (List.getElem_mem hw.1)).1
  exact Ev.pos ⟨hw.1, hl, by rw [e0]; omega, fun w hm => (hw.2 w hm).2⟩ (Ev.now _)

theorem spec_l5Lift_l : ∀ (d i : Nat), i + d ≤ 30 → Ev (fun k => spec_l5Lift.l0 k ((3 : Int) ^ i) d) ((3 : Int) ^ (i + d)) := by
  intro d
  induction d with
  | zero =>
    intro i hi
    apply Ev.succ
    simp only [spec_l5Lift.l0.eq_2]
    exact Ev.neg (by omega) (Ev.ret rfl)
  | succ d ih =>
    intro i hi
    apply Ev.succ
    simp only [spec_l5Lift.l0.eq_2]
    have h1 := pow3_30 (i := i + 1) (by omega)
    have h2 := pow3_pos i
    rw [pow3_succ] at h1
    refine Ev.pos (by omega) ?_
    rw [w64 (by omega) (by omega), w64 (by omega) (by omega), ← pow3_succ, show ((d + 1 : Nat) : Int) - 1 = (d : Int) by omega, show i + (d + 1) = i + 1 + d by omega]
    exact ih (i + 1) (by omega)

theorem spec_MakePower_ev (n : Int) : Ev (fun k => spec_MakePower.f k n) ((3 : Int) ^ (max 0 (min n 30)).toNat) := by
  have e : mx 0 (mn n 30) = (((max 0 (min n 30)).toNat : Nat) : Int) := by unfold mx mn; split <;> split <;> omega
  simp only [spec_MakePower.f, e]
  have h := spec_l5Lift_l (max 0 (min n 30)).toNat 0 (by omega)
  rw [Nat.zero_add] at h
  refine Ev.bind h (Ev.now _)

theorem impl_carried_eq (n : Int) (h : -4 ≤ n ∧ n ≤ 4) : impl_carried.f n = some (if n > 1 then n - 3 else if n < -1 then n + 3 else n, if n > 1 then 1 else if n < -1 then -1 else 0) := by
  unfold impl_carried.f
  by_cases h1 : n > 1
  · rw [if_pos h1, if_pos h1, if_pos h1, w64 (by omega) (by omega)]
  · rw [if_neg h1, if_neg h1, if_neg h1]
    by_cases h2 : n < -1
    · rw [if_pos h2, if_pos h2, if_pos h2, w64 (by omega) (by omega)]
    · rw [if_neg h2, if_neg h2, if_neg h2]

theorem impl_TurnTrit_eq (a : Int) : impl_TurnTrit.f a = some (turn a) := by
  unfold impl_TurnTrit.f turn
  rw [impl_IsTrit_eq]
  simp only [Option.bind_some]
  by_cases h : isTrit a = true
  · rw [if_pos h, if_pos h]
    have ha := (isTrit_iff a).1 h
    rw [w64 (by omega) (by omega), impl_carried_eq _ (by omega)]
    simp only [Option.bind_some]
    refine congrArg some ?_
    rcases (show a = -1 ∨ a = 0 ∨ a = 1 by omega) with rfl | rfl | rfl <;> rfl
  · rw [if_neg h, if_neg h]

theorem impl_TurnsForward_l (w : List Int) (hn : w.length ≤ 35184372088832) : ∀ (d i : Nat), i + 1 + d = w.length → Ev (fun k => impl_TurnsForward.l0 k w ((i + 1 : Nat) : Int)) (fwd (w.drop i)) := by
  intro d
  induction d with
  | zero =>
    intro i hi
    apply Ev.succ
    simp only [impl_TurnsForward.l0.eq_2]
    refine Ev.neg (by omega) (Ev.ret ?_)
    rw [drop_cons w i (by omega), List.drop_eq_nil_of_le (by omega), fwd_one]
  | succ d ih =>
    intro i hi
    apply Ev.succ
    simp only [impl_TurnsForward.l0.eq_2]
    have e : ((i + 1 : Nat) : Int) - 1 = (i : Int) := by omega
    have h := ih (i + 1) (by omega)
    rw [drop_cons w (i + 1) (by omega)] at h
    rw [drop_cons w i (by omega), drop_cons w (i + 1) (by omega), fwd_two, w64 (n := ((i + 1 : Nat) : Int) - 1) (by omega) (by omega), e, rd_get w (i + 1) (by omega), rd_get w i (by omega), w64 (n := ((i + 1 : Nat) : Int) + 1) (by omega) (by omega)]
    refine Ev.pos (by omega) (Ev.pos (by omega) (Ev.pos (by omega) (Ev.pos (by omega) ?_)))
    refine Ev.ite (fun c => ?_) (fun c => ?_)
    · rw [if_pos c]; exact h
    · rw [if_neg c]; exact Ev.bindc (impl_TurnTrit_eq _) (Ev.now _)
theorem impl_TurnsForward_ev (w : List Int) : Ev (fun k => impl_TurnsForward.f k w) (isWord w && fwd w) := by
  simp only [impl_TurnsForward.f]
  refine Ev.bind (impl_IsWord_ev w) ?_
  refine Ev.ite (fun h => ?_) (fun h => Ev.ret (by rw [Bool.not_eq_true] at h; rw [h, Bool.false_and]))
  have hw := (isWord_iff w).1 h
  refine evTo (impl_TurnsForward_l w (by omega) (w.length - 1) 0 (by omega)) ?_
  rw [h, Bool.true_and, List.drop_zero]

theorem impl_power_l (n : Nat) (hn : n ≤ 30) : ∀ (d i : Nat), i + d = n → Ev (fun k => impl_power.l0 k ((3 : Int) ^ i) n i) ((3 : Int) ^ n) := by
  intro d
  induction d with
  | zero =>
    intro i hi
    apply Ev.succ
    simp only [impl_power.l0.eq_2]
    refine Ev.neg (by omega) (Ev.ret ?_)
    rw [← hi]; rfl
  | succ d ih =>
    intro i hi
    apply Ev.succ
    simp only [impl_power.l0.eq_2]
    have h1 := pow3_30 (i := i + 1) (by omega)
    have h2 := pow3_pos i
    rw [pow3_succ] at h1
    refine Ev.pos (by omega) ?_
    rw [w64 (by omega) (by omega), w64 (by omega) (by omega), Int.mul_comm, ← pow3_succ]
    exact ih (i + 1) (by omega)
theorem impl_power_ev (n : Int) (h0 : 0 ≤ n) (hn : n ≤ 30) : Ev (fun k => impl_power.f k n) ((3 : Int) ^ n.toNat) := by
  obtain ⟨m, rfl⟩ : ∃ m : Nat, n = m := ⟨n.toNat, by omega⟩
  exact impl_power_l m (by omega) m 0 (by omega)

theorem impl_LimitOf_ev (k : Int) : Ev (fun n => impl_LimitOf.f n k) (lim k) := by
  simp only [impl_LimitOf.f]
  unfold lim
  refine Ev.ite (fun h => Ev.ret (by rw [if_neg (by omega)])) (fun h => Ev.ite (fun h1 => Ev.ret (by rw [if_neg (by omega)])) (fun h1 => ?_))
  rw [if_pos (by omega)]
  refine Ev.bind (impl_power_ev k (by omega) (by omega)) (Ev.ret ?_)
  have h2 := pow3_30 (i := k.toNat) (by omega)
  have h3 := pow3_pos k.toNat
  rw [w64 (n := _ - 1) (by omega) (by omega), Int.tdiv_eq_ediv_of_nonneg (by omega), w64 (by omega) (by omega)]

theorem impl_CoinsFor_ev (k : Int) : Ev (fun n => impl_CoinsFor.f n k) (if 2 ≤ k ∧ k ≤ 5 then (3 ^ k.toNat - 3) / 2 else 0) := by
  simp only [impl_CoinsFor.f]
  refine Ev.ite (fun h => Ev.ret (by rw [if_neg (by omega)])) (fun h => Ev.ite (fun h1 => Ev.ret (by rw [if_neg (by omega)])) (fun h1 => ?_))
  rw [if_pos (by omega)]
  refine Ev.bind (impl_power_ev k (by omega) (by omega)) (Ev.ret ?_)
  have h2 := pow3_30 (i := k.toNat) (by omega)
  have h4 : (3 : Int) ^ 2 ≤ 3 ^ k.toNat := pow3_mono (by omega)
  rw [w64 (n := _ - 3) (by omega) (by omega), Int.tdiv_eq_ediv_of_nonneg (by omega), w64 (by omega) (by omega)]

theorem impl_fits_ev (n k : Int) : Ev (fun m => impl_fits.f m n k) (fitsB n k) := by
  simp only [impl_fits.f]
  have h1 := lim_nonneg k
  have h2 := lim_le k
  refine Ev.bind (impl_LimitOf_ev k) ?_
  rw [w64 (by omega) (by omega)]
  refine Ev.ite (fun h => Ev.bind (impl_LimitOf_ev k) (Ev.ret ?_)) (fun h => Ev.ret ?_)
  · unfold fitsB; exact decide_eq_decide.2 (by omega)
  · unfold fitsB; rw [decide_eq_false]; omega

theorem tmod3 (n : Int) : Int.tmod n 3 = if 0 ≤ n then n % 3 else -((-n) % 3) := by
  split
  · exact Int.tmod_eq_emod_of_nonneg (by omega)
  · have h : Int.tmod (-n) 3 = (-n) % 3 := Int.tmod_eq_emod_of_nonneg (by omega)
    rw [Int.neg_tmod] at h; omega
theorem tdiv3 (n : Int) (h : n % 3 = 0) : Int.tdiv n 3 = n / 3 := by
  rw [Int.tdiv_eq_ediv_of_dvd (Int.dvd_of_emod_eq_zero h)]
theorem impl_WordOf_l (k : Nat) (hk : k ≤ 30) : ∀ (d i : Nat) (n : Int) (o : List Int), i + d = k → o.length = i → -100000000000000000 ≤ n → n ≤ 100000000000000000 → Ev (fun m => impl_WordOf.l0 m n o k i) (o ++ word d n, true) := by
  intro d
  induction d with
  | zero =>
    intro i n o hi ho h0 h1
    apply Ev.succ
    simp only [impl_WordOf.l0.eq_2]
    exact Ev.neg (by omega) (Ev.ret (by simp [word]))
  | succ d ih =>
    intro i n o hi ho h0 h1
    apply Ev.succ
    simp only [impl_WordOf.l0.eq_2]
    have ht := tmod3 n
    generalize hr : Int.tmod n 3 = r at *
    have h2 : -2 ≤ r ∧ r ≤ 2 ∧ (r - n) % 3 = 0 := by split at ht <;> omega
    refine Ev.pos (by omega) (Ev.bindc (impl_carried_eq r (by omega)) ?_)
    refine Ev.pos (by omega) ?_
    generalize hs : (if r > 1 then r - 3 else if r < -1 then r + 3 else r) = s
    have hs2 : s = (n + 1) % 3 - 1 := by split at hs <;> first | omega | (split at hs <;> omega)
    have e : Int.tdiv (n - s) 3 = (n + 1) / 3 := by rw [tdiv3 _ (by omega)]; omega
    rw [w64 (n := n - s) (by omega) (by omega), e, w64 (by omega) (by omega), w64 (by omega) (by omega)]
    refine evTo (ih (i + 1) ((n + 1) / 3) (o ++ [s]) (by omega) (by simp [ho]) (by omega) (by omega)) ?_
    rw [word, hs2]; simp
theorem impl_WordOf_ev (n k : Int) : Ev (fun m => impl_WordOf.f m n k) (wordOf n k) := by
  simp only [impl_WordOf.f]
  have no : ¬ (1 ≤ k ∧ k ≤ 30 ∧ fitsB n k = true) → Ev (fun m => impl_WordOf.j0 m n k true) (wordOf n k) := by
    intro h
    apply Ev.succ
    simp only [impl_WordOf.j0.eq_2]
    exact Ev.pos (by simp) (Ev.ret (by unfold wordOf; rw [if_neg h]))
  refine Ev.ite (fun h => no (by omega)) (fun h => Ev.ite (fun h1 => no (by omega)) (fun h1 => ?_))
  refine Ev.bind (impl_fits_ev n k) ?_
  by_cases c : fitsB n k = true
  · rw [c]
    apply Ev.succ
    simp only [impl_WordOf.j0.eq_2]
    refine Ev.neg (by simp) ?_
    have hf := c
    unfold fitsB at hf
    have h2 := lim_nonneg k
    have h3 := lim_le k
    have h4 := of_decide_eq_true hf
    have hl := impl_WordOf_l k.toNat (by omega) k.toNat 0 n [] (by omega) rfl (by omega) (by omega)
    rw [show ((k.toNat : Nat) : Int) = k by omega] at hl
    unfold wordOf; rw [if_pos ⟨by omega, by omega, c⟩]
    simpa using hl
  · rw [Bool.not_eq_true] at c
    rw [c]
    exact no (by rw [c]; simp)

theorem impl_turned_l (w : List Int) (hw : w.length ≤ 1000000) : ∀ (d i : Nat), i + d = w.length → Ev (fun k => impl_turned.l0 k ((w.map turn).take i) w w.length i) (w.map turn) := by
  intro d
  induction d with
  | zero =>
    intro i hi
    apply Ev.succ
    simp only [impl_turned.l0.eq_2]
    refine Ev.neg (by omega) (Ev.ret ?_)
    rw [List.take_of_length_le (by simp; omega)]
  | succ d ih =>
    intro i hi
    have hil : i < w.length := by omega
    apply Ev.succ
    simp only [impl_turned.l0.eq_2]
    rw [rd_get w i hil, w64 (by omega) (by omega)]
    refine Ev.pos (by omega) (Ev.pos (by omega) (Ev.pos (by omega) (Ev.bindc (impl_TurnTrit_eq _) (Ev.pos (by simp; omega) ?_))))
    have e : (w.map turn).take i ++ [turn w[i]] = (w.map turn).take (i + 1) := by
      rw [List.take_succ_eq_append_getElem (by simpa using hil)]; simp
    rw [e, show (i : Int) + 1 = ((i + 1 : Nat) : Int) by omega]
    exact ih (i + 1) (by omega)
theorem impl_turned_ev (w : List Int) (hw : w.length ≤ 1000000) : Ev (fun k => impl_turned.f k w) (w.map turn) := by
  simp only [impl_turned.f]
  have := impl_turned_l w hw w.length 0 (by omega)
  simpa using this

def coinW (coins kk : Int) : List (List Int) × Bool := if 2 ≤ kk ∧ kk ≤ 5 ∧ 3 ≤ coins ∧ coins ≤ (3 ^ kk.toNat - 3) / 2 ∧ coins % 3 = 0 then (algI coins.toNat kk.toNat (3 ^ kk.toNat) (-(L3 kk.toNat)) [], true) else ([], false)

theorem has_ev (w : List Int) : ∀ (out : List (List Int)), (∀ x ∈ out, x.length ≤ 1000000) → Ev (fun k => impl_CoinWords.has k out w) (out.any (fun x => decide (x = w))) := by
  intro out h
  exact anyO_ev (p := fun x => decide (x = w)) out (fun x hx => slices_Equal_int_int_ev x w (by have := h x hx; omega))
theorem impl_CoinWords_l (coins kk : Nat) (hk : 2 ≤ kk ∧ kk ≤ 5) : ∀ (c : Nat) (n : Int) (out : List (List Int)), n + c = L3 kk + 1 → -(L3 kk) ≤ n → trits3 kk out → out.length + 3 * c ≤ 1000000 → Ev (fun k => impl_CoinWords.loop k coins kk c n out) (algI coins kk c n out)
  | 0, n, out, _, _, _, _ => Ev.now _
  | c + 1, n, out, h0, h1, ht, ho => by
    simp only [impl_CoinWords.loop, algI]
    by_cases hl : out.length < coins
    · rw [if_pos hl]
      have hwi := word_isWord kk n ⟨by omega, by omega⟩
      have hf0 : fitsB n (kk : Int) = true := (fitsB_iff n kk ⟨by omega, by omega⟩).2 ⟨h1, by omega⟩
      have ew : Ev (fun k => impl_WordOf.f k n kk) (word kk n, true) := evTo (impl_WordOf_ev n kk) (by
        unfold wordOf
        rw [if_pos ⟨by omega, by omega, hf0⟩, Int.toNat_natCast])
      refine Ev.pos (by omega) (Ev.pos (by omega) (Ev.bind ew (Ev.bind (impl_TurnsForward_ev (word kk n)) ?_)))
      rw [hwi, Bool.true_and]
      by_cases hf : fwd (word kk n) = true
      · rw [if_pos hf]
        refine Ev.pos hf (Ev.bind (has_ev (word kk n) out (fun x hx => by have := (ht x hx).1; omega)) ?_)
        by_cases ha : out.any (fun x => decide (x = word kk n)) = true
        · rw [if_pos ha]
          exact Ev.pos ha (impl_CoinWords_l coins kk hk c (n + 1) out (by omega) (by omega) ht (by omega))
        · rw [if_neg ha]
          have hw := word_length kk n
          have hw2 : ((word kk n).map turn).length ≤ 1000000 := by simp; omega
          refine Ev.neg ha (Ev.bind (impl_turned_ev _ (by dsimp only; omega)) (Ev.bind (impl_turned_ev _ hw2) ?_))
          exact impl_CoinWords_l coins kk hk c (n + 1) _ (by omega) (by omega) (trits3_append ht (three_ok kk n)) (by rw [List.length_append]; simp only [List.length_cons, List.length_nil]; omega)
      · rw [if_neg hf]
        exact Ev.neg hf (impl_CoinWords_l coins kk hk c (n + 1) out (by omega) (by omega) ht (by omega))
    · rw [if_neg hl]
      exact Ev.neg (by omega) (Ev.now _)
theorem impl_CoinWords_ev (a b : Int) : Ev (fun k => impl_CoinWords.f k a b) (coinW a b) := by
  simp only [impl_CoinWords.f]
  unfold coinW
  by_cases h0 : b < 2 ∨ 5 < b ∨ a < 3
  · rw [if_neg (by omega)]
    exact Ev.pos h0 (Ev.now _)
  · refine Ev.neg h0 (Ev.bind (impl_CoinsFor_ev b) ?_)
    rw [if_pos (show 2 ≤ b ∧ b ≤ 5 by omega)]
    by_cases h1 : (3 ^ b.toNat - 3) / 2 < a ∨ a % 3 ≠ 0
    · rw [if_neg (by omega)]
      exact Ev.pos h1 (Ev.now _)
    · rw [if_pos (by omega)]
      refine Ev.neg h1 (Ev.bind (impl_LimitOf_ev b) ?_)
      obtain ⟨kk, rfl⟩ : ∃ n : Nat, b = n := ⟨b.toNat, by omega⟩
      obtain ⟨coins, rfl⟩ : ∃ n : Nat, a = n := ⟨a.toNat, by omega⟩
      simp only [Int.toNat_natCast] at h1 ⊢
      have hk : 2 ≤ kk ∧ kk ≤ 5 := by omega
      rw [lim_eq kk ⟨by omega, by omega⟩]
      have hp : 3 ^ kk ≤ 243 := Nat.le_trans (Nat.pow_le_pow_right (by omega) (show kk ≤ 5 by omega)) (by decide)
      have hL := L3_nonneg kk
      have hL2 := L3_mono (i := kk) (n := 5) (by omega)
      have hL5 : L3 5 = 121 := by decide
      have e3 := L3_pow kk
      have e3n : ((3 ^ kk : Nat) : Int) = (3 : Int) ^ kk := by simp
      have e5 : ((3 ^ kk : Nat) : Int) = 2 * L3 kk + 1 := by rw [e3n, e3]
      have ec : (2 * L3 kk + 1).toNat = 3 ^ kk := by rw [← e5, Int.toNat_natCast]
      rw [ec]
      clear e3 e3n h1
      generalize 3 ^ kk = q at *
      exact Ev.pos ⟨hL, by omega⟩ (Ev.bind (impl_CoinWords_l coins kk hk q _ [] (by omega) (by omega) (fun x hx => absurd hx (by simp)) (by simp; omega)) (Ev.now _))

theorem spec_l1In_eq (a b c : Int) : spec_l1In.f a b c = some (decide (b ≤ a ∧ a ≤ c)) := by
  unfold spec_l1In.f
  by_cases h : b ≤ a
  · rw [if_pos (by omega)]; simp [h]
  · rw [if_neg (by omega)]; simp [h]

theorem spec_LimitOf_l (n : Nat) (hn : n ≤ 30) : ∀ (d i : Nat), i + d = n → Ev (fun k => spec_LimitOf.l0 k n (((3 : Int) ^ i - 1) / 2) i) (((3 : Int) ^ n - 1) / 2) := by
  intro d
  induction d with
  | zero =>
    intro i hi
    apply Ev.succ
    simp only [spec_LimitOf.l0.eq_2]
    refine Ev.neg (by omega) (Ev.ret ?_)
    rw [← hi]; rfl
  | succ d ih =>
    intro i hi
    apply Ev.succ
    simp only [spec_LimitOf.l0.eq_2]
    have h1 := pow3_30 (i := i + 1) (by omega)
    have h2 := pow3_pos i
    have h3 := pow3_lim i
    have h4 := pow3_lim (i + 1)
    rw [pow3_succ] at h1 h4
    refine Ev.pos (by omega) ?_
    rw [w64 (n := _ * _) (by omega) (by omega), w64 (by omega) (by omega), w64 (by omega) (by omega)]
    refine (ih (i + 1) (by omega)).congr (fun k => ?_)
    refine congrArg (fun z => spec_LimitOf.l0 k n z _) ?_
    rw [pow3_succ]; omega
theorem spec_LimitOf_ev (n : Int) : Ev (fun k => spec_LimitOf.f k n) (lim n) := by
  simp only [spec_LimitOf.f, spec_l1In_eq, Option.bind_some, decide_eq_true_eq]
  unfold lim
  refine Ev.ite (fun h => ?_) (fun h => Ev.ret (by rw [if_neg h]))
  obtain ⟨m, rfl⟩ : ∃ m : Nat, n = m := ⟨n.toNat, by omega⟩
  rw [if_pos h]
  exact spec_LimitOf_l m (by omega) m 0 (by omega)

theorem spec_CoinsFor_ev (k : Int) : Ev (fun n => spec_CoinsFor.f n k) (if 2 ≤ k ∧ k ≤ 5 then (3 ^ k.toNat - 3) / 2 else 0) := by
  simp only [spec_CoinsFor.f]
  refine Ev.bindc (spec_l1In_eq k 2 5) ?_
  by_cases h : 2 ≤ k ∧ k ≤ 5
  · rw [if_pos h]
    refine Ev.pos (by simpa using h) (Ev.bind (spec_LimitOf_ev k) (Ev.ret ?_))
    obtain ⟨n, rfl⟩ : ∃ n : Nat, k = n := ⟨k.toNat, by omega⟩
    have e := lim_eq n (by omega)
    have h1 := L3_pow n
    have h0 := L3_nonneg n
    have h30 := L3_30 (i := n) (by omega)
    rw [e, w64 (by omega) (by omega), Int.toNat_natCast]
    omega
  · rw [if_neg h]
    exact Ev.neg (by simpa using h) (Ev.now _)

theorem laws_ints_l (x0 x1 : List Int) (hl : x0.length = x1.length) (hn : x0.length ≤ 35184372088832) : ∀ (d i : Nat), i + d = x0.length → Ev (fun k => laws_ints.l0 k x0 x1 x0.length i) (decide (x0.drop i = x1.drop i)) := by
  intro d
  induction d with
  | zero =>
    intro i hi
    apply Ev.succ
    simp only [laws_ints.l0.eq_2]
    refine Ev.neg (by omega) (Ev.ret ?_)
    rw [List.drop_eq_nil_of_le (by omega), List.drop_eq_nil_of_le (by omega)]; simp
  | succ d ih =>
    intro i hi
    apply Ev.succ
    simp only [laws_ints.l0.eq_2]
    refine Ev.pos (by omega) (Ev.pos (by omega) (Ev.pos (by omega) (Ev.pos (by omega) ?_)))
    rw [rd_get x0 i (by omega), rd_get x1 i (by omega), drop_cons x0 i (by omega), drop_cons x1 i (by omega)]
    refine Ev.ite (fun h => ?_) (fun h => ?_)
    · rw [w64 (by omega) (by omega)]
      exact evTo (ih (i + 1) (by omega)) (by simp only [List.cons.injEq, h, true_and])
    · exact Ev.ret (by simp only [List.cons.injEq, h, false_and, decide_false])
theorem laws_ints_ev (x0 x1 : List Int) (hn : x0.length ≤ 35184372088832) : Ev (fun k => laws_ints.f k x0 x1) (decide (x0 = x1)) := by
  simp only [laws_ints.f]
  refine Ev.ite (fun h => ?_) (fun h => Ev.ret ?_)
  · exact evTo (laws_ints_l x0 x1 (by omega) hn x0.length 0 (by omega)) (by simp)
  · symm; rw [decide_eq_false_iff_not]; intro e; rw [e] at h; exact h rfl

end Go.Proofs.Ytffohdlbkigehaa.LemFnCoins
