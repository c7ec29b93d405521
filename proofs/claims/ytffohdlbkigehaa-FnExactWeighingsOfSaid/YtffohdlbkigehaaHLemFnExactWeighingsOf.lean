/- Lemmas: what each function that this statement reaches computes. -/
import Derived.Test.YtffohdlbkigehaaHOpFnExactWeighingsOf
import Derived.Test.YtffohdlbkigehaaBase
set_option linter.unusedVariables false
set_option linter.unusedSimpArgs false
namespace Go.Proofs.Ytffohdlbkigehaa.LemFnExactWeighingsOf
open Go.RowKit Go.Proofs.YtffohdlbkigehaaW.PrintWords Go.Proofs.YtffohdlbkigehaaW.PrintLast Go.Proofs.YtffohdlbkigehaaW.PrintMore Go.Proofs.Ytffohdlbkigehaa.HFnExactWeighingsOf Go.Proofs.Ytffohdlbkigehaa.Base

theorem laws_szIntS_eq (l : List Int) (a : Int) (hl : l.length ≤ maxLen) (h0 : 0 ≤ a) (h1 : a ≤ 1048576) : laws_szIntS.f l a = some (if (l.length : Int) ≤ a then a - l.length else -1) := by
  unfold maxLen at hl
  unfold laws_szIntS.f
  rw [w64 (by omega) (by omega)]
  by_cases h : (l.length : Int) ≤ a
  · rw [if_neg (by omega), if_pos h]
  · rw [if_pos (by omega), if_neg h]

/-- What 'size' tells of a rest b for n parts. -/
def rest (b : Int) (n : Nat) : Int := if (n : Int) ≤ b then b - n else -1

theorem rdL_get (xs : List (List Int)) (i : Nat) (h : i < xs.length) : rd_L1 xs (i : Int) = xs[i] := by
  simp [rd_L1, List.getD_eq_getElem?_getD, List.getElem?_eq_getElem h]
/-- All numbers of all rows. -/
def tot : List (List Int) → Nat
  | [] => 0
  | x :: xs => x.length + tot xs
theorem tot_drop (xs : List (List Int)) (i : Nat) (h : i < xs.length) : tot (xs.drop i) = xs[i].length + tot (xs.drop (i + 1)) := by
  rw [drop_cons xs i h, tot]
theorem tot_mem {l : List (List Int)} {x : List Int} (h : x ∈ l) : x.length ≤ tot l := by
  induction l with
  | nil => simp at h
  | cons y ys ih =>
    rw [tot]
    rcases List.mem_cons.1 h with rfl | h
    · omega
    · have := ih h; omega

theorem laws_szIntSS_l (l : List (List Int)) (hl : l.length ≤ maxLen) (hw : ∀ y ∈ l, y.length ≤ maxLen) :
    ∀ (d i : Nat) (b : Int), i + d = l.length → 0 ≤ b → b ≤ 1048576 → Ev (fun k => laws_szIntSS.l0 k l b i) (rest b (tot (l.drop i))) := by
  intro d
  unfold maxLen at hl
  induction d with
  | zero =>
    intro i b hi h0 h1
    apply Ev.succ
    simp only [laws_szIntSS.l0.eq_2]
    refine Ev.neg (by omega) (Ev.ret ?_)
    rw [List.drop_of_length_le (by omega)]
    simp [rest, tot, h0]
  | succ d ihd =>
    intro i b hi h0 h1
    have hlt : i < l.length := by omega
    apply Ev.succ
    simp only [laws_szIntSS.l0.eq_2]
    refine Ev.pos (by omega) (Ev.pos (by omega) ?_)
    rw [rdL_get l i hlt, w64 (by omega) (by omega)]
    refine Ev.bindc (laws_szIntS_eq l[i] b (hw _ (List.getElem_mem hlt)) h0 h1) ?_
    rw [tot_drop l i hlt]
    by_cases hb : (l[i].length : Int) ≤ b
    · rw [if_pos hb]
      refine Ev.neg (by omega) (evTo (ihd (i + 1) _ (by omega) (by omega) (by omega)) ?_)
      unfold rest
      by_cases hc : (tot (l.drop (i + 1)) : Int) ≤ b - l[i].length
      · rw [if_pos hc, if_pos (by omega)]; omega
      · rw [if_neg hc, if_neg (by omega)]
    · rw [if_neg hb]
      refine Ev.pos (by omega) (Ev.ret ?_)
      unfold rest
      rw [if_neg (by omega)]
theorem laws_szIntSS_ev (l : List (List Int)) (hl : l.length ≤ maxLen) (hw : ∀ y ∈ l, y.length ≤ maxLen) (b : Int) (h0 : 0 ≤ b) (h1 : b ≤ 1048576) :
    Ev (fun k => laws_szIntSS.f k l b) (rest b (l.length + tot l)) := by
  simp only [laws_szIntSS.f]
  have hm := hl
  unfold maxLen at hm
  rw [w64 (by omega) (by omega)]
  refine Ev.ite (fun h => Ev.ret ?_) (fun h => ?_)
  · unfold rest; rw [if_neg (by omega)]
  · refine evTo (laws_szIntSS_l l hl hw l.length 0 _ (by omega) (by omega) (by omega)) ?_
    simp only [List.drop_zero]
    unfold rest
    by_cases hc : (tot l : Int) ≤ b - l.length
    · rw [if_pos hc, if_pos (by omega)]; omega
    · rw [if_neg hc, if_neg (by omega)]

theorem laws_toIntS_l (x0 : List Int) (hn : x0.length ≤ 35184372088832) : ∀ (d i : Nat) (x3 : List Int), i + d = x0.length → x3.length = x0.length → x3.take i = x0.take i → Ev (fun k => laws_toIntS.l0 k x0 x3 i) x0 := by
  intro d
  induction d with
  | zero =>
    intro i x3 hi hx ht
    apply Ev.succ
    simp only [laws_toIntS.l0.eq_2]
    refine Ev.neg (by omega) (Ev.ret ?_)
    rwa [List.take_of_length_le (by omega), List.take_of_length_le (by omega)] at ht
  | succ d ih =>
    intro i x3 hi hx ht
    apply Ev.succ
    simp only [laws_toIntS.l0.eq_2]
    refine Ev.pos (by omega) (Ev.pos (by omega) (Ev.pos (by omega) ?_))
    rw [w64 (by omega) (by omega), rd_get x0 i (by omega)]
    refine ih (i + 1) _ (by omega) (by simp [hx]) ?_
    rw [take_snoc _ i (by simp; omega), take_snoc x0 i (by omega)]
    simp [List.take_set_of_le, ht]
theorem laws_toIntS_ev (x0 : List Int) (hn : x0.length ≤ 35184372088832) : Ev (fun k => laws_toIntS.f k x0) x0 := by
  simp only [laws_toIntS.f]
  refine Ev.pos (by omega) (Ev.pos (by omega) ?_)
  exact laws_toIntS_l x0 hn x0.length 0 _ (by omega) (by simp) (by simp)

theorem laws_toIntSS_l (x0 : List (List Int)) (hn : x0.length ≤ 1048576) (hw : ∀ y ∈ x0, y.length ≤ 1048576) : ∀ (d i : Nat) (x3 : List (List Int)), i + d = x0.length → x3.length = x0.length → x3.take i = x0.take i → Ev (fun k => laws_toIntSS.l0 k x0 x3 i) x0 := by
  intro d
  induction d with
  | zero =>
    intro i x3 hi hx ht
    apply Ev.succ
    simp only [laws_toIntSS.l0.eq_2]
    refine Ev.neg (by omega) (Ev.ret ?_)
    rwa [List.take_of_length_le (by omega), List.take_of_length_le (by omega)] at ht
  | succ d ih =>
    intro i x3 hi hx ht
    have hlt : i < x0.length := by omega
    apply Ev.succ
    simp only [laws_toIntSS.l0.eq_2]
    refine Ev.pos (by omega) (Ev.pos (by omega) ?_)
    rw [w64 (by omega) (by omega), rdL_get x0 i (by omega)]
    refine Ev.bind (laws_toIntS_ev _ (by have := hw _ (List.getElem_mem hlt); omega)) (Ev.pos (by omega) ?_)
    refine ih (i + 1) _ (by omega) (by simp [hx]) ?_
    rw [take_snoc _ i (by simp; omega), take_snoc x0 i (by omega)]
    simp [List.take_set_of_le, ht]
theorem laws_toIntSS_ev (x0 : List (List Int)) (hn : x0.length ≤ 1048576) (hw : ∀ y ∈ x0, y.length ≤ 1048576) : Ev (fun k => laws_toIntSS.f k x0) x0 := by
  simp only [laws_toIntSS.f]
  refine Ev.pos (by omega) (Ev.pos (by omega) ?_)
  exact laws_toIntSS_l x0 hn hw x0.length 0 _ (by omega) (by simp) (by simp)

theorem laws_eqIntS_l (x0 x1 : List Int) (hl : x0.length = x1.length) (hn : x0.length ≤ 35184372088832) : ∀ (d i : Nat), i + d = x0.length → Ev (fun k => laws_eqIntS.l0 k x0 x1 i) (decide (x0.drop i = x1.drop i)) := by
  intro d
  induction d with
  | zero =>
    intro i hi
    apply Ev.succ
    simp only [laws_eqIntS.l0.eq_2]
    refine Ev.neg (by omega) (Ev.ret ?_)
    rw [List.drop_eq_nil_of_le (by omega), List.drop_eq_nil_of_le (by omega)]; simp
  | succ d ih =>
    intro i hi
    apply Ev.succ
    simp only [laws_eqIntS.l0.eq_2]
    refine Ev.pos (by omega) (Ev.pos (by omega) (Ev.pos (by omega) ?_))
    rw [rd_get x0 i (by omega), rd_get x1 i (by omega), drop_cons x0 i (by omega), drop_cons x1 i (by omega)]
    refine Ev.ite (fun h => ?_) (fun h => ?_)
    · rw [w64 (by omega) (by omega)]
      exact evTo (ih (i + 1) (by omega)) (by simp only [List.cons.injEq, h, true_and])
    · exact Ev.ret (by simp only [List.cons.injEq, h, false_and, decide_false])
theorem laws_eqIntS_ev (x0 x1 : List Int) (hn : x0.length ≤ 35184372088832) : Ev (fun k => laws_eqIntS.f k x0 x1) (decide (x0 = x1)) := by
  simp only [laws_eqIntS.f]
  refine Ev.ite (fun h => ?_) (fun h => Ev.ret ?_)
  · exact evTo (laws_eqIntS_l x0 x1 (by omega) hn x0.length 0 (by omega)) (by simp)
  · symm; rw [decide_eq_false_iff_not]; intro e; rw [e] at h; exact h rfl

theorem laws_eqIntSS_l (l : List (List Int)) (hl : l.length ≤ 1048576) (hw : ∀ y ∈ l, y.length ≤ 1048576) : ∀ (d i : Nat), i + d = l.length → Ev (fun k => laws_eqIntSS.l0 k l l i) true := by
  intro d
  induction d with
  | zero =>
    intro i hi
    apply Ev.succ
    simp only [laws_eqIntSS.l0.eq_2]
    exact Ev.neg (by omega) (Ev.now _)
  | succ d ihd =>
    intro i hi
    have hlt : i < l.length := by omega
    apply Ev.succ
    simp only [laws_eqIntSS.l0.eq_2]
    refine Ev.pos (by omega) (Ev.pos (by omega) (Ev.pos (by omega) ?_))
    rw [w64 (by omega) (by omega), rdL_get l i hlt]
    refine Ev.bind (laws_eqIntS_ev _ _ (by have := hw _ (List.getElem_mem hlt); omega)) (Ev.pos (by simp) ?_)
    exact ihd (i + 1) (by omega)
theorem laws_eqIntSS_ev (l : List (List Int)) (hl : l.length ≤ 1048576) (hw : ∀ y ∈ l, y.length ≤ 1048576) : Ev (fun k => laws_eqIntSS.f k l l) true := by
  simp only [laws_eqIntSS.f]
  exact Ev.pos trivial (laws_eqIntSS_l l hl hw l.length 0 (by omega))

theorem laws_markIntS_l (n : Nat) (a : Int) (ha0 : 0 ≤ a) (ha : a ≤ 1000000000000000) (hn : n ≤ 35184372088832) : ∀ (d i : Nat) (x0 : List Int), i + d = n → x0.length = n → Ev (fun k => laws_markIntS.l0 k x0 (a + i) i) (a + n, x0.take i ++ (marked n a).drop i) := by
  intro d
  induction d with
  | zero =>
    intro i x0 hi hx
    apply Ev.succ
    simp only [laws_markIntS.l0.eq_2]
    refine Ev.neg (by omega) (Ev.ret ?_)
    rw [List.drop_eq_nil_of_le (by rw [marked_length]; omega), List.take_of_length_le (by omega)]
    simp; omega
  | succ d ih =>
    intro i x0 hi hx
    apply Ev.succ
    simp only [laws_markIntS.l0.eq_2]
    refine Ev.pos (by omega) (Ev.pos (by omega) ?_)
    rw [w64 (by omega) (by omega), w64 (by omega) (by omega)]
    have e1 : a + (i : Int) + 1 = a + ((i + 1 : Nat) : Int) := by omega
    rw [e1]
    refine evTo (ih (i + 1) _ (by omega) (by simp [hx])) ?_
    refine congrArg (Prod.mk _) ?_
    rw [take_snoc _ i (by simp; omega), drop_cons (marked n a) i (by rw [marked_length]; omega)]
    simp [marked, List.take_set_of_le]
theorem laws_markIntS_ev (x0 : List Int) (a : Int) (ha0 : 0 ≤ a) (ha : a ≤ 1000000000000000) (hn : x0.length ≤ 35184372088832) : Ev (fun k => laws_markIntS.f k x0 a) (a + x0.length, marked x0.length a) := by
  have h := laws_markIntS_l x0.length a ha0 ha hn x0.length 0 x0 (by omega) rfl
  simp only [laws_markIntS.f]
  simpa using h

def markedR : List (List Int) → Int → List (List Int)
  | [], _ => []
  | x :: xs, a => marked x.length a :: markedR xs (a + x.length)
theorem laws_markIntSS_s : ∀ (l : List (List Int)) (a : Int) (_ : 0 ≤ a) (_ : a + tot l ≤ 1000000000000) (_ : ∀ y ∈ l, y.length ≤ 1048576), Ev (fun k => laws_markIntSS.s k l a) (a + tot l, markedR l a)
  | [], a, _, _, _ => Ev.ret (by simp [tot, markedR])
  | x :: xs, a, h0, h1, hw => by
    have hx := hw x (by simp)
    simp only [tot] at h1
    simp only [laws_markIntSS.s]
    refine Ev.bind (laws_markIntS_ev x a h0 (by omega) (by omega)) (Ev.bind (laws_markIntSS_s xs (a + x.length) (by omega) (by omega) (fun y hy => hw y (by simp [hy]))) (Ev.ret ?_))
    simp only [tot, markedR]
    congr 1
    omega
theorem laws_markIntSS_ev (l : List (List Int)) (a : Int) (h0 : 0 ≤ a) (h1 : a + tot l ≤ 1000000000000) (hw : ∀ y ∈ l, y.length ≤ 1048576) : Ev (fun k => laws_markIntSS.f k l a) (a + tot l) := by
  simp only [laws_markIntSS.f]
  exact Ev.bind (laws_markIntSS_s l a h0 h1 hw) (Ev.now _)

theorem spec_l1In_eq (a b c : Int) : spec_l1In.f a b c = some (decide (b ≤ a ∧ a ≤ c)) := by
  unfold spec_l1In.f
  by_cases h : b ≤ a
  · rw [if_pos (by omega)]; simp [h]
  · rw [if_neg (by omega)]; simp [h]

theorem spec_IsTrit_eq (a : Int) : spec_IsTrit.f a = some (isTrit a) := by
  unfold spec_IsTrit.f isTrit
  rw [spec_l1In_eq]; rfl

theorem spec_IsWord_l (x : List Int) (hn : x.length ≤ 35184372088832) : ∀ (d i : Nat), i + d = x.length → Ev (fun k => spec_IsWord.l0 k x x x.length i) (decide (1 ≤ x.length ∧ x.length ≤ 30) && (x.drop i).all isTrit) := by
  intro d
  induction d with
  | zero =>
    intro i hi
    apply Ev.succ
    simp only [spec_IsWord.l0.eq_2, spec_l1In_eq, Option.bind_some]
    refine Ev.neg (by omega) (Ev.ret ?_)
    rw [List.drop_eq_nil_of_le (by omega), List.all_nil, Bool.and_true]
    exact decide_eq_decide.2 (by omega)
  | succ d ih =>
    intro i hi
    apply Ev.succ
    simp only [spec_IsWord.l0.eq_2, spec_IsTrit_eq, Option.bind_some]
    refine Ev.pos (by omega) (Ev.pos (by omega) (Ev.pos (by omega) ?_))
    rw [rd_get x i (by omega), drop_cons x i (by omega), List.all_cons, w64 (by omega) (by omega)]
    refine Ev.ite (fun h => ?_) (fun h => Ev.ret ?_)
    · exact evTo (ih (i + 1) (by omega)) (by rw [h, Bool.true_and])
    · rw [Bool.not_eq_true] at h; rw [h, Bool.false_and, Bool.and_false]
theorem spec_IsWord_ev (x : List Int) (hn : x.length ≤ 35184372088832) : Ev (fun k => spec_IsWord.f k x) (isWord x) := by
  simp only [spec_IsWord.f]
  exact spec_IsWord_l x hn x.length 0 (by omega)

theorem spec_l3Fit_ev (a b : List Int) (ha : a.length ≤ 1048576) (hb : b.length ≤ 1048576) : Ev (fun k => spec_l3Fit.f k a b) (isWord a && isWord b && decide (a.length = b.length)) := by
  simp only [spec_l3Fit.f]
  refine Ev.bind (spec_IsWord_ev a (by omega)) (Ev.ite (fun h => ?_) (fun h => Ev.ret ?_))
  · rw [h, Bool.true_and]
    refine Ev.bind (spec_IsWord_ev b (by omega)) (Ev.ite (fun h => Ev.ret ?_) (fun h => Ev.ret ?_))
    · rw [h, Bool.true_and, Bool.eq_iff_iff]; simp; omega
    · rw [Bool.not_eq_true] at h; rw [h, Bool.false_and]
  · rw [Bool.not_eq_true] at h; rw [h]; simp

/-- Words of the same number of trits, one at least. -/
def wordsB (l : List (List Int)) : Bool := decide (0 < l.length) && l.all fun x => isWord x && decide (x.length = (l.getD 0 []).length)

theorem spec_l8Words_l (l : List (List Int)) (hl : l.length ≤ 1048576) (hw : ∀ y ∈ l, y.length ≤ 1048576) : ∀ (d i : Nat), i + d = l.length → Ev (fun k => spec_l8Words.l0 k l l (l.length : Int) i) (((l.drop i).all fun x => isWord (l.getD 0 []) && isWord x && decide ((l.getD 0 []).length = x.length)) && decide (0 < l.length)) := by
  intro d
  induction d with
  | zero =>
    intro i hi
    apply Ev.succ
    simp only [spec_l8Words.l0.eq_2]
    refine Ev.neg (by omega) (Ev.ret ?_)
    rw [List.drop_of_length_le (by omega), List.all_nil, Bool.true_and, Bool.eq_iff_iff]; simp
  | succ d ihd =>
    intro i hi
    have hlt : i < l.length := by omega
    have h0 : 0 < l.length := by omega
    apply Ev.succ
    simp only [spec_l8Words.l0.eq_2]
    refine Ev.pos (by omega) (Ev.pos (by omega) (Ev.pos (by omega) (Ev.pos (by omega) ?_)))
    have e0 : l.getD 0 [] = l[0] := by simp [List.getD_eq_getElem?_getD, List.getElem?_eq_getElem h0]
    have e1 : rd_L1 l 0 = l.getD 0 [] := by rw [e0]; exact rdL_get l 0 h0
    rw [w64 (by omega) (by omega), rdL_get l i hlt, e1, drop_cons l i hlt, List.all_cons]
    refine Ev.bind (spec_l3Fit_ev _ _ (by rw [e0]; exact hw _ (List.getElem_mem h0)) (hw _ (List.getElem_mem hlt))) (Ev.ite (fun h => ?_) (fun h => Ev.ret ?_))
    · rw [h, Bool.true_and]; exact ihd (i + 1) (by omega)
    · rw [Bool.not_eq_true] at h; rw [h]; simp
theorem spec_l8Words_ev (l : List (List Int)) (hl : l.length ≤ 1048576) (hw : ∀ y ∈ l, y.length ≤ 1048576) : Ev (fun k => spec_l8Words.f k l) (wordsB l) := by
  simp only [spec_l8Words.f]
  refine evTo (spec_l8Words_l l hl hw l.length 0 (by omega)) ?_
  rw [List.drop_zero, wordsB, Bool.and_comm, Bool.eq_iff_iff]
  simp only [Bool.and_eq_true, decide_eq_true_eq, List.all_eq_true]
  constructor
  · rintro ⟨h0, h⟩
    exact ⟨h0, fun x hx => ⟨(h x hx).1.2, (h x hx).2.symm⟩⟩
  · rintro ⟨h0, h⟩
    have e0 : l.getD 0 [] = l[0] := by simp [List.getD_eq_getElem?_getD, List.getElem?_eq_getElem h0]
    refine ⟨h0, fun x hx => ⟨⟨?_, (h x hx).1⟩, (h x hx).2.symm⟩⟩
    rw [e0]; exact (h _ (List.getElem_mem h0)).1

/-- What OutcomeOf gives. -/
def outB (l : List (List Int)) (c e : Int) : List Int × Bool :=
  if wordsB l = true ∧ isTrit e = true ∧ (e = 0 ∨ 0 ≤ c ∧ c < l.length) then (if e = 0 then (List.replicate (l.getD 0 []).length 0, true) else ((l.getD c.toNat []).map fun a => a * e, true)) else ([], false)
theorem wordsB_iff (l : List (List Int)) : wordsB l = true ↔ 0 < l.length ∧ ∀ x ∈ l, isWord x = true ∧ x.length = (l.getD 0 []).length := by
  simp [wordsB]

/-- What WeighingsOf gives. -/
def weighsB (l : List (List Int)) : List S29 × Bool := if wordsB l = true then (impl_WeighingsOf.pairs (impl_WeighingsOf.all l 0 (List.replicate (2 * (l.getD 0 []).length) [])) (l.getD 0 []).length, true) else ([], false)

/-- The coins, from c on, whose words have v at place i. -/
def colI (v : Int) (i : Nat) : List (List Int) → Int → List Int
  | [], _ => []
  | w :: ws, c => if w.getD i 0 = v then c :: colI v i ws (c + 1) else colI v i ws (c + 1)
theorem colI_len (v : Int) (i : Nat) : ∀ (ws : List (List Int)) (c : Int), (colI v i ws c).length ≤ ws.length
  | [], _ => by simp [colI]
  | w :: ws, c => by
    have ih := colI_len v i ws (c + 1)
    rw [colI]
    split
    · simp only [List.length_cons]; omega
    · simp only [List.length_cons]; omega
theorem one_len (c : Int) : ∀ (tl : List Int) (i : Nat) (rs : List (List Int)), (impl_WeighingsOf.one c tl i rs).length = rs.length
  | [], i, rs => rfl
  | a :: tl, i, rs => by
    rw [impl_WeighingsOf.one, one_len c tl (i + 1)]
    split
    · simp
    · split <;> simp
theorem all_len : ∀ (ws : List (List Int)) (c : Int) (rs : List (List Int)), (impl_WeighingsOf.all ws c rs).length = rs.length
  | [], c, rs => rfl
  | w :: ws, c, rs => by rw [impl_WeighingsOf.all, all_len ws (c + 1), one_len]
theorem getD_set_ne {rs : List (List Int)} {s t : Nat} {x : List Int} (h : s ≠ t) : (rs.set s x).getD t [] = rs.getD t [] := by
  simp [List.getD_eq_getElem?_getD, List.getElem?_set, h]
theorem getD_set_eq {rs : List (List Int)} {s : Nat} {x : List Int} (h : s < rs.length) : (rs.set s x).getD s [] = x := by
  simp [List.getD_eq_getElem?_getD, List.getElem?_set, h]
theorem one_low (c : Int) : ∀ (tl : List Int) (i : Nat) (rs : List (List Int)) (t : Nat), t < 2 * i → (impl_WeighingsOf.one c tl i rs).getD t [] = rs.getD t []
  | [], i, rs, t, _ => rfl
  | a :: tl, i, rs, t, h => by
    rw [impl_WeighingsOf.one, one_low c tl (i + 1) _ t (by omega)]
    split
    · exact getD_set_ne (by omega)
    · split
      · exact getD_set_ne (by omega)
      · rfl
theorem one_at (c : Int) : ∀ (tl : List Int) (i : Nat) (rs : List (List Int)) (j : Nat), j < tl.length → 2 * (i + tl.length) ≤ rs.length →
    (impl_WeighingsOf.one c tl i rs).getD (2 * (i + j)) [] = rs.getD (2 * (i + j)) [] ++ (if tl.getD j 0 = 1 then [c] else []) ∧
    (impl_WeighingsOf.one c tl i rs).getD (2 * (i + j) + 1) [] = rs.getD (2 * (i + j) + 1) [] ++ (if tl.getD j 0 = -1 then [c] else [])
  | [], i, rs, j, h, _ => absurd h (by simp)
  | a :: tl, i, rs, 0, h, hl => by
    simp only [List.length_cons] at hl
    rw [impl_WeighingsOf.one, one_low c tl (i + 1) _ _ (by omega), one_low c tl (i + 1) _ _ (by omega)]
    simp only [List.getD_cons_zero, Nat.add_zero]
    by_cases h1 : a = 1
    · rw [if_pos h1, if_pos h1, if_neg (by omega), getD_set_eq (by omega), getD_set_ne (by omega)]
      simp
    · rw [if_neg h1, if_neg h1]
      by_cases h2 : a = -1
      · rw [if_pos h2, if_pos h2, getD_set_eq (by omega), getD_set_ne (by omega)]
        simp
      · rw [if_neg h2, if_neg h2]
        simp
  | a :: tl, i, rs, j + 1, h, hl => by
    simp only [List.length_cons] at hl h
    rw [impl_WeighingsOf.one, show i + (j + 1) = (i + 1) + j by omega]
    have len : (if a = 1 then rs.set (2 * i) (rs.getD (2 * i) [] ++ [c]) else if a = -1 then rs.set (2 * i + 1) (rs.getD (2 * i + 1) [] ++ [c]) else rs).length = rs.length := by
      split
      · simp
      · split <;> simp
    have low : ∀ t, 2 * (i + 1) ≤ t → (if a = 1 then rs.set (2 * i) (rs.getD (2 * i) [] ++ [c]) else if a = -1 then rs.set (2 * i + 1) (rs.getD (2 * i + 1) [] ++ [c]) else rs).getD t [] = rs.getD t [] := by
      intro t ht
      split
      · exact getD_set_ne (by omega)
      · split
        · exact getD_set_ne (by omega)
        · rfl
    have := one_at c tl (i + 1) (if a = 1 then rs.set (2 * i) (rs.getD (2 * i) [] ++ [c]) else if a = -1 then rs.set (2 * i + 1) (rs.getD (2 * i + 1) [] ++ [c]) else rs) j (by omega) (by rw [len]; omega)
    rw [low _ (by omega), low _ (by omega)] at this
    simpa using this
theorem all_at (m : Nat) (i : Nat) (hi : i < m) : ∀ (ws : List (List Int)) (c : Int) (rs : List (List Int)), (∀ w ∈ ws, w.length = m) → rs.length = 2 * m →
    (impl_WeighingsOf.all ws c rs).getD (2 * i) [] = rs.getD (2 * i) [] ++ colI 1 i ws c ∧
    (impl_WeighingsOf.all ws c rs).getD (2 * i + 1) [] = rs.getD (2 * i + 1) [] ++ colI (-1) i ws c
  | [], c, rs, _, _ => by simp [impl_WeighingsOf.all, colI]
  | w :: ws, c, rs, hw, hl => by
    have hwl := hw w (by simp)
    obtain ⟨h1, h2⟩ := all_at m i hi ws (c + 1) (impl_WeighingsOf.one c w 0 rs) (fun x hx => hw x (by simp [hx])) (by rw [one_len]; exact hl)
    have h3 := one_at c w 0 rs i (by omega) (by omega)
    rw [Nat.zero_add] at h3
    rw [impl_WeighingsOf.all, h1, h2, h3.1, h3.2, colI, colI]
    constructor
    · split <;> simp
    · split <;> simp
/-- What WeighingsOf gives, place by place. -/
def weighL (l : List (List Int)) (m : Nat) : List S29 := (List.range m).map fun i => ⟨colI 1 i l 0, colI (-1) i l 0⟩
theorem pairs_all (l : List (List Int)) (m : Nat) (hw : ∀ w ∈ l, w.length = m) : impl_WeighingsOf.pairs (impl_WeighingsOf.all l 0 (List.replicate (2 * m) [])) m = weighL l m := by
  unfold impl_WeighingsOf.pairs weighL
  apply List.map_congr_left
  intro i hi
  have hi := List.mem_range.1 hi
  obtain ⟨h1, h2⟩ := all_at m i hi l 0 (List.replicate (2 * m) []) hw (by simp)
  have e : ∀ t, (List.replicate (2 * m) ([] : List Int)).getD t [] = [] := by
    intro t
    rw [List.getD_eq_getElem?_getD, List.getElem?_replicate]
    split <;> rfl
  rw [h1, h2, e, e, List.nil_append, List.nil_append]

theorem colI_snoc (v : Int) (i : Nat) : ∀ (ws : List (List Int)) (w : List Int) (c : Int), colI v i (ws ++ [w]) c = colI v i ws c ++ (if w.getD i 0 = v then [c + ws.length] else [])
  | [], w, c => by simp [colI]
  | x :: ws, w, c => by
    have ih := colI_snoc v i ws w (c + 1)
    simp only [List.cons_append, colI, ih]
    rw [show c + 1 + (ws.length : Int) = c + ((x :: ws).length : Nat) by simp only [List.length_cons]; omega]
    split <;> simp
theorem spec_WeighingsOf_l1 (l : List (List Int)) (m p : Nat) (hl : l.length ≤ 1048576) (hw : ∀ y ∈ l, y.length = m) (hp : p < m) (x4 : List S29) (h4 : x4.length ≤ 1048576) (hm : m ≤ 1048576) (z : List S29 × Bool) (hz : Ev (fun k => spec_WeighingsOf.l0 k l (x4 ++ [⟨colI 1 p l 0, colI (-1) p l 0⟩]) (m : Int) ((p + 1 : Nat) : Int)) z) :
    ∀ (d i : Nat), i + d = l.length → Ev (fun k => spec_WeighingsOf.l1 k l x4 (p : Int) (m : Int) (p : Int) l (l.length : Int) (i : Int) (colI 1 p (l.take i) 0) (colI (-1) p (l.take i) 0)) z := by
  intro d
  induction d with
  | zero =>
    intro i hi
    apply Ev.succ
    simp only [spec_WeighingsOf.l1.eq_2]
    rw [List.take_of_length_le (by omega)]
    refine Ev.neg (by omega) (Ev.pos (by omega) ?_)
    rw [w64 (n := (p : Int) + 1) (by omega) (by omega), show (p : Int) + 1 = ((p + 1 : Nat) : Int) by omega]
    exact hz
  | succ d ih =>
    intro i hi
    have hlt : i < l.length := by omega
    have hli := hw l[i] (List.getElem_mem hlt)
    have b1 := colI_len 1 p (l.take i) 0
    have b2 := colI_len (-1) p (l.take i) 0
    rw [List.length_take] at b1 b2
    have er : rd l[i] (p : Int) = l[i].getD p 0 := by simp [rd]
    have ih := ih (i + 1) (by omega)
    rw [take_snoc l i hlt, colI_snoc, colI_snoc, List.length_take, Nat.min_eq_left (by omega), Int.zero_add] at ih
    apply Ev.succ
    simp only [spec_WeighingsOf.l1.eq_2, rdL_get l i hlt, er]
    refine Ev.pos (by omega) (Ev.pos (by omega) (Ev.pos (by omega) (Ev.pos (by omega) (Ev.pos (by omega) ?_))))
    rw [w64 (n := (i : Int) + 1) (by omega) (by omega), show (i : Int) + 1 = ((i + 1 : Nat) : Int) by omega]
    by_cases h1 : l[i].getD p 0 = 1
    · rw [if_pos h1, if_neg (by omega), List.append_nil] at ih
      refine Ev.pos h1 (Ev.pos (by omega) (Ev.bindc rfl (Ev.neg (by omega) ih)))
    · rw [if_neg h1, List.append_nil] at ih
      refine Ev.neg h1 ?_
      by_cases h2 : l[i].getD p 0 = -1
      · rw [if_pos h2] at ih
        exact Ev.pos h2 (Ev.pos (by omega) ih)
      · rw [if_neg h2, List.append_nil] at ih
        exact Ev.neg h2 ih
theorem spec_WeighingsOf_l0 (l : List (List Int)) (m : Nat) (hl : l.length ≤ 1048576) (hw : ∀ y ∈ l, y.length = m) (hm : m ≤ 1048576) : ∀ (d i : Nat), i + d = m → Ev (fun k => spec_WeighingsOf.l0 k l (weighL l i) (m : Int) (i : Int)) (weighL l m, true) := by
  intro d
  induction d with
  | zero =>
    intro i hi
    obtain rfl : i = m := by omega
    apply Ev.succ
    simp only [spec_WeighingsOf.l0.eq_2]
    exact Ev.neg (by omega) (Ev.now _)
  | succ d ih =>
    intro i hi
    apply Ev.succ
    simp only [spec_WeighingsOf.l0.eq_2]
    refine Ev.pos (by omega) ?_
    refine spec_WeighingsOf_l1 l m i hl hw (by omega) _ (by simp [weighL]; omega) hm _ ?_ l.length 0 (by omega)
    have e : weighL l i ++ [⟨colI 1 i l 0, colI (-1) i l 0⟩] = weighL l (i + 1) := by
      unfold weighL
      rw [List.range_succ, List.map_append]
      rfl
    rw [e]
    exact ih (i + 1) (by omega)
theorem spec_WeighingsOf_ev (l : List (List Int)) (hl : l.length ≤ 1048576) (hw : ∀ y ∈ l, y.length ≤ 1048576) : Ev (fun k => spec_WeighingsOf.f k l) (weighsB l) := by
  simp only [spec_WeighingsOf.f]
  unfold weighsB
  refine Ev.bind (spec_l8Words_ev l hl hw) (Ev.ite (fun h => ?_) (fun h => Ev.ret (by rw [if_neg h])))
  rw [if_pos h]
  have hwd := (wordsB_iff l).1 h
  have e0 : l.getD 0 [] = l[0]'hwd.1 := by simp [List.getD_eq_getElem?_getD, List.getElem?_eq_getElem hwd.1]
  have e1 : rd_L1 l 0 = l.getD 0 [] := by rw [e0]; exact rdL_get l 0 hwd.1
  rw [e1, pairs_all l _ (fun w hm => (hwd.2 w hm).2)]
  refine Ev.pos (by omega) ?_
  have hm : (l.getD 0 []).length ≤ 1048576 := by rw [e0]; exact hw _ (List.getElem_mem _)
  exact spec_WeighingsOf_l0 l _ hl (fun w hm => (hwd.2 w hm).2) hm (l.getD 0 []).length 0 (by omega)

theorem impl_IsTrit_eq (a : Int) : impl_IsTrit.f a = some (isTrit a) := by
  unfold impl_IsTrit.f isTrit
  by_cases h : -1 ≤ a
  · rw [if_pos (by omega)]; simp [h]
  · rw [if_neg (by omega)]; simp [h]

theorem impl_trits_l (x : List Int) (hn : x.length ≤ 35184372088832) : ∀ (d i : Nat), i + d = x.length → Ev (fun k => impl_trits.l0 k x x.length i) ((x.drop i).all isTrit) := by
  intro d
  induction d with
  | zero =>
    intro i hi
    apply Ev.succ
    simp only [impl_trits.l0.eq_2]
    refine Ev.neg (by omega) (Ev.ret ?_)
    rw [List.drop_eq_nil_of_le (by omega)]; rfl
  | succ d ih =>
    intro i hi
    apply Ev.succ
    simp only [impl_trits.l0.eq_2, impl_IsTrit_eq, Option.bind_some]
    refine Ev.pos (by omega) (Ev.pos (by omega) (Ev.pos (by omega) ?_))
    rw [rd_get x i (by omega), drop_cons x i (by omega), List.all_cons, w64 (by omega) (by omega)]
    refine Ev.ite (fun h => ?_) (fun h => Ev.ret ?_)
    · exact evTo (ih (i + 1) (by omega)) (by rw [h, Bool.true_and])
    · rw [Bool.not_eq_true] at h; rw [h, Bool.false_and]
theorem impl_trits_ev (x : List Int) (hn : x.length ≤ 35184372088832) : Ev (fun k => impl_trits.f k x) (x.all isTrit) := by
  simp only [impl_trits.f]
  exact impl_trits_l x hn x.length 0 (by omega)

theorem impl_IsWord_ev (x : List Int) : Ev (fun k => impl_IsWord.f k x) (isWord x) := by
  simp only [impl_IsWord.f, isWord]
  refine Ev.ite (fun h => Ev.ite (fun h1 => ?_) (fun h1 => Ev.ret ?_)) (fun h => Ev.ret ?_)
  · refine Ev.bind (impl_trits_ev x (by omega)) (Ev.ret ?_)
    rw [decide_eq_true (by omega), Bool.true_and]
  · rw [decide_eq_false (by omega), Bool.false_and]
  · rw [decide_eq_false (by omega), Bool.false_and]

theorem anyO_ev {α : Type} {g : Nat → α → Option Bool} {p : α → Bool} : ∀ (l : List α), (∀ x ∈ l, Ev (fun k => g k x) (p x)) → Ev (fun k => Go.Proofs.Ytffohdlbkigehaa.Any.anyO (g k) l) (l.any p)
  | [], _ => Ev.now _
  | x :: xs, h => by
    simp only [Go.Proofs.Ytffohdlbkigehaa.Any.anyO]
    exact Ev.bind (h x List.mem_cons_self) (Ev.bind (anyO_ev xs (fun y hy => h y (List.mem_cons_of_mem _ hy))) (Ev.ret (by rw [List.any_cons])))
theorem not_any_not {α : Type} (p : α → Bool) (l : List α) : (!l.any fun x => !p x) = l.all p := by
  induction l with
  | nil => rfl
  | cons x xs ih => rw [List.any_cons, List.all_cons, ← ih]; simp

theorem impl_sameLength_ev (l : List (List Int)) : Ev (fun k => impl_sameLength.f k l) (wordsB l) := by
  simp only [impl_sameLength.f]
  unfold wordsB
  refine Ev.ite (fun h => ?_) (fun h => Ev.ret ?_)
  · rw [decide_eq_true (by omega : 0 < l.length), Bool.true_and]
    refine Ev.bind (anyO_ev (p := fun x => !(isWord x && decide (x.length = (l.getD 0 []).length))) l (fun x _ => Ev.bind (impl_IsWord_ev x) (Ev.ret ?_))) (Ev.ret (not_any_not _ _))
    cases isWord x <;> simp
  · rw [decide_eq_false (by omega), Bool.false_and]

theorem impl_WeighingsOf_ev' (l : List (List Int)) (hl : wordsB l = true → l.length ≤ 1000000) : Ev (fun k => impl_WeighingsOf.f k l) (weighsB l) := by
  simp only [impl_WeighingsOf.f]
  unfold weighsB
  refine Ev.bind (impl_sameLength_ev l) (Ev.ite (fun h => ?_) (fun h => Ev.ret (by rw [if_neg h])))
  rw [if_pos h]
  have hw := (wordsB_iff l).1 h
  have e0 : l.getD 0 [] = l[0]'hw.1 := by simp [List.getD_eq_getElem?_getD, List.getElem?_eq_getElem hw.1]
  have h0 := (isWord_iff _).1 (hw.2 _ (List.getElem_mem hw.1)).1
  exact Ev.pos ⟨hw.1, hl h, by rw [e0]; omega, fun w hm => (hw.2 w hm).2⟩ (Ev.now _)
theorem impl_WeighingsOf_ev (l : List (List Int)) (hl : l.length ≤ 1000000) : Ev (fun k => impl_WeighingsOf.f k l) (weighsB l) := impl_WeighingsOf_ev' l (fun _ => hl)

theorem laws_eqWeighing_ev (a b c d : List Int) (h1 : a.length ≤ 35184372088832) (h2 : b.length ≤ 35184372088832) : Ev (fun k => laws_eqWeighing.f k a b c d) (decide (a = c ∧ b = d)) := by
  simp only [laws_eqWeighing.f]
  refine Ev.bind (laws_eqIntS_ev a c h1) ?_
  refine Ev.ite (fun h => ?_) (fun h => Ev.ret ?_)
  · have h := of_decide_eq_true h
    refine Ev.bind (laws_eqIntS_ev b d h2) ?_
    refine Ev.ite (fun h' => ?_) (fun h' => Ev.ret ?_)
    · have h' := of_decide_eq_true h'
      exact Ev.ret (by simp [h, h'])
    · have h' : ¬ b = d := fun e => h' (decide_eq_true e)
      simp [h']
  · have h : ¬ a = c := fun e => h (decide_eq_true e)
    simp [h]

theorem rdW_get (xs : List S29) (i : Nat) (h : i < xs.length) : rd_T29 xs (i : Int) = xs[i] := by
  simp [rd_T29, List.getD_eq_getElem?_getD, List.getElem?_eq_getElem h]
theorem laws_eqWeighingS_l (l : List S29) (hl : l.length ≤ 1048576) (hw : ∀ y ∈ l, y.f0.length ≤ 1048576 ∧ y.f1.length ≤ 1048576) : ∀ (d i : Nat), i + d = l.length → Ev (fun k => laws_eqWeighingS.l0 k l l i) true := by
  intro d
  induction d with
  | zero =>
    intro i hi
    apply Ev.succ
    simp only [laws_eqWeighingS.l0.eq_2]
    exact Ev.neg (by omega) (Ev.now _)
  | succ d ihd =>
    intro i hi
    have hlt : i < l.length := by omega
    have hb := hw _ (List.getElem_mem hlt)
    apply Ev.succ
    simp only [laws_eqWeighingS.l0.eq_2]
    refine Ev.pos (by omega) (Ev.pos (by omega) (Ev.pos (by omega) ?_))
    rw [w64 (by omega) (by omega), rdW_get l i hlt]
    refine Ev.bind (laws_eqWeighing_ev _ _ _ _ (by omega) (by omega)) (Ev.pos (by simp) ?_)
    exact ihd (i + 1) (by omega)
theorem laws_eqWeighingS_ev (l : List S29) (hl : l.length ≤ 1048576) (hw : ∀ y ∈ l, y.f0.length ≤ 1048576 ∧ y.f1.length ≤ 1048576) : Ev (fun k => laws_eqWeighingS.f k l l) true := by
  simp only [laws_eqWeighingS.f]
  exact Ev.pos trivial (laws_eqWeighingS_l l hl hw l.length 0 (by omega))

theorem laws_markWeighingS_s : ∀ (l : List (List Int)) (a : Int) (_ : 0 ≤ a) (_ : a + tot l ≤ 1000000000000) (_ : ∀ y ∈ l, y.length ≤ 1048576), Ev (fun k => laws_markWeighingS.s k l a) (a + tot l, markedR l a)
  | [], a, _, _, _ => Ev.ret (by simp [tot, markedR])
  | x :: xs, a, h0, h1, hw => by
    have hx := hw x (by simp)
    simp only [tot] at h1
    simp only [laws_markWeighingS.s]
    refine Ev.bind (laws_markIntS_ev x a h0 (by omega) (by omega)) (Ev.bind (laws_markWeighingS_s xs (a + x.length) (by omega) (by omega) (fun y hy => hw y (by simp [hy]))) (Ev.ret ?_))
    simp only [tot, markedR]
    congr 1
    omega

theorem laws_heldIntS_l (n : Nat) (a : Int) (ha0 : 0 ≤ a) (ha : a ≤ 1000000000000000) (hn : n ≤ 35184372088832) : ∀ (d i : Nat), i + d = n → Ev (fun k => laws_heldIntS.l0 k (marked n a) (a + i) i) (a + n) := by
  intro d
  induction d with
  | zero =>
    intro i hi
    apply Ev.succ
    simp only [laws_heldIntS.l0.eq_2, marked_length]
    refine Ev.neg (by omega) (Ev.ret (by omega))
  | succ d ih =>
    intro i hi
    apply Ev.succ
    simp only [laws_heldIntS.l0.eq_2, marked_length]
    refine Ev.pos (by omega) (Ev.pos (by omega) (Ev.pos ?_ ?_))
    · rw [rd_get _ i (by rw [marked_length]; omega)]; simp [marked]
    · rw [w64 (by omega) (by omega), w64 (by omega) (by omega)]
      have e1 : a + (i : Int) + 1 = a + ((i + 1 : Nat) : Int) := by omega
      rw [e1]
      exact ih (i + 1) (by omega)
theorem laws_heldIntS_ev (n : Nat) (a : Int) (ha0 : 0 ≤ a) (ha : a ≤ 1000000000000000) (hn : n ≤ 35184372088832) : Ev (fun k => laws_heldIntS.f k (marked n a) a) (a + n) := by
  have h := laws_heldIntS_l n a ha0 ha hn n 0 (by omega)
  simp only [laws_heldIntS.f]
  simpa using h

theorem markedR_length : ∀ (l : List (List Int)) (a : Int), (markedR l a).length = l.length
  | [], _ => rfl
  | x :: l, a => by simp [markedR, markedR_length l]
theorem markedR_drop : ∀ (l : List (List Int)) (a : Int) (i : Nat) (h : i < l.length), (markedR l a)[i]'(by rw [markedR_length]; exact h) = marked l[i].length (a + (tot (l.take i) : Nat))
  | x :: l, a, 0, h => by simp [markedR, tot]
  | x :: l, a, i + 1, h => by
    have ih := markedR_drop l (a + x.length) i (by simpa using h)
    simp only [markedR, List.getElem_cons_succ, ih, List.take_succ_cons, tot]
    congr 1
    omega
theorem tot_take_succ : ∀ (l : List (List Int)) (i : Nat) (h : i < l.length), tot (l.take (i + 1)) = tot (l.take i) + l[i].length
  | x :: l, 0, h => by simp [tot]
  | x :: l, i + 1, h => by
    have ih := tot_take_succ l i (by simpa using h)
    simp only [List.take_succ_cons, tot, ih, List.getElem_cons_succ]
    omega
theorem tot_take_le : ∀ (l : List (List Int)) (i : Nat), tot (l.take i) ≤ tot l
  | [], i => by simp [tot]
  | x :: l, 0 => by simp [tot]
  | x :: l, i + 1 => by
    have ih := tot_take_le l i
    simp only [List.take_succ_cons, tot]; omega

theorem pairs_get (rs : List (List Int)) (m i : Nat) (h : i < m) (hr : rs.length = 2 * m) : rd_T29 (impl_WeighingsOf.pairs rs m) (i : Int) = ⟨rs[2 * i]'(by omega), rs[2 * i + 1]'(by omega)⟩ := by
  have h0 : 2 * i < rs.length := by omega
  have h1 : 2 * i + 1 < rs.length := by omega
  simp [rd_T29, impl_WeighingsOf.pairs, h, h0, h1]
theorem laws_heldWeighingS_l (l : List (List Int)) (m : Nat) (hm : l.length = 2 * m) (a : Int) (h0 : 0 ≤ a) (h1 : a + tot l ≤ 1000000000000) (hw : ∀ y ∈ l, y.length ≤ 1048576) (hl : l.length ≤ 1000000000) : ∀ (d i : Nat), i + d = m → Ev (fun k => laws_heldWeighingS.l0 k (impl_WeighingsOf.pairs (markedR l a) m) (a + (tot (l.take (2 * i)) : Nat)) i) (a + tot l) := by
  have hpl : (impl_WeighingsOf.pairs (markedR l a) m).length = m := by simp [impl_WeighingsOf.pairs]
  intro d
  induction d with
  | zero =>
    intro i hi
    apply Ev.succ
    simp only [laws_heldWeighingS.l0.eq_2]
    refine Ev.neg (by rw [hpl]; omega) (Ev.ret ?_)
    rw [List.take_of_length_le (by omega)]
  | succ d ih =>
    intro i hi
    have hil : 2 * i < l.length := by omega
    have hil1 : 2 * i + 1 < l.length := by omega
    have hsu := tot_take_succ l (2 * i) hil
    have hsu1 := tot_take_succ l (2 * i + 1) hil1
    have hle := tot_take_le l (2 * i + 1 + 1)
    have hx := hw l[2 * i] (List.getElem_mem _)
    have hx1 := hw l[2 * i + 1] (List.getElem_mem _)
    apply Ev.succ
    simp only [laws_heldWeighingS.l0.eq_2]
    rw [pairs_get (markedR l a) m i (by omega) (by rw [markedR_length]; exact hm), w64 (n := (i : Int) + 1) (by omega) (by omega)]
    dsimp only
    rw [markedR_drop l a (2 * i) hil, markedR_drop l a (2 * i + 1) hil1]
    refine Ev.pos (by rw [hpl]; omega) (Ev.pos (by omega) ?_)
    refine Ev.bind (laws_heldIntS_ev l[2 * i].length (a + (tot (l.take (2 * i)) : Nat)) (by omega) (by omega) (by omega)) (Ev.neg (by omega) ?_)
    have e : a + (tot (l.take (2 * i)) : Nat) + (l[2 * i].length : Int) = a + (tot (l.take (2 * i + 1)) : Nat) := by rw [hsu]; omega
    rw [e]
    refine Ev.bind (laws_heldIntS_ev l[2 * i + 1].length (a + (tot (l.take (2 * i + 1)) : Nat)) (by omega) (by omega) (by omega)) (Ev.neg (by omega) ?_)
    have e1 : a + (tot (l.take (2 * i + 1)) : Nat) + (l[2 * i + 1].length : Int) = a + (tot (l.take (2 * (i + 1))) : Nat) := by rw [show 2 * (i + 1) = 2 * i + 1 + 1 by omega, hsu1]; omega
    rw [e1, show (i : Int) + 1 = ((i + 1 : Nat) : Int) by omega]
    exact ih (i + 1) (by omega)
theorem laws_heldWeighingS_ev (l : List (List Int)) (m : Nat) (hm : l.length = 2 * m) (a : Int) (h0 : 0 ≤ a) (h1 : a + tot l ≤ 1000000000000) (hw : ∀ y ∈ l, y.length ≤ 1048576) (hl : l.length ≤ 1000000000) : Ev (fun k => laws_heldWeighingS.f k (impl_WeighingsOf.pairs (markedR l a) m) a) (a + tot l) := by
  simp only [laws_heldWeighingS.f]
  have := laws_heldWeighingS_l l m hm a h0 h1 hw hl m 0 (by omega)
  simpa [tot] using this

end Go.Proofs.Ytffohdlbkigehaa.LemFnExactWeighingsOf
