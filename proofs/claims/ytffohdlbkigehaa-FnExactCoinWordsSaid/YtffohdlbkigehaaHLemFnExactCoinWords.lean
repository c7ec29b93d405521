/- Lemmas: what each function that this statement reaches computes. -/
import Derived.Test.YtffohdlbkigehaaHOpFnExactCoinWords
import Derived.Test.YtffohdlbkigehaaBase
import Derived.Test.YtffohdlbkigehaaCoinM
import Derived.Test.YtffohdlbkigehaaTurnM
import Derived.Test.YtffohdlbkigehaaWordM
set_option linter.unusedVariables false
set_option linter.unusedSimpArgs false
namespace Go.Proofs.Ytffohdlbkigehaa.LemFnExactCoinWords
open Go.RowKit Go.Proofs.YtffohdlbkigehaaW.PrintWords Go.Proofs.YtffohdlbkigehaaW.PrintLast Go.Proofs.YtffohdlbkigehaaW.PrintMore Go.Proofs.Ytffohdlbkigehaa.HFnExactCoinWords Go.Proofs.Ytffohdlbkigehaa.Base

theorem laws_eqIntS_l (x0 x1 : List Int) (hl : x0.length = x1.length) (hn : x0.length ≤ 35184372088832) : ∀ (d i : Nat), i + d = x0.length → Ev (fun k => laws_eqIntS.l0 k x0 x1 i) (decide (x0.drop i = x1.drop i)) := by
  intro d
  induction d with
  | zero =>
    intro i hi
    apply Ev.succ
    simp only [laws_eqIntS.l0.eq_2]
    refine Ev.neg (by omega) (Ev.ret ?_)
    rw [List.drop_eq_nil_of_le (by omega), List.drop_eq_nil_of_le (by omega)]; simp
  | succ d ih =>
    intro i hi
    apply Ev.succ
    simp only [laws_eqIntS.l0.eq_2]
    refine Ev.pos (by omega) (Ev.pos (by omega) (Ev.pos (by omega) ?_))
    rw [rd_get x0 i (by omega), rd_get x1 i (by omega), drop_cons x0 i (by omega), drop_cons x1 i (by omega)]
    refine Ev.ite (fun h => ?_) (fun h => ?_)
    · rw [w64 (by omega) (by omega)]
      exact evTo (ih (i + 1) (by omega)) (by simp only [List.cons.injEq, h, true_and])
    · exact Ev.ret (by simp only [List.cons.injEq, h, false_and, decide_false])
theorem laws_eqIntS_ev (x0 x1 : List Int) (hn : x0.length ≤ 35184372088832) : Ev (fun k => laws_eqIntS.f k x0 x1) (decide (x0 = x1)) := by
  simp only [laws_eqIntS.f]
  refine Ev.ite (fun h => ?_) (fun h => Ev.ret ?_)
  · exact evTo (laws_eqIntS_l x0 x1 (by omega) hn x0.length 0 (by omega)) (by simp)
  · symm; rw [decide_eq_false_iff_not]; intro e; rw [e] at h; exact h rfl

theorem rdL_get (xs : List (List Int)) (i : Nat) (h : i < xs.length) : rd_L1 xs (i : Int) = xs[i] := by
  simp [rd_L1, List.getD_eq_getElem?_getD, List.getElem?_eq_getElem h]
/-- All numbers of all rows. -/
def tot : List (List Int) → Nat
  | [] => 0
  | x :: xs => x.length + tot xs
theorem tot_drop (xs : List (List Int)) (i : Nat) (h : i < xs.length) : tot (xs.drop i) = xs[i].length + tot (xs.drop (i + 1)) := by
  rw [drop_cons xs i h, tot]
theorem tot_mem {l : List (List Int)} {x : List Int} (h : x ∈ l) : x.length ≤ tot l := by
  induction l with
  | nil => simp at h
  | cons y ys ih =>
    rw [tot]
    rcases List.mem_cons.1 h with rfl | h
    · omega
    · have := ih h; omega

theorem laws_eqIntSS_l (l : List (List Int)) (hl : l.length ≤ 1048576) (hw : ∀ y ∈ l, y.length ≤ 1048576) : ∀ (d i : Nat), i + d = l.length → Ev (fun k => laws_eqIntSS.l0 k l l i) true := by
  intro d
  induction d with
  | zero =>
    intro i hi
    apply Ev.succ
    simp only [laws_eqIntSS.l0.eq_2]
    exact Ev.neg (by omega) (Ev.now _)
  | succ d ihd =>
    intro i hi
    have hlt : i < l.length := by omega
    apply Ev.succ
    simp only [laws_eqIntSS.l0.eq_2]
    refine Ev.pos (by omega) (Ev.pos (by omega) (Ev.pos (by omega) ?_))
    rw [w64 (by omega) (by omega), rdL_get l i hlt]
    refine Ev.bind (laws_eqIntS_ev _ _ (by have := hw _ (List.getElem_mem hlt); omega)) (Ev.pos (by simp) ?_)
    exact ihd (i + 1) (by omega)
theorem laws_eqIntSS_ev (l : List (List Int)) (hl : l.length ≤ 1048576) (hw : ∀ y ∈ l, y.length ≤ 1048576) : Ev (fun k => laws_eqIntSS.f k l l) true := by
  simp only [laws_eqIntSS.f]
  exact Ev.pos trivial (laws_eqIntSS_l l hl hw l.length 0 (by omega))

theorem laws_markIntS_l (n : Nat) (a : Int) (ha0 : 0 ≤ a) (ha : a ≤ 1000000000000000) (hn : n ≤ 35184372088832) : ∀ (d i : Nat) (x0 : List Int), i + d = n → x0.length = n → Ev (fun k => laws_markIntS.l0 k x0 (a + i) i) (a + n, x0.take i ++ (marked n a).drop i) := by
  intro d
  induction d with
  | zero =>
    intro i x0 hi hx
    apply Ev.succ
    simp only [laws_markIntS.l0.eq_2]
    refine Ev.neg (by omega) (Ev.ret ?_)
    rw [List.drop_eq_nil_of_le (by rw [marked_length]; omega), List.take_of_length_le (by omega)]
    simp; omega
  | succ d ih =>
    intro i x0 hi hx
    apply Ev.succ
    simp only [laws_markIntS.l0.eq_2]
    refine Ev.pos (by omega) (Ev.pos (by omega) ?_)
    rw [w64 (by omega) (by omega), w64 (by omega) (by omega)]
    have e1 : a + (i : Int) + 1 = a + ((i + 1 : Nat) : Int) := by omega
    rw [e1]
    refine evTo (ih (i + 1) _ (by omega) (by simp [hx])) ?_
    refine congrArg (Prod.mk _) ?_
    rw [take_snoc _ i (by simp; omega), drop_cons (marked n a) i (by rw [marked_length]; omega)]
    simp [marked, List.take_set_of_le]
theorem laws_markIntS_ev (x0 : List Int) (a : Int) (ha0 : 0 ≤ a) (ha : a ≤ 1000000000000000) (hn : x0.length ≤ 35184372088832) : Ev (fun k => laws_markIntS.f k x0 a) (a + x0.length, marked x0.length a) := by
  have h := laws_markIntS_l x0.length a ha0 ha hn x0.length 0 x0 (by omega) rfl
  simp only [laws_markIntS.f]
  simpa using h

def markedR : List (List Int) → Int → List (List Int)
  | [], _ => []
  | x :: xs, a => marked x.length a :: markedR xs (a + x.length)
theorem laws_markIntSS_s : ∀ (l : List (List Int)) (a : Int) (_ : 0 ≤ a) (_ : a + tot l ≤ 1000000000000) (_ : ∀ y ∈ l, y.length ≤ 1048576), Ev (fun k => laws_markIntSS.s k l a) (a + tot l, markedR l a)
  | [], a, _, _, _ => Ev.ret (by simp [tot, markedR])
  | x :: xs, a, h0, h1, hw => by
    have hx := hw x (by simp)
    simp only [tot] at h1
    simp only [laws_markIntSS.s]
    refine Ev.bind (laws_markIntS_ev x a h0 (by omega) (by omega)) (Ev.bind (laws_markIntSS_s xs (a + x.length) (by omega) (by omega) (fun y hy => hw y (by simp [hy]))) (Ev.ret ?_))
    simp only [tot, markedR]
    congr 1
    omega
theorem laws_markIntSS_ev (l : List (List Int)) (a : Int) (h0 : 0 ≤ a) (h1 : a + tot l ≤ 1000000000000) (hw : ∀ y ∈ l, y.length ≤ 1048576) : Ev (fun k => laws_markIntSS.f k l a) (a + tot l) := by
  simp only [laws_markIntSS.f]
  exact Ev.bind (laws_markIntSS_s l a h0 h1 hw) (Ev.now _)

theorem spec_l1In_eq (a b c : Int) : spec_l1In.f a b c = some (decide (b ≤ a ∧ a ≤ c)) := by
  unfold spec_l1In.f
  by_cases h : b ≤ a
  · rw [if_pos (by omega)]; simp [h]
  · rw [if_neg (by omega)]; simp [h]

theorem spec_LimitOf_l (n : Nat) (hn : n ≤ 30) : ∀ (d i : Nat), i + d = n → Ev (fun k => spec_LimitOf.l0 k n (((3 : Int) ^ i - 1) / 2) i) (((3 : Int) ^ n - 1) / 2) := by
  intro d
  induction d with
  | zero =>
    intro i hi
    apply Ev.succ
    simp only [spec_LimitOf.l0.eq_2]
    refine Ev.neg (by omega) (Ev.ret ?_)
    rw [← hi]; rfl
  | succ d ih =>
    intro i hi
    apply Ev.succ
    simp only [spec_LimitOf.l0.eq_2]
    have h1 := pow3_30 (i := i + 1) (by omega)
    have h2 := pow3_pos i
    have h3 := pow3_lim i
    have h4 := pow3_lim (i + 1)
    rw [pow3_succ] at h1 h4
    refine Ev.pos (by omega) ?_
    rw [w64 (n := _ * _) (by omega) (by omega), w64 (by omega) (by omega), w64 (by omega) (by omega)]
    refine (ih (i + 1) (by omega)).congr (fun k => ?_)
    refine congrArg (fun z => spec_LimitOf.l0 k n z _) ?_
    rw [pow3_succ]; omega
theorem spec_LimitOf_ev (n : Int) : Ev (fun k => spec_LimitOf.f k n) (lim n) := by
  simp only [spec_LimitOf.f, spec_l1In_eq, Option.bind_some, decide_eq_true_eq]
  unfold lim
  refine Ev.ite (fun h => ?_) (fun h => Ev.ret (by rw [if_neg h]))
  obtain ⟨m, rfl⟩ : ∃ m : Nat, n = m := ⟨n.toNat, by omega⟩
  rw [if_pos h]
  exact spec_LimitOf_l m (by omega) m 0 (by omega)

theorem spec_CoinsFor_ev (k : Int) : Ev (fun n => spec_CoinsFor.f n k) (if 2 ≤ k ∧ k ≤ 5 then (3 ^ k.toNat - 3) / 2 else 0) := by
  simp only [spec_CoinsFor.f]
  refine Ev.bindc (spec_l1In_eq k 2 5) ?_
  by_cases h : 2 ≤ k ∧ k ≤ 5
  · rw [if_pos h]
    refine Ev.pos (by simpa using h) (Ev.bind (spec_LimitOf_ev k) (Ev.ret ?_))
    obtain ⟨n, rfl⟩ : ∃ n : Nat, k = n := ⟨k.toNat, by omega⟩
    have e := lim_eq n (by omega)
    have h1 := L3_pow n
    have h0 := L3_nonneg n
    have h30 := L3_30 (i := n) (by omega)
    rw [e, w64 (by omega) (by omega), Int.toNat_natCast]
    omega
  · rw [if_neg h]
    exact Ev.neg (by simpa using h) (Ev.now _)

theorem spec_l2Word_l (k : Nat) (hk : k ≤ 30) : ∀ (d i : Nat) (n : Int) (o : List Int), i + d = k → o.length = i → -100000000000000000 ≤ n → n ≤ 100000000000000000 → Ev (fun m => spec_l2Word.l0 m n k o i) (o ++ word d n) := by
  intro d
  induction d with
  | zero =>
    intro i n o hi ho h0 h1
    apply Ev.succ
    simp only [spec_l2Word.l0.eq_2]
    exact Ev.neg (by omega) (Ev.ret (by simp [word]))
  | succ d ih =>
    intro i n o hi ho h0 h1
    apply Ev.succ
    simp only [spec_l2Word.l0.eq_2]
    have ht : Int.tmod n 3 = if 0 ≤ n then n % 3 else -((-n) % 3) := by
      split
      · exact Int.tmod_eq_emod_of_nonneg (by omega)
      · have h : Int.tmod (-n) 3 = (-n) % 3 := Int.tmod_eq_emod_of_nonneg (by omega)
        rw [Int.neg_tmod] at h; omega
    generalize hr : Int.tmod n 3 = r at *
    have h2 : -2 ≤ r ∧ r ≤ 2 ∧ (r - n) % 3 = 0 := by split at ht <;> omega
    have next : ∀ s : Int, s = (n + 1) % 3 - 1 → Ev (fun m => spec_l2Word.l0 m (wrap64 (Int.tdiv (wrap64 (n - s)) 3)) k (o ++ [s]) (wrap64 ((i : Int) + 1))) (o ++ word (d + 1) n) := by
      intro s hs
      have e : Int.tdiv (n - s) 3 = (n + 1) / 3 := by
        rw [Int.tdiv_eq_ediv_of_dvd (Int.dvd_of_emod_eq_zero (by omega))]; omega
      rw [w64 (n := n - s) (by omega) (by omega), e, w64 (by omega) (by omega), w64 (by omega) (by omega)]
      refine evTo (ih (i + 1) ((n + 1) / 3) (o ++ [s]) (by omega) (by simp [ho]) (by omega) (by omega)) ?_
      rw [word, hs]; simp
    rw [w64 (n := r - 3) (by omega) (by omega), w64 (n := r + 3) (by omega) (by omega)]
    refine Ev.pos (by omega) (Ev.ite (fun c => Ev.neg (by omega) (Ev.pos (by omega) (next _ (by omega)))) (fun c => Ev.ite (fun c1 => Ev.pos (by omega) (next _ (by omega))) (fun c1 => Ev.pos (by omega) (next _ (by omega)))))
theorem spec_l2Word_ev (n : Int) (k : Nat) (hk : k ≤ 30) (h0 : -100000000000000000 ≤ n) (h1 : n ≤ 100000000000000000) : Ev (fun m => spec_l2Word.f m n k) (word k n) := by
  simp only [spec_l2Word.f]
  exact spec_l2Word_l k hk k 0 n [] (by omega) rfl h0 h1

theorem spec_IsTrit_eq (a : Int) : spec_IsTrit.f a = some (isTrit a) := by
  unfold spec_IsTrit.f isTrit
  rw [spec_l1In_eq]; rfl

theorem spec_TurnTrit_eq (a : Int) : spec_TurnTrit.f a = some (turn a) := by
  unfold spec_TurnTrit.f turn
  rw [spec_IsTrit_eq]
  simp only [Option.bind_some]
  by_cases h : isTrit a = true
  · rw [if_pos h, if_pos h]
    have ha := (isTrit_iff a).1 h
    by_cases h1 : a = 1
    · rw [if_pos h1, if_pos h1]
    · rw [if_neg h1, if_neg h1, w64 (by omega) (by omega)]
  · rw [if_neg h, if_neg h]

theorem spec_l8Forward_l (w : List Int) (hn : w.length ≤ 35184372088832) : ∀ (d i : Nat), i + 1 + d = w.length → Ev (fun k => spec_l8Forward.l0 k w ((i + 1 : Nat) : Int)) (fwd (w.drop i)) := by
  intro d
  induction d with
  | zero =>
    intro i hi
    apply Ev.succ
    simp only [spec_l8Forward.l0.eq_2]
    refine Ev.neg (by omega) (Ev.ret ?_)
    rw [drop_cons w i (by omega), List.drop_eq_nil_of_le (by omega), fwd_one]
  | succ d ih =>
    intro i hi
    apply Ev.succ
    simp only [spec_l8Forward.l0.eq_2]
    have e : ((i + 1 : Nat) : Int) - 1 = (i : Int) := by omega
    have h := ih (i + 1) (by omega)
    rw [drop_cons w (i + 1) (by omega)] at h
    rw [drop_cons w i (by omega), drop_cons w (i + 1) (by omega), fwd_two, w64 (n := ((i + 1 : Nat) : Int) - 1) (by omega) (by omega), e, rd_get w (i + 1) (by omega), rd_get w i (by omega), w64 (n := ((i + 1 : Nat) : Int) + 1) (by omega) (by omega)]
    refine Ev.pos (by omega) (Ev.pos (by omega) (Ev.pos (by omega) (Ev.pos (by omega) ?_)))
    refine Ev.ite (fun c => ?_) (fun c => ?_)
    · rw [if_pos c]; exact h
    · rw [if_neg c]; exact Ev.bindc (spec_TurnTrit_eq _) (Ev.now _)
theorem spec_l8Forward_ev (w : List Int) (h1 : 1 ≤ w.length) (hn : w.length ≤ 35184372088832) : Ev (fun k => spec_l8Forward.f k w) (fwd w) := by
  simp only [spec_l8Forward.f]
  exact spec_l8Forward_l w hn (w.length - 1) 0 (by omega)

theorem spec_l2Value_l (x : List Int) (hn : x.length ≤ 30) (ht : ∀ a ∈ x, -1 ≤ a ∧ a ≤ 1) : ∀ i : Nat, i ≤ x.length → Ev (fun k => spec_l2Value.l0 k x (val (x.drop i)) ((i : Int) - 1)) (val x) := by
  intro i
  induction i with
  | zero =>
    intro _
    apply Ev.succ
    simp only [spec_l2Value.l0.eq_2]
    exact Ev.neg (by omega) (Ev.ret (by simp))
  | succ i ih =>
    intro hi
    apply Ev.succ
    simp only [spec_l2Value.l0.eq_2]
    refine Ev.pos (by omega) (Ev.pos (by omega) (Ev.pos (by omega) ?_))
    have hr := val_range (x.drop (i + 1)) (fun a ha => ht a (List.mem_of_mem_drop ha))
    have hl := L3_30 (i := (x.drop (i + 1)).length) (by simp; omega)
    have hx := ht x[i] (List.getElem_mem _)
    have e1 : ((i + 1 : Nat) : Int) - 1 = (i : Int) := by omega
    rw [e1, rd_get x i (by omega), w64 (n := 3 * val (x.drop (i + 1))) (by omega) (by omega), w64 (by omega) (by omega), w64 (n := (i : Int) - 1) (by omega) (by omega)]
    have e2 : 3 * val (x.drop (i + 1)) + x[i] = val (x.drop i) := by
      rw [drop_cons x i (by omega), val]; omega
    rw [e2]
    exact ih (by omega)
theorem spec_l2Value_ev (x : List Int) (hn : x.length ≤ 30) (ht : ∀ a ∈ x, -1 ≤ a ∧ a ≤ 1) : Ev (fun k => spec_l2Value.f k x) (val x) := by
  simp only [spec_l2Value.f]
  rw [w64 (by omega) (by omega)]
  have h := spec_l2Value_l x hn ht x.length (Nat.le_refl _)
  rw [List.drop_length] at h
  exact h

theorem spec_l8Has_l (l : List (List Int)) (w : List Int) (hl : l.length ≤ 1000000000) (hx : ∀ x ∈ l, x.length ≤ 30 ∧ ∀ a ∈ x, -1 ≤ a ∧ a ≤ 1) (hw : w.length ≤ 30 ∧ ∀ a ∈ w, -1 ≤ a ∧ a ≤ 1) : ∀ (d i : Nat), i + d = l.length → Ev (fun k => spec_l8Has.l0 k w l l.length i) ((l.drop i).any (fun x => decide (val x = val w))) := by
  intro d
  induction d with
  | zero =>
    intro i hi
    apply Ev.succ
    simp only [spec_l8Has.l0.eq_2]
    refine Ev.neg (by omega) (Ev.ret ?_)
    rw [List.drop_eq_nil_of_le (by omega)]; rfl
  | succ d ih =>
    intro i hi
    have hil : i < l.length := by omega
    have hxi := hx l[i] (List.getElem_mem _)
    apply Ev.succ
    simp only [spec_l8Has.l0.eq_2]
    rw [rdL_get l i hil, drop_cons l i hil, List.any_cons, w64 (by omega) (by omega)]
    refine Ev.pos (by omega) (Ev.pos (by omega) (Ev.pos (by omega) (Ev.bind (spec_l2Value_ev _ hxi.1 hxi.2) (Ev.bind (spec_l2Value_ev _ hw.1 hw.2) ?_))))
    by_cases he : val l[i] = val w
    · exact Ev.pos he (Ev.ret (by simp [he]))
    · refine Ev.neg he ?_
      rw [show (i : Int) + 1 = ((i + 1 : Nat) : Int) by omega]
      exact evTo (ih (i + 1) (by omega)) (by simp [he])
theorem spec_l8Has_ev (l : List (List Int)) (w : List Int) (hl : l.length ≤ 1000000000) (hx : ∀ x ∈ l, x.length ≤ 30 ∧ ∀ a ∈ x, -1 ≤ a ∧ a ≤ 1) (hw : w.length ≤ 30 ∧ ∀ a ∈ w, -1 ≤ a ∧ a ≤ 1) : Ev (fun k => spec_l8Has.f k l w) (l.any (fun x => decide (val x = val w))) := by
  simp only [spec_l8Has.f]
  have := spec_l8Has_l l w hl hx hw l.length 0 (by omega)
  simpa using this

theorem spec_l8Turned_l (w : List Int) (hw : w.length ≤ 1000000) : ∀ (d i : Nat), i + d = w.length → Ev (fun k => spec_l8Turned.l0 k ((w.map turn).take i) w w.length i) (w.map turn) := by
  intro d
  induction d with
  | zero =>
    intro i hi
    apply Ev.succ
    simp only [spec_l8Turned.l0.eq_2]
    refine Ev.neg (by omega) (Ev.ret ?_)
    rw [List.take_of_length_le (by simp; omega)]
  | succ d ih =>
    intro i hi
    have hil : i < w.length := by omega
    apply Ev.succ
    simp only [spec_l8Turned.l0.eq_2]
    rw [rd_get w i hil, w64 (by omega) (by omega)]
    refine Ev.pos (by omega) (Ev.pos (by omega) (Ev.pos (by omega) (Ev.bindc (spec_TurnTrit_eq _) (Ev.pos (by simp; omega) ?_))))
    have e : (w.map turn).take i ++ [turn w[i]] = (w.map turn).take (i + 1) := by
      rw [List.take_succ_eq_append_getElem (by simpa using hil)]; simp
    rw [e, show (i : Int) + 1 = ((i + 1 : Nat) : Int) by omega]
    exact ih (i + 1) (by omega)
theorem spec_l8Turned_ev (w : List Int) (hw : w.length ≤ 1000000) : Ev (fun k => spec_l8Turned.f k w) (w.map turn) := by
  simp only [spec_l8Turned.f]
  have := spec_l8Turned_l w hw w.length 0 (by omega)
  simpa using this

def coinW (coins kk : Int) : List (List Int) × Bool := if 2 ≤ kk ∧ kk ≤ 5 ∧ 3 ≤ coins ∧ coins ≤ (3 ^ kk.toNat - 3) / 2 ∧ coins % 3 = 0 then (algI coins.toNat kk.toNat (3 ^ kk.toNat) (-(L3 kk.toNat)) [], true) else ([], false)

theorem spec_CoinWords_l (coins kk : Nat) (hk : 2 ≤ kk ∧ kk ≤ 5) : ∀ (f : Nat) (n : Int) (out r : List (List Int)), algS coins kk f n out = some r → trits3 kk out → -1000000 ≤ n → n + f ≤ 1000000 → out.length + 3 * f ≤ 1000000 → Ev (fun k => spec_CoinWords.l0 k coins kk out n) (r, true)
  | 0, n, out, r, h, _, _, _, _ => by simp [algS] at h
  | f + 1, n, out, r, h, ht, hn0, hn1, ho => by
    rw [algS] at h
    apply Ev.succ
    simp only [spec_CoinWords.l0.eq_2]
    by_cases hl : out.length < coins
    · rw [if_pos hl] at h
      have hw := word_length kk n
      have ew := spec_l2Word_ev n kk (by omega) (by omega) (by omega)
      refine Ev.pos (by omega) (Ev.bind ew (Ev.bind (spec_l8Forward_ev (word kk n) (by omega) (by omega)) ?_))
      have e64 : wrap64 (n + 1) = n + 1 := w64 (by omega) (by omega)
      by_cases hf : fwd (word kk n) = true
      · rw [if_pos hf] at h
        refine Ev.pos hf ?_
        have eh := spec_l8Has_ev out (word kk n) (by omega) (fun x hx => ⟨by have := (ht x hx).1; omega, (ht x hx).2⟩) ⟨by omega, word_trits kk n⟩
        refine Ev.bind eh ?_
        apply Ev.succ
        simp only [spec_CoinWords.j2.eq_2]
        by_cases ha : out.any (fun x => decide (val x = val (word kk n))) = true
        · rw [if_pos ha] at h
          refine Ev.pos ha ?_
          rw [e64]
          exact spec_CoinWords_l coins kk hk f (n + 1) out r h ht (by omega) (by omega) (by omega)
        · rw [if_neg ha] at h
          refine Ev.neg ha ?_
          have h1 : ((word kk n).map turn).length ≤ 1000000 := by simp; omega
          refine Ev.bind (spec_l8Turned_ev _ (by omega)) (Ev.bind (spec_l8Turned_ev _ h1) (Ev.bind (Ev.now _) (Ev.pos (by simp; omega) ?_)))
          rw [e64]
          exact spec_CoinWords_l coins kk hk f (n + 1) _ r h (trits3_append ht (three_ok kk n)) (by omega) (by omega) (by rw [List.length_append]; simp only [List.length_cons, List.length_nil]; omega)
      · rw [if_neg hf] at h
        refine Ev.neg hf ?_
        apply Ev.succ
        simp only [spec_CoinWords.j2.eq_2]
        refine Ev.pos trivial ?_
        rw [e64]
        exact spec_CoinWords_l coins kk hk f (n + 1) out r h ht (by omega) (by omega) (by omega)
    · rw [if_neg hl] at h
      obtain rfl := Option.some.inj h
      exact Ev.neg (by omega) (Ev.now _)
theorem spec_CoinWords_ev (a b : Int) : Ev (fun k => spec_CoinWords.f k a b) (coinW a b) := by
  simp only [spec_CoinWords.f]
  have jt : Ev (fun k => spec_CoinWords.j0 k a b true) (([], false) : List (List Int) × Bool) := by
    apply Ev.succ
    simp only [spec_CoinWords.j0.eq_2]
    exact Ev.pos trivial (Ev.now _)
  refine Ev.bindc (spec_l1In_eq b 2 5) ?_
  unfold coinW
  by_cases hb : 2 ≤ b ∧ b ≤ 5
  · refine Ev.pos (by simpa using hb) (Ev.bind (spec_CoinsFor_ev b) ?_)
    rw [if_pos hb]
    refine Ev.bindc (spec_l1In_eq a 3 _) ?_
    by_cases hc : 3 ≤ a ∧ a ≤ (3 ^ b.toNat - 3) / 2
    · refine Ev.pos (by simpa using hc) ?_
      by_cases hm : a % 3 = 0
      · rw [if_pos ⟨hb.1, hb.2, hc.1, hc.2, hm⟩]
        apply Ev.succ
        simp only [spec_CoinWords.j0.eq_2]
        have em : Int.tmod a 3 = 0 := by rw [Int.tmod_eq_emod_of_nonneg (by omega)]; exact hm
        rw [em]
        refine Ev.neg (by simp) (Ev.bind (spec_LimitOf_ev b) ?_)
        obtain ⟨kk, rfl⟩ : ∃ n : Nat, b = n := ⟨b.toNat, by omega⟩
        obtain ⟨coins, rfl⟩ : ∃ n : Nat, a = n := ⟨a.toNat, by omega⟩
        simp only [Int.toNat_natCast] at hc ⊢
        have hk : 2 ≤ kk ∧ kk ≤ 5 := by omega
        rw [lim_eq kk ⟨by omega, by omega⟩]
        have hp : 3 ^ kk ≤ 243 := Nat.le_trans (Nat.pow_le_pow_right (by omega) (show kk ≤ 5 by omega)) (by decide)
        have hL := L3_nonneg kk
        have hL2 := L3_mono (i := kk) (n := 5) (by omega)
        have hL5 : L3 5 = 121 := by decide
        have hr := reach coins kk hk hc.2
        have hs := algS_eq coins kk (3 ^ kk) (-(L3 kk)) [] (fun x hx => absurd hx (by simp)) hr
        rw [w64 (by omega) (by omega)]
        exact spec_CoinWords_l coins kk hk _ _ [] _ hs (fun x hx => absurd hx (by simp)) (by omega) (by omega) (by simp; omega)
      · rw [if_neg (fun h => hm h.2.2.2.2)]
        have em : (Int.tmod a 3 != 0) = true := by rw [Int.tmod_eq_emod_of_nonneg (by omega)]; exact bne_iff_ne.mpr hm
        rw [em]
        exact jt
    · rw [if_neg (fun h => hc ⟨h.2.2.1, h.2.2.2.1⟩)]
      exact Ev.neg (by simpa using hc) jt
  · rw [if_neg (fun h => hb ⟨h.1, h.2.1⟩)]
    exact Ev.neg (by simpa using hb) jt

theorem impl_IsTrit_eq (a : Int) : impl_IsTrit.f a = some (isTrit a) := by
  unfold impl_IsTrit.f isTrit
  by_cases h : -1 ≤ a
  · rw [if_pos (by omega)]; simp [h]
  · rw [if_neg (by omega)]; simp [h]

theorem impl_carried_eq (n : Int) (h : -4 ≤ n ∧ n ≤ 4) : impl_carried.f n = some (if n > 1 then n - 3 else if n < -1 then n + 3 else n, if n > 1 then 1 else if n < -1 then -1 else 0) := by
  unfold impl_carried.f
  by_cases h1 : n > 1
  · rw [if_pos h1, if_pos h1, if_pos h1, w64 (by omega) (by omega)]
  · rw [if_neg h1, if_neg h1, if_neg h1]
    by_cases h2 : n < -1
    · rw [if_pos h2, if_pos h2, if_pos h2, w64 (by omega) (by omega)]
    · rw [if_neg h2, if_neg h2, if_neg h2]

theorem impl_TurnTrit_eq (a : Int) : impl_TurnTrit.f a = some (turn a) := by
  unfold impl_TurnTrit.f turn
  rw [impl_IsTrit_eq]
  simp only [Option.bind_some]
  by_cases h : isTrit a = true
  · rw [if_pos h, if_pos h]
    have ha := (isTrit_iff a).1 h
    rw [w64 (by omega) (by omega), impl_carried_eq _ (by omega)]
    simp only [Option.bind_some]
    refine congrArg some ?_
    rcases (show a = -1 ∨ a = 0 ∨ a = 1 by omega) with rfl | rfl | rfl <;> rfl
  · rw [if_neg h, if_neg h]

theorem impl_trits_l (x : List Int) (hn : x.length ≤ 35184372088832) : ∀ (d i : Nat), i + d = x.length → Ev (fun k => impl_trits.l0 k x x.length i) ((x.drop i).all isTrit) := by
  intro d
  induction d with
  | zero =>
    intro i hi
    apply Ev.succ
    simp only [impl_trits.l0.eq_2]
    refine Ev.neg (by omega) (Ev.ret ?_)
    rw [List.drop_eq_nil_of_le (by omega)]; rfl
  | succ d ih =>
    intro i hi
    apply Ev.succ
    simp only [impl_trits.l0.eq_2, impl_IsTrit_eq, Option.bind_some]
    refine Ev.pos (by omega) (Ev.pos (by omega) (Ev.pos (by omega) ?_))
    rw [rd_get x i (by omega), drop_cons x i (by omega), List.all_cons, w64 (by omega) (by omega)]
    refine Ev.ite (fun h => ?_) (fun h => Ev.ret ?_)
    · exact evTo (ih (i + 1) (by omega)) (by rw [h, Bool.true_and])
    · rw [Bool.not_eq_true] at h; rw [h, Bool.false_and]
theorem impl_trits_ev (x : List Int) (hn : x.length ≤ 35184372088832) : Ev (fun k => impl_trits.f k x) (x.all isTrit) := by
  simp only [impl_trits.f]
  exact impl_trits_l x hn x.length 0 (by omega)

theorem impl_IsWord_ev (x : List Int) : Ev (fun k => impl_IsWord.f k x) (isWord x) := by
  simp only [impl_IsWord.f, isWord]
  refine Ev.ite (fun h => Ev.ite (fun h1 => ?_) (fun h1 => Ev.ret ?_)) (fun h => Ev.ret ?_)
  · refine Ev.bind (impl_trits_ev x (by omega)) (Ev.ret ?_)
    rw [decide_eq_true (by omega), Bool.true_and]
  · rw [decide_eq_false (by omega), Bool.false_and]
  · rw [decide_eq_false (by omega), Bool.false_and]

theorem impl_TurnsForward_l (w : List Int) (hn : w.length ≤ 35184372088832) : ∀ (d i : Nat), i + 1 + d = w.length → Ev (fun k => impl_TurnsForward.l0 k w ((i + 1 : Nat) : Int)) (fwd (w.drop i)) := by
  intro d
  induction d with
  | zero =>
    intro i hi
    apply Ev.succ
    simp only [impl_TurnsForward.l0.eq_2]
    refine Ev.neg (by omega) (Ev.ret ?_)
    rw [drop_cons w i (by omega), List.drop_eq_nil_of_le (by omega), fwd_one]
  | succ d ih =>
    intro i hi
    apply Ev.succ
    simp only [impl_TurnsForward.l0.eq_2]
    have e : ((i + 1 : Nat) : Int) - 1 = (i : Int) := by omega
    have h := ih (i + 1) (by omega)
    rw [drop_cons w (i + 1) (by omega)] at h
    rw [drop_cons w i (by omega), drop_cons w (i + 1) (by omega), fwd_two, w64 (n := ((i + 1 : Nat) : Int) - 1) (by omega) (by omega), e, rd_get w (i + 1) (by omega), rd_get w i (by omega), w64 (n := ((i + 1 : Nat) : Int) + 1) (by omega) (by omega)]
    refine Ev.pos (by omega) (Ev.pos (by omega) (Ev.pos (by omega) (Ev.pos (by omega) ?_)))
    refine Ev.ite (fun c => ?_) (fun c => ?_)
    · rw [if_pos c]; exact h
    · rw [if_neg c]; exact Ev.bindc (impl_TurnTrit_eq _) (Ev.now _)
theorem impl_TurnsForward_ev (w : List Int) : Ev (fun k => impl_TurnsForward.f k w) (isWord w && fwd w) := by
  simp only [impl_TurnsForward.f]
  refine Ev.bind (impl_IsWord_ev w) ?_
  refine Ev.ite (fun h => ?_) (fun h => Ev.ret (by rw [Bool.not_eq_true] at h; rw [h, Bool.false_and]))
  have hw := (isWord_iff w).1 h
  refine evTo (impl_TurnsForward_l w (by omega) (w.length - 1) 0 (by omega)) ?_
  rw [h, Bool.true_and, List.drop_zero]

theorem impl_power_l (n : Nat) (hn : n ≤ 30) : ∀ (d i : Nat), i + d = n → Ev (fun k => impl_power.l0 k ((3 : Int) ^ i) n i) ((3 : Int) ^ n) := by
  intro d
  induction d with
  | zero =>
    intro i hi
    apply Ev.succ
    simp only [impl_power.l0.eq_2]
    refine Ev.neg (by omega) (Ev.ret ?_)
    rw [← hi]; rfl
  | succ d ih =>
    intro i hi
    apply Ev.succ
    simp only [impl_power.l0.eq_2]
    have h1 := pow3_30 (i := i + 1) (by omega)
    have h2 := pow3_pos i
    rw [pow3_succ] at h1
    refine Ev.pos (by omega) ?_
    rw [w64 (by omega) (by omega), w64 (by omega) (by omega), Int.mul_comm, ← pow3_succ]
    exact ih (i + 1) (by omega)
theorem impl_power_ev (n : Int) (h0 : 0 ≤ n) (hn : n ≤ 30) : Ev (fun k => impl_power.f k n) ((3 : Int) ^ n.toNat) := by
  obtain ⟨m, rfl⟩ : ∃ m : Nat, n = m := ⟨n.toNat, by omega⟩
  exact impl_power_l m (by omega) m 0 (by omega)

theorem impl_LimitOf_ev (k : Int) : Ev (fun n => impl_LimitOf.f n k) (lim k) := by
  simp only [impl_LimitOf.f]
  unfold lim
  refine Ev.ite (fun h => Ev.ret (by rw [if_neg (by omega)])) (fun h => Ev.ite (fun h1 => Ev.ret (by rw [if_neg (by omega)])) (fun h1 => ?_))
  rw [if_pos (by omega)]
  refine Ev.bind (impl_power_ev k (by omega) (by omega)) (Ev.ret ?_)
  have h2 := pow3_30 (i := k.toNat) (by omega)
  have h3 := pow3_pos k.toNat
  rw [w64 (n := _ - 1) (by omega) (by omega), Int.tdiv_eq_ediv_of_nonneg (by omega), w64 (by omega) (by omega)]

theorem impl_CoinsFor_ev (k : Int) : Ev (fun n => impl_CoinsFor.f n k) (if 2 ≤ k ∧ k ≤ 5 then (3 ^ k.toNat - 3) / 2 else 0) := by
  simp only [impl_CoinsFor.f]
  refine Ev.ite (fun h => Ev.ret (by rw [if_neg (by omega)])) (fun h => Ev.ite (fun h1 => Ev.ret (by rw [if_neg (by omega)])) (fun h1 => ?_))
  rw [if_pos (by omega)]
  refine Ev.bind (impl_power_ev k (by omega) (by omega)) (Ev.ret ?_)
  have h2 := pow3_30 (i := k.toNat) (by omega)
  have h4 : (3 : Int) ^ 2 ≤ 3 ^ k.toNat := pow3_mono (by omega)
  rw [w64 (n := _ - 3) (by omega) (by omega), Int.tdiv_eq_ediv_of_nonneg (by omega), w64 (by omega) (by omega)]

theorem impl_fits_ev (n k : Int) : Ev (fun m => impl_fits.f m n k) (fitsB n k) := by
  simp only [impl_fits.f]
  have h1 := lim_nonneg k
  have h2 := lim_le k
  refine Ev.bind (impl_LimitOf_ev k) ?_
  rw [w64 (by omega) (by omega)]
  refine Ev.ite (fun h => Ev.bind (impl_LimitOf_ev k) (Ev.ret ?_)) (fun h => Ev.ret ?_)
  · unfold fitsB; exact decide_eq_decide.2 (by omega)
  · unfold fitsB; rw [decide_eq_false]; omega

theorem tmod3 (n : Int) : Int.tmod n 3 = if 0 ≤ n then n % 3 else -((-n) % 3) := by
  split
  · exact Int.tmod_eq_emod_of_nonneg (by omega)
  · have h : Int.tmod (-n) 3 = (-n) % 3 := Int.tmod_eq_emod_of_nonneg (by omega)
    rw [Int.neg_tmod] at h; omega
theorem tdiv3 (n : Int) (h : n % 3 = 0) : Int.tdiv n 3 = n / 3 := by
  rw [Int.tdiv_eq_ediv_of_dvd (Int.dvd_of_emod_eq_zero h)]
theorem impl_WordOf_l (k : Nat) (hk : k ≤ 30) : ∀ (d i : Nat) (n : Int) (o : List Int), i + d = k → o.length = i → -100000000000000000 ≤ n → n ≤ 100000000000000000 → Ev (fun m => impl_WordOf.l0 m n o k i) (o ++ word d n, true) := by
  intro d
  induction d with
  | zero =>
    intro i n o hi ho h0 h1
    apply Ev.succ
    simp only [impl_WordOf.l0.eq_2]
    exact Ev.neg (by omega) (Ev.ret (by simp [word]))
  | succ d ih =>
    intro i n o hi ho h0 h1
    apply Ev.succ
    simp only [impl_WordOf.l0.eq_2]
    have ht := tmod3 n
    generalize hr : Int.tmod n 3 = r at *
    have h2 : -2 ≤ r ∧ r ≤ 2 ∧ (r - n) % 3 = 0 := by split at ht <;> omega
    refine Ev.pos (by omega) (Ev.bindc (impl_carried_eq r (by omega)) ?_)
    refine Ev.pos (by omega) ?_
    generalize hs : (if r > 1 then r - 3 else if r < -1 then r + 3 else r) = s
    have hs2 : s = (n + 1) % 3 - 1 := by split at hs <;> first | omega | (split at hs <;> omega)
    have e : Int.tdiv (n - s) 3 = (n + 1) / 3 := by rw [tdiv3 _ (by omega)]; omega
    rw [w64 (n := n - s) (by omega) (by omega), e, w64 (by omega) (by omega), w64 (by omega) (by omega)]
    refine evTo (ih (i + 1) ((n + 1) / 3) (o ++ [s]) (by omega) (by simp [ho]) (by omega) (by omega)) ?_
    rw [word, hs2]; simp
theorem impl_WordOf_ev (n k : Int) : Ev (fun m => impl_WordOf.f m n k) (wordOf n k) := by
  simp only [impl_WordOf.f]
  have no : ¬ (1 ≤ k ∧ k ≤ 30 ∧ fitsB n k = true) → Ev (fun m => impl_WordOf.j0 m n k true) (wordOf n k) := by
    intro h
    apply Ev.succ
    simp only [impl_WordOf.j0.eq_2]
    exact Ev.pos (by simp) (Ev.ret (by unfold wordOf; rw [if_neg h]))
  refine Ev.ite (fun h => no (by omega)) (fun h => Ev.ite (fun h1 => no (by omega)) (fun h1 => ?_))
  refine Ev.bind (impl_fits_ev n k) ?_
  by_cases c : fitsB n k = true
  · rw [c]
    apply Ev.succ
    simp only [impl_WordOf.j0.eq_2]
    refine Ev.neg (by simp) ?_
    have hf := c
    unfold fitsB at hf
    have h2 := lim_nonneg k
    have h3 := lim_le k
    have h4 := of_decide_eq_true hf
    have hl := impl_WordOf_l k.toNat (by omega) k.toNat 0 n [] (by omega) rfl (by omega) (by omega)
    rw [show ((k.toNat : Nat) : Int) = k by omega] at hl
    unfold wordOf; rw [if_pos ⟨by omega, by omega, c⟩]
    simpa using hl
  · rw [Bool.not_eq_true] at c
    rw [c]
    exact no (by rw [c]; simp)

theorem slices_Equal_int_int_l (x0 x1 : List Int) (hl : x0.length = x1.length) (hn : x0.length ≤ 35184372088832) : ∀ (d i : Nat), i + d = x0.length → Ev (fun k => slices_Equal_int_int.l0 k x0 x1 x0.length i) (decide (x0.drop i = x1.drop i)) := by
  intro d
  induction d with
  | zero =>
    intro i hi
    apply Ev.succ
    simp only [slices_Equal_int_int.l0.eq_2]
    refine Ev.neg (by omega) (Ev.ret ?_)
    rw [List.drop_eq_nil_of_le (by omega), List.drop_eq_nil_of_le (by omega)]; simp
  | succ d ih =>
    intro i hi
    apply Ev.succ
    simp only [slices_Equal_int_int.l0.eq_2]
    refine Ev.pos (by omega) (Ev.pos (by omega) (Ev.pos (by omega) (Ev.pos (by omega) ?_)))
    rw [rd_get x0 i (by omega), rd_get x1 i (by omega), drop_cons x0 i (by omega), drop_cons x1 i (by omega)]
    refine Ev.ite (fun h => ?_) (fun h => ?_)
    · rw [w64 (by omega) (by omega)]
      exact evTo (ih (i + 1) (by omega)) (by simp only [List.cons.injEq, h, true_and])
    · exact Ev.ret (by simp only [List.cons.injEq, h, false_and, decide_false])
theorem slices_Equal_int_int_ev (x0 x1 : List Int) (hn : x0.length ≤ 35184372088832) : Ev (fun k => slices_Equal_int_int.f k x0 x1) (decide (x0 = x1)) := by
  simp only [slices_Equal_int_int.f]
  refine Ev.ite (fun h => ?_) (fun h => Ev.ret ?_)
  · exact evTo (slices_Equal_int_int_l x0 x1 (by omega) hn x0.length 0 (by omega)) (by simp)
  · symm; rw [decide_eq_false_iff_not]; intro e; rw [e] at h; exact h rfl

theorem impl_turned_l (w : List Int) (hw : w.length ≤ 1000000) : ∀ (d i : Nat), i + d = w.length → Ev (fun k => impl_turned.l0 k ((w.map turn).take i) w w.length i) (w.map turn) := by
  intro d
  induction d with
  | zero =>
    intro i hi
    apply Ev.succ
    simp only [impl_turned.l0.eq_2]
    refine Ev.neg (by omega) (Ev.ret ?_)
    rw [List.take_of_length_le (by simp; omega)]
  | succ d ih =>
    intro i hi
    have hil : i < w.length := by omega
    apply Ev.succ
    simp only [impl_turned.l0.eq_2]
    rw [rd_get w i hil, w64 (by omega) (by omega)]
    refine Ev.pos (by omega) (Ev.pos (by omega) (Ev.pos (by omega) (Ev.bindc (impl_TurnTrit_eq _) (Ev.pos (by simp; omega) ?_))))
    have e : (w.map turn).take i ++ [turn w[i]] = (w.map turn).take (i + 1) := by
      rw [List.take_succ_eq_append_getElem (by simpa using hil)]; simp
    rw [e, show (i : Int) + 1 = ((i + 1 : Nat) : Int) by omega]
    exact ih (i + 1) (by omega)
theorem impl_turned_ev (w : List Int) (hw : w.length ≤ 1000000) : Ev (fun k => impl_turned.f k w) (w.map turn) := by
  simp only [impl_turned.f]
  have := impl_turned_l w hw w.length 0 (by omega)
  simpa using this

theorem anyO_ev {α : Type} {g : Nat → α → Option Bool} {p : α → Bool} : ∀ (l : List α), (∀ x ∈ l, Ev (fun k => g k x) (p x)) → Ev (fun k => Go.Proofs.Ytffohdlbkigehaa.Any.anyO (g k) l) (l.any p)
  | [], _ => Ev.now _
  | x :: xs, h => by
    simp only [Go.Proofs.Ytffohdlbkigehaa.Any.anyO]
    exact Ev.bind (h x List.mem_cons_self) (Ev.bind (anyO_ev xs (fun y hy => h y (List.mem_cons_of_mem _ hy))) (Ev.ret (by rw [List.any_cons])))
theorem not_any_not {α : Type} (p : α → Bool) (l : List α) : (!l.any fun x => !p x) = l.all p := by
  induction l with
  | nil => rfl
  | cons x xs ih => rw [List.any_cons, List.all_cons, ← ih]; simp

theorem has_ev (w : List Int) : ∀ (out : List (List Int)), (∀ x ∈ out, x.length ≤ 1000000) → Ev (fun k => impl_CoinWords.has k out w) (out.any (fun x => decide (x = w))) := by
  intro out h
  exact anyO_ev (p := fun x => decide (x = w)) out (fun x hx => slices_Equal_int_int_ev x w (by have := h x hx; omega))
theorem impl_CoinWords_l (coins kk : Nat) (hk : 2 ≤ kk ∧ kk ≤ 5) : ∀ (c : Nat) (n : Int) (out : List (List Int)), n + c = L3 kk + 1 → -(L3 kk) ≤ n → trits3 kk out → out.length + 3 * c ≤ 1000000 → Ev (fun k => impl_CoinWords.loop k coins kk c n out) (algI coins kk c n out)
  | 0, n, out, _, _, _, _ => Ev.now _
  | c + 1, n, out, h0, h1, ht, ho => by
    simp only [impl_CoinWords.loop, algI]
    by_cases hl : out.length < coins
    · rw [if_pos hl]
      have hwi := word_isWord kk n ⟨by omega, by omega⟩
      have hf0 : fitsB n (kk : Int) = true := (fitsB_iff n kk ⟨by omega, by omega⟩).2 ⟨h1, by omega⟩
      have ew : Ev (fun k => impl_WordOf.f k n kk) (word kk n, true) := evTo (impl_WordOf_ev n kk) (by
        unfold wordOf
        rw [if_pos ⟨by omega, by omega, hf0⟩, Int.toNat_natCast])
      refine Ev.pos (by omega) (Ev.pos (by omega) (Ev.bind ew (Ev.bind (impl_TurnsForward_ev (word kk n)) ?_)))
      rw [hwi, Bool.true_and]
      by_cases hf : fwd (word kk n) = true
      · rw [if_pos hf]
        refine Ev.pos hf (Ev.bind (has_ev (word kk n) out (fun x hx => by have := (ht x hx).1; omega)) ?_)
        by_cases ha : out.any (fun x => decide (x = word kk n)) = true
        · rw [if_pos ha]
          exact Ev.pos ha (impl_CoinWords_l coins kk hk c (n + 1) out (by omega) (by omega) ht (by omega))
        · rw [if_neg ha]
          have hw := word_length kk n
          have hw2 : ((word kk n).map turn).length ≤ 1000000 := by simp; omega
          refine Ev.neg ha (Ev.bind (impl_turned_ev _ (by dsimp only; omega)) (Ev.bind (impl_turned_ev _ hw2) ?_))
          exact impl_CoinWords_l coins kk hk c (n + 1) _ (by omega) (by omega) (trits3_append ht (three_ok kk n)) (by rw [List.length_append]; simp only [List.length_cons, List.length_nil]; omega)
      · rw [if_neg hf]
        exact Ev.neg hf (impl_CoinWords_l coins kk hk c (n + 1) out (by omega) (by omega) ht (by omega))
    · rw [if_neg hl]
      exact Ev.neg (by omega) (Ev.now _)
theorem impl_CoinWords_ev (a b : Int) : Ev (fun k => impl_CoinWords.f k a b) (coinW a b) := by
  simp only [impl_CoinWords.f]
  unfold coinW
  by_cases h0 : b < 2 ∨ 5 < b ∨ a < 3
  · rw [if_neg (by omega)]
    exact Ev.pos h0 (Ev.now _)
  · refine Ev.neg h0 (Ev.bind (impl_CoinsFor_ev b) ?_)
    rw [if_pos (show 2 ≤ b ∧ b ≤ 5 by omega)]
    by_cases h1 : (3 ^ b.toNat - 3) / 2 < a ∨ a % 3 ≠ 0
    · rw [if_neg (by omega)]
      exact Ev.pos h1 (Ev.now _)
    · rw [if_pos (by omega)]
      refine Ev.neg h1 (Ev.bind (impl_LimitOf_ev b) ?_)
      obtain ⟨kk, rfl⟩ : ∃ n : Nat, b = n := ⟨b.toNat, by omega⟩
      obtain ⟨coins, rfl⟩ : ∃ n : Nat, a = n := ⟨a.toNat, by omega⟩
      simp only [Int.toNat_natCast] at h1 ⊢
      have hk : 2 ≤ kk ∧ kk ≤ 5 := by omega
      rw [lim_eq kk ⟨by omega, by omega⟩]
      have hp : 3 ^ kk ≤ 243 := Nat.le_trans (Nat.pow_le_pow_right (by omega) (show kk ≤ 5 by omega)) (by decide)
      have hL := L3_nonneg kk
      have hL2 := L3_mono (i := kk) (n := 5) (by omega)
      have hL5 : L3 5 = 121 := by decide
      have e3 := L3_pow kk
      have e3n : ((3 ^ kk : Nat) : Int) = (3 : Int) ^ kk := by simp
      have e5 : ((3 ^ kk : Nat) : Int) = 2 * L3 kk + 1 := by rw [e3n, e3]
      have ec : (2 * L3 kk + 1).toNat = 3 ^ kk := by rw [← e5, Int.toNat_natCast]
      rw [ec]
      clear e3 e3n h1
      generalize 3 ^ kk = q at *
      exact Ev.pos ⟨hL, by omega⟩ (Ev.bind (impl_CoinWords_l coins kk hk q _ [] (by omega) (by omega) (fun x hx => absurd hx (by simp)) (by simp; omega)) (Ev.now _))

theorem laws_heldIntS_l (n : Nat) (a : Int) (ha0 : 0 ≤ a) (ha : a ≤ 1000000000000000) (hn : n ≤ 35184372088832) : ∀ (d i : Nat), i + d = n → Ev (fun k => laws_heldIntS.l0 k (marked n a) (a + i) i) (a + n) := by
  intro d
  induction d with
  | zero =>
    intro i hi
    apply Ev.succ
    simp only [laws_heldIntS.l0.eq_2, marked_length]
    refine Ev.neg (by omega) (Ev.ret (by omega))
  | succ d ih =>
    intro i hi
    apply Ev.succ
    simp only [laws_heldIntS.l0.eq_2, marked_length]
    refine Ev.pos (by omega) (Ev.pos (by omega) (Ev.pos ?_ ?_))
    · rw [rd_get _ i (by rw [marked_length]; omega)]; simp [marked]
    · rw [w64 (by omega) (by omega), w64 (by omega) (by omega)]
      have e1 : a + (i : Int) + 1 = a + ((i + 1 : Nat) : Int) := by omega
      rw [e1]
      exact ih (i + 1) (by omega)
theorem laws_heldIntS_ev (n : Nat) (a : Int) (ha0 : 0 ≤ a) (ha : a ≤ 1000000000000000) (hn : n ≤ 35184372088832) : Ev (fun k => laws_heldIntS.f k (marked n a) a) (a + n) := by
  have h := laws_heldIntS_l n a ha0 ha hn n 0 (by omega)
  simp only [laws_heldIntS.f]
  simpa using h

theorem markedR_length : ∀ (l : List (List Int)) (a : Int), (markedR l a).length = l.length
  | [], _ => rfl
  | x :: l, a => by simp [markedR, markedR_length l]
theorem markedR_drop : ∀ (l : List (List Int)) (a : Int) (i : Nat) (h : i < l.length), (markedR l a)[i]'(by rw [markedR_length]; exact h) = marked l[i].length (a + (tot (l.take i) : Nat))
  | x :: l, a, 0, h => by simp [markedR, tot]
  | x :: l, a, i + 1, h => by
    have ih := markedR_drop l (a + x.length) i (by simpa using h)
    simp only [markedR, List.getElem_cons_succ, ih, List.take_succ_cons, tot]
    congr 1
    omega
theorem tot_take_succ : ∀ (l : List (List Int)) (i : Nat) (h : i < l.length), tot (l.take (i + 1)) = tot (l.take i) + l[i].length
  | x :: l, 0, h => by simp [tot]
  | x :: l, i + 1, h => by
    have ih := tot_take_succ l i (by simpa using h)
    simp only [List.take_succ_cons, tot, ih, List.getElem_cons_succ]
    omega
theorem tot_take_le : ∀ (l : List (List Int)) (i : Nat), tot (l.take i) ≤ tot l
  | [], i => by simp [tot]
  | x :: l, 0 => by simp [tot]
  | x :: l, i + 1 => by
    have ih := tot_take_le l i
    simp only [List.take_succ_cons, tot]; omega
theorem laws_heldIntSS_l (l : List (List Int)) (a : Int) (h0 : 0 ≤ a) (h1 : a + tot l ≤ 1000000000000) (hw : ∀ y ∈ l, y.length ≤ 1048576) (hl : l.length ≤ 1000000000) : ∀ (d i : Nat), i + d = l.length → Ev (fun k => laws_heldIntSS.l0 k (markedR l a) (a + (tot (l.take i) : Nat)) i) (a + tot l) := by
  intro d
  induction d with
  | zero =>
    intro i hi
    apply Ev.succ
    simp only [laws_heldIntSS.l0.eq_2]
    refine Ev.neg (by rw [markedR_length]; omega) (Ev.ret ?_)
    rw [List.take_of_length_le (by omega)]
  | succ d ih =>
    intro i hi
    have hil : i < l.length := by omega
    have hle := tot_take_le l i
    have hsu := tot_take_succ l i hil
    have hle2 := tot_take_le l (i + 1)
    have hx := hw l[i] (List.getElem_mem _)
    apply Ev.succ
    simp only [laws_heldIntSS.l0.eq_2]
    rw [rdL_get (markedR l a) i (by rw [markedR_length]; omega), markedR_drop l a i hil, w64 (n := (i : Int) + 1) (by omega) (by omega)]
    refine Ev.pos (by rw [markedR_length]; omega) (Ev.pos (by omega) ?_)
    refine Ev.bind (laws_heldIntS_ev l[i].length (a + (tot (l.take i) : Nat)) (by omega) (by omega) (by omega)) (Ev.neg (by omega) ?_)
    have e : a + (tot (l.take i) : Nat) + (l[i].length : Int) = a + (tot (l.take (i + 1)) : Nat) := by rw [hsu]; omega
    rw [e, show (i : Int) + 1 = ((i + 1 : Nat) : Int) by omega]
    exact ih (i + 1) (by omega)
theorem laws_heldIntSS_ev (l : List (List Int)) (a : Int) (h0 : 0 ≤ a) (h1 : a + tot l ≤ 1000000000000) (hw : ∀ y ∈ l, y.length ≤ 1048576) (hl : l.length ≤ 1000000000) : Ev (fun k => laws_heldIntSS.f k (markedR l a) a) (a + tot l) := by
  simp only [laws_heldIntSS.f]
  have := laws_heldIntSS_l l a h0 h1 hw hl l.length 0 (by omega)
  simpa [tot] using this

end Go.Proofs.Ytffohdlbkigehaa.LemFnExactCoinWords
