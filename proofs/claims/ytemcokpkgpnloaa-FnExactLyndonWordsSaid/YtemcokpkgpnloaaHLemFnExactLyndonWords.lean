/- Lemmas: what each function that this statement reaches computes. -/
import Derived.Test.YtemcokpkgpnloaaHOpFnExactLyndonWords
import Derived.Test.YtemcokpkgpnloaaBase
import Derived.Test.YtemcokpkgpnloaaLynM
import Derived.Test.YtemcokpkgpnloaaRotM
import Derived.Test.YtemcokpkgpnloaaWordM
set_option linter.unusedVariables false
set_option linter.unusedSimpArgs false
namespace Go.Proofs.Ytemcokpkgpnloaa.LemFnExactLyndonWords
open Go.RowKit Go.Proofs.YtemcokpkgpnloaaW.PrintWords Go.Proofs.YtemcokpkgpnloaaW.PrintLast Go.Proofs.YtemcokpkgpnloaaW.PrintMore Go.Proofs.Ytemcokpkgpnloaa.HFnExactLyndonWords Go.Proofs.Ytemcokpkgpnloaa.Base

theorem spec_l2Copy_eq (l : List Int) (h : l.length < 17592186044416) : spec_l2Copy.f l = some l := by
  unfold spec_l2Copy.f
  simp only [Option.bind_some]
  rw [if_pos (by simpa using h)]; simp

theorem spec_l1In_eq (a b c : Int) : spec_l1In.f a b c = some (decide (b ≤ a ∧ a ≤ c)) := by
  unfold spec_l1In.f
  by_cases h : b ≤ a
  · rw [if_pos (by omega)]; simp [h]
  · rw [if_neg (by omega)]; simp [h]

theorem bump_ok : ∀ (w : List Int), (∀ a ∈ w, -1 ≤ a ∧ a ≤ 1) → (bump w).length ≤ w.length ∧ ∀ a ∈ bump w, -1 ≤ a ∧ a ≤ 1
  | [], _ => by simp [bump]
  | a :: r, h => by
    have ha := h a (by simp)
    have ih := bump_ok r (fun b hb => h b (by simp [hb]))
    rw [bump]
    split
    · exact ⟨by simp; omega, ih.2⟩
    · refine ⟨by simp, fun b hb => ?_⟩
      rcases List.mem_cons.1 hb with rfl | hb
      · omega
      · exact h b (by simp [hb])
theorem cyc_ok (w : List Int) (k : Nat) (h : ∀ a ∈ w, -1 ≤ a ∧ a ≤ 1) : (cyc w k).length = k ∧ ∀ a ∈ cyc w k, -1 ≤ a ∧ a ≤ 1 := by
  refine ⟨by simp [cyc], fun a ha => ?_⟩
  obtain ⟨i, _, rfl⟩ := List.mem_map.1 ha
  rw [List.getD_eq_getElem?_getD]
  rcases h2 : w[i % w.length]? with _ | b
  · simp
  · exact h b (List.mem_of_getElem? h2)
theorem nextL_ok (k : Nat) (w : List Int) (h : ∀ a ∈ w, -1 ≤ a ∧ a ≤ 1) : (nextL k w).length ≤ k ∧ ∀ a ∈ nextL k w, -1 ≤ a ∧ a ≤ 1 := by
  have hc := cyc_ok w k h
  have hb := bump_ok (cyc w k).reverse (fun a ha => hc.2 a (by simpa using ha))
  exact ⟨by simpa [nextL, hc.1] using hb.1, fun a ha => hb.2 a (by simpa [nextL] using ha)⟩
theorem spec_l9Next_l1 : ∀ (n : Nat) (x : List Int), x.length = n → n ≤ 1000000 → (∀ a ∈ x, -1 ≤ a ∧ a ≤ 1) → Ev (fun k => spec_l9Next.l1 k x) (bump x.reverse).reverse
  | 0, x, hn, _, _ => by
    have : x = [] := List.length_eq_zero_iff.1 hn
    subst this
    apply Ev.succ
    simp only [spec_l9Next.l1.eq_2]
    exact Ev.neg (by simp) (Ev.ret (by simp [bump]))
  | n + 1, x, hn, hb, ht => by
    have hl : n < x.length := by omega
    have ha := ht x[n] (List.getElem_mem _)
    have ex : x = x.take n ++ [x[n]] := by
      rw [← List.take_succ_eq_append_getElem hl, List.take_of_length_le (by omega)]
    have er : x.reverse = x[n] :: (x.take n).reverse := by
      conv => lhs; rw [ex]
      simp
    apply Ev.succ
    simp only [spec_l9Next.l1.eq_2]
    have e1 : wrap64 ((x.length : Int) - 1) = (n : Int) := by rw [w64 (by omega) (by omega)]; omega
    rw [e1, rd_get x n hl, er, bump, Int.toNat_natCast]
    refine Ev.pos (by omega) (Ev.pos (by omega) (Ev.pos (by omega) ?_))
    by_cases h1 : x[n] = 1
    · rw [if_pos h1]
      refine Ev.pos h1 (Ev.pos (by omega) ?_)
      exact spec_l9Next_l1 n (x.take n) (by simp; omega) (by omega) (fun a ha => ht a (List.mem_of_mem_take ha))
    · rw [if_neg h1]
      refine Ev.neg h1 (Ev.ret ?_)
      rw [w64 (by omega) (by omega), List.set_eq_take_append_cons_drop, if_pos hl, List.drop_eq_nil_of_le (by omega)]
      simp
theorem spec_l9Next_l0 (w : List Int) (K : Nat) (hw : 1 ≤ w.length) (hw2 : w.length ≤ 1000000) (hK : K ≤ 1000000) (ht : ∀ a ∈ w, -1 ≤ a ∧ a ≤ 1) : ∀ (d i : Nat), i + d = K → Ev (fun k => spec_l9Next.l0 k w K ((cyc w K).take i) i) (nextL K w) := by
  have hc := cyc_ok w K ht
  intro d
  induction d with
  | zero =>
    intro i hi
    apply Ev.succ
    simp only [spec_l9Next.l0.eq_2]
    refine Ev.neg (by omega) ?_
    rw [List.take_of_length_le (by omega)]
    exact spec_l9Next_l1 K _ hc.1 hK hc.2
  | succ d ih =>
    intro i hi
    have hm : i % w.length < w.length := Nat.mod_lt _ (by omega)
    have em : Int.tmod (i : Int) (w.length : Int) = ((i % w.length : Nat) : Int) := (Int.ofNat_tmod i w.length).symm
    have hl : i < (cyc w K).length := by rw [hc.1]; omega
    apply Ev.succ
    simp only [spec_l9Next.l0.eq_2]
    rw [em, rd_get w (i % w.length) hm, w64 (n := (i : Int) + 1) (by omega) (by omega)]
    refine Ev.pos (by omega) (Ev.neg (by omega) (Ev.pos (by omega) (Ev.pos (by omega) (Ev.pos (by simp; omega) ?_))))
    have eg : (cyc w K)[i] = w[i % w.length] := by
      simp [cyc, List.getD_eq_getElem?_getD, List.getElem?_eq_getElem hm]
    have e2 : (cyc w K).take i ++ [w[i % w.length]] = (cyc w K).take (i + 1) := by
      rw [List.take_succ_eq_append_getElem hl, eg]
    rw [e2, show (i : Int) + 1 = ((i + 1 : Nat) : Int) by omega]
    exact ih (i + 1) (by omega)
theorem spec_l9Next_ev (w : List Int) (K : Nat) (hw : 1 ≤ w.length) (hw2 : w.length ≤ 1000000) (hK : K ≤ 1000000) (ht : ∀ a ∈ w, -1 ≤ a ∧ a ≤ 1) : Ev (fun k => spec_l9Next.f k w K) (nextL K w) := by
  simp only [spec_l9Next.f]
  have := spec_l9Next_l0 w K hw hw2 hK ht K 0 (by omega)
  simpa using this

theorem spec_LyndonWords_l0 (K : Nat) (hK : K ≤ 7) : ∀ (f : Nat) (w : List Int) (r out : List (List Int)), runL K f w = some r → (∀ a ∈ w, -1 ≤ a ∧ a ≤ 1) → w.length ≤ 7 → out.length + f ≤ 1000000 → Ev (fun k => spec_LyndonWords.l0 k K out w) (out ++ r, true)
  | 0, w, r, out, h, _, _, _ => by simp [runL] at h
  | f + 1, w, r, out, h, ht, hw, hf => by
    rw [runL] at h
    apply Ev.succ
    simp only [spec_LyndonWords.l0.eq_2]
    by_cases h0 : w.length = 0
    · rw [if_pos h0] at h
      obtain rfl := Option.some.inj h
      exact Ev.neg (by omega) (Ev.ret (by simp))
    · rw [if_neg h0] at h
      obtain ⟨r', h1, rfl⟩ := Option.map_eq_some_iff.1 h
      have hn := nextL_ok K w ht
      have e1 := spec_l9Next_ev w K (by omega) (by omega) (by omega) ht
      have em : Int.tmod (K : Int) (w.length : Int) = ((K % w.length : Nat) : Int) := (Int.ofNat_tmod K w.length).symm
      rw [em]
      refine Ev.pos (by omega) (Ev.neg (by omega) ?_)
      by_cases hd : K % w.length = 0
      · rw [if_pos hd]
        refine Ev.pos (by omega) (Ev.bindc (spec_l2Copy_eq w (by omega)) (Ev.pos (by omega) (Ev.bind e1 ?_)))
        exact evTo (spec_LyndonWords_l0 K hK f _ r' (out ++ [w]) h1 hn.2 (by omega) (by simp; omega)) (by simp)
      · rw [if_neg hd]
        refine Ev.neg (by omega) (Ev.bind e1 ?_)
        exact spec_LyndonWords_l0 K hK f _ r' out h1 hn.2 (by omega) (by omega)
theorem spec_LyndonWords_ev (kk : Int) : Ev (fun k => spec_LyndonWords.f k kk) (lynW kk) := by
  simp only [spec_LyndonWords.f]
  unfold lynW
  refine Ev.bindc (spec_l1In_eq kk 1 7) ?_
  by_cases h : kk < 1 ∨ 7 < kk
  · rw [if_pos h]
    exact Ev.neg (by simp; omega) (Ev.now _)
  · rw [if_neg h]
    refine Ev.pos (by simp; omega) ?_
    obtain ⟨n, rfl⟩ : ∃ n : Nat, kk = n := ⟨kk.toNat, by omega⟩
    rw [Int.toNat_natCast]
    have := spec_LyndonWords_l0 n (by omega) 600 [-1] (specL n) [] (run_some n (by omega)) (by simp) (by simp) (by simp)
    simpa using this

theorem impl_IsTrit_eq (a : Int) : impl_IsTrit.f a = some (isTrit a) := by
  unfold impl_IsTrit.f isTrit
  by_cases h : -1 ≤ a
  · rw [if_pos (by omega)]; simp [h]
  · rw [if_neg (by omega)]; simp [h]

theorem impl_trits_l (x : List Int) (hn : x.length ≤ 35184372088832) : ∀ (d i : Nat), i + d = x.length → Ev (fun k => impl_trits.l0 k x x.length i) ((x.drop i).all isTrit) := by
  intro d
  induction d with
  | zero =>
    intro i hi
    apply Ev.succ
    simp only [impl_trits.l0.eq_2]
    refine Ev.neg (by omega) (Ev.ret ?_)
    rw [List.drop_eq_nil_of_le (by omega)]; rfl
  | succ d ih =>
    intro i hi
    apply Ev.succ
    simp only [impl_trits.l0.eq_2, impl_IsTrit_eq, Option.bind_some]
    refine Ev.pos (by omega) (Ev.pos (by omega) (Ev.pos (by omega) ?_))
    rw [rd_get x i (by omega), drop_cons x i (by omega), List.all_cons, w64 (by omega) (by omega)]
    refine Ev.ite (fun h => ?_) (fun h => Ev.ret ?_)
    · exact evTo (ih (i + 1) (by omega)) (by rw [h, Bool.true_and])
    · rw [Bool.not_eq_true] at h; rw [h, Bool.false_and]
theorem impl_trits_ev (x : List Int) (hn : x.length ≤ 35184372088832) : Ev (fun k => impl_trits.f k x) (x.all isTrit) := by
  simp only [impl_trits.f]
  exact impl_trits_l x hn x.length 0 (by omega)

theorem impl_IsWord_ev (x : List Int) : Ev (fun k => impl_IsWord.f k x) (isWord x) := by
  simp only [impl_IsWord.f, isWord]
  refine Ev.ite (fun h => Ev.ite (fun h1 => ?_) (fun h1 => Ev.ret ?_)) (fun h => Ev.ret ?_)
  · refine Ev.bind (impl_trits_ev x (by omega)) (Ev.ret ?_)
    rw [decide_eq_true (by omega), Bool.true_and]
  · rw [decide_eq_false (by omega), Bool.false_and]
  · rw [decide_eq_false (by omega), Bool.false_and]

theorem cmp_Compare_eq (a b : Int) : cmp_Compare_int.f a b = some (if a < b then -1 else if a > b then 1 else 0) := by
  unfold cmp_Compare_int.f cmp_isNaN_int.f
  simp only [Option.bind_some, bne_self_eq_false]
  rw [if_neg (by decide), if_neg (by decide)]
  by_cases h : a < b
  · rw [if_pos h, if_pos h]
  · rw [if_neg h, if_neg h]
    by_cases h1 : a > b
    · rw [if_pos h1, if_pos h1]
    · rw [if_neg h1, if_neg h1]
theorem slices_Compare_l (v w : List Int) (hv : v.length ≤ 1000000000) (hw : w.length ≤ 1000000000) : ∀ (d i : Nat), i + d = v.length → i ≤ w.length → Ev (fun k => slices_Compare_int_int.l0 k v w v v.length i) (if cmpL (v.drop i) (w.drop i) = 0 then cmpL (v.drop i) (w.drop i) else cmpL (v.drop i) (w.drop i)) := by
  intro d
  induction d with
  | zero =>
    intro i hi hiw
    apply Ev.succ
    simp only [slices_Compare_int_int.l0.eq_2, ite_self]
    refine Ev.neg (by omega) ?_
    rw [show v.drop i = [] from List.drop_eq_nil_of_le (by omega)]
    refine Ev.ite (fun h => Ev.ret ?_) (fun h => Ev.ret ?_)
    · rw [drop_cons w i (by omega)]; rfl
    · rw [List.drop_eq_nil_of_le (by omega)]; rfl
  | succ d ih =>
    intro i hi hiw
    apply Ev.succ
    simp only [slices_Compare_int_int.l0.eq_2, ite_self]
    simp only [ite_self] at ih
    rw [drop_cons v i (by omega), rd_get v i (by omega), w64 (by omega) (by omega)]
    refine Ev.pos (by omega) (Ev.pos (by omega) (Ev.pos (by omega) ?_))
    refine Ev.ite (fun h => Ev.ret ?_) (fun h => ?_)
    · rw [show w.drop i = [] from List.drop_eq_nil_of_le (by omega)]; rfl
    · rw [drop_cons w i (by omega), rd_get w i (by omega), cmpL]
      refine Ev.pos (by omega) (Ev.bindc (cmp_Compare_eq _ _) ?_)
      by_cases h1 : v[i] < w[i]
      · rw [if_pos h1, if_pos h1]; exact Ev.neg (by decide) (Ev.now _)
      · rw [if_neg h1, if_neg h1]
        by_cases h2 : v[i] > w[i]
        · rw [if_pos h2, if_pos h2]; exact Ev.neg (by decide) (Ev.now _)
        · rw [if_neg h2, if_neg h2]
          exact Ev.pos rfl (ih (i + 1) (by omega) (by omega))
theorem slices_Compare_ev (v w : List Int) (hv : v.length ≤ 1000000000) (hw : w.length ≤ 1000000000) : Ev (fun k => slices_Compare_int_int.f k v w) (cmpL v w) := by
  simp only [slices_Compare_int_int.f]
  have h := slices_Compare_l v w hv hw v.length 0 (by omega) (by omega)
  simpa using h

theorem slices_Grow_eq (n : Int) (h0 : 0 ≤ n) (h : n ≤ 17592186044415) : slices_Grow_int_int.f [] n = some [] := by
  unfold slices_Grow_int_int.f; rw [if_pos ⟨rfl, h0, h⟩]
def total : List (List Int) → Nat
  | [] => 0
  | a :: l => a.length + total l
theorem total_join (l : List (List Int)) : l.flatten.length = total l := by
  induction l with
  | nil => rfl
  | cons a l ih => rw [List.flatten_cons, List.length_append, ih]; rfl
theorem total_append (a b : List (List Int)) : total (a ++ b) = total a + total b := by
  induction a with
  | nil => simp [total]
  | cons x a ih => rw [List.cons_append, total, total, ih]; omega
theorem rdll_get (xs : List (List Int)) (i : Nat) (h : i < xs.length) : rd_L1 xs (i : Int) = xs[i] := by
  simp [rd_L1, List.getD_eq_getElem?_getD, List.getElem?_eq_getElem h]
theorem total_take_le (l : List (List Int)) (i : Nat) : total (l.take i) ≤ total l := by
  have : total l = total (l.take i) + total (l.drop i) := by rw [← total_append, List.take_append_drop]
  omega
theorem slices_Concat_l1 (l : List (List Int)) (hn : l.length ≤ 1000000000) (ht : total l ≤ 1000000000000) : ∀ (d i : Nat), i + d = l.length → Ev (fun k => slices_Concat_int_int.l1 k (l.take i).flatten l l.length i) l.flatten := by
  intro d
  induction d with
  | zero =>
    intro i hi
    apply Ev.succ
    simp only [slices_Concat_int_int.l1.eq_2]
    exact Ev.neg (by omega) (Ev.ret (by rw [List.take_of_length_le (by omega)]))
  | succ d ih =>
    intro i hi
    apply Ev.succ
    simp only [slices_Concat_int_int.l1.eq_2]
    have h1 := ih (i + 1) (by omega)
    have h2 := total_take_le l (i + 1)
    rw [take_snoc l i (by omega)] at h1 h2
    rw [List.flatten_append, List.flatten_cons, List.flatten_nil, List.append_nil] at h1
    rw [total_append] at h2
    simp only [total] at h2
    rw [rdll_get l i (by omega), w64 (by omega) (by omega)]
    refine Ev.pos (by omega) (Ev.pos (by omega) (Ev.pos (by omega) (Ev.pos ?_ h1)))
    rw [total_join]; omega
theorem slices_Concat_l0 (l : List (List Int)) (hn : l.length ≤ 1000000000) (ht : total l ≤ 1000000000000) : ∀ (d i : Nat), i + d = l.length → Ev (fun k => slices_Concat_int_int.l0 k l (total (l.take i) : Nat) l l.length i) l.flatten := by
  intro d
  induction d with
  | zero =>
    intro i hi
    apply Ev.succ
    simp only [slices_Concat_int_int.l0.eq_2]
    have h2 := total_take_le l i
    refine Ev.neg (by omega) (Ev.bindc (slices_Grow_eq _ (by omega) (by omega)) ?_)
    exact slices_Concat_l1 l hn ht l.length 0 (by omega)
  | succ d ih =>
    intro i hi
    apply Ev.succ
    simp only [slices_Concat_int_int.l0.eq_2]
    have h1 := ih (i + 1) (by omega)
    have h2 := total_take_le l (i + 1)
    rw [take_snoc l i (by omega), total_append] at h1 h2
    simp only [total] at h1 h2
    rw [rdll_get l i (by omega), w64 (n := (i : Int) + 1) (by omega) (by omega), w64 (by omega) (by omega)]
    refine Ev.pos (by omega) (Ev.pos (by omega) (Ev.pos (by omega) (Ev.neg (by omega) ?_)))
    have e : ((total (l.take i) + (l[i].length + 0) : Nat) : Int) = (total (l.take i) : Int) + (l[i].length : Int) := by omega
    rw [e] at h1
    exact h1
theorem slices_Concat_ev (l : List (List Int)) (hn : l.length ≤ 1000000000) (ht : total l ≤ 1000000000000) : Ev (fun k => slices_Concat_int_int.f k l) l.flatten := by
  simp only [slices_Concat_int_int.f]
  exact slices_Concat_l0 l hn ht l.length 0 (by omega)

theorem impl_rotated_ev (w : List Int) (i : Nat) (hi : i ≤ w.length) (hn : w.length ≤ 1000000) : Ev (fun k => impl_rotated.f k w i) (rot w i) := by
  simp only [impl_rotated.f]
  refine Ev.pos (by omega) (Ev.pos (by omega) ?_)
  rw [show ((i : Int)).toNat = i by omega]
  refine Ev.bind (slices_Concat_ev [w.drop i, w.take i] (by simp) ?_) (Ev.ret ?_)
  · simp only [total, List.length_drop, List.length_take]; omega
  · simp [rot]

theorem impl_IsLyndon_l (w : List Int) (hw : w.length ≤ 1000000) : ∀ (d i : Nat), i + d = w.length → Ev (fun k => impl_IsLyndon.l0 k w i) (lynFrom w i d) := by
  intro d
  induction d with
  | zero =>
    intro i hi
    apply Ev.succ
    simp only [impl_IsLyndon.l0.eq_2]
    exact Ev.neg (by omega) (Ev.now _)
  | succ d ih =>
    intro i hi
    apply Ev.succ
    simp only [impl_IsLyndon.l0.eq_2]
    refine Ev.pos (by omega) (Ev.bind (impl_rotated_ev w i (by omega) hw) ?_)
    refine Ev.bind (slices_Compare_ev (rot w i) w (by rw [rot_length w i (by omega)]; omega) (by omega)) ?_
    rw [lynFrom, w64 (by omega) (by omega)]
    refine Ev.ite (fun h => Ev.ret (by rw [if_pos h])) (fun h => ?_)
    rw [if_neg h]
    exact ih (i + 1) (by omega)
theorem impl_IsLyndon_ev (w : List Int) : Ev (fun k => impl_IsLyndon.f k w) (isWord w && lyn w) := by
  simp only [impl_IsLyndon.f]
  refine Ev.bind (impl_IsWord_ev w) ?_
  refine Ev.ite (fun h => ?_) (fun h => Ev.ret (by rw [Bool.not_eq_true] at h; rw [h, Bool.false_and]))
  have hw := (isWord_iff w).1 h
  refine evTo (impl_IsLyndon_l w (by omega) (w.length - 1) 1 (by omega)) ?_
  rw [h, Bool.true_and]; rfl

theorem impl_power_l (n : Nat) (hn : n ≤ 30) : ∀ (d i : Nat), i + d = n → Ev (fun k => impl_power.l0 k ((3 : Int) ^ i) n i) ((3 : Int) ^ n) := by
  intro d
  induction d with
  | zero =>
    intro i hi
    apply Ev.succ
    simp only [impl_power.l0.eq_2]
    refine Ev.neg (by omega) (Ev.ret ?_)
    rw [← hi]; rfl
  | succ d ih =>
    intro i hi
    apply Ev.succ
    simp only [impl_power.l0.eq_2]
    have h1 := pow3_30 (i := i + 1) (by omega)
    have h2 := pow3_pos i
    rw [pow3_succ] at h1
    refine Ev.pos (by omega) ?_
    rw [w64 (by omega) (by omega), w64 (by omega) (by omega), Int.mul_comm, ← pow3_succ]
    exact ih (i + 1) (by omega)
theorem impl_power_ev (n : Int) (h0 : 0 ≤ n) (hn : n ≤ 30) : Ev (fun k => impl_power.f k n) ((3 : Int) ^ n.toNat) := by
  obtain ⟨m, rfl⟩ : ∃ m : Nat, n = m := ⟨n.toNat, by omega⟩
  exact impl_power_l m (by omega) m 0 (by omega)

theorem impl_LimitOf_ev (k : Int) : Ev (fun n => impl_LimitOf.f n k) (lim k) := by
  simp only [impl_LimitOf.f]
  unfold lim
  refine Ev.ite (fun h => Ev.ret (by rw [if_neg (by omega)])) (fun h => Ev.ite (fun h1 => Ev.ret (by rw [if_neg (by omega)])) (fun h1 => ?_))
  rw [if_pos (by omega)]
  refine Ev.bind (impl_power_ev k (by omega) (by omega)) (Ev.ret ?_)
  have h2 := pow3_30 (i := k.toNat) (by omega)
  have h3 := pow3_pos k.toNat
  rw [w64 (n := _ - 1) (by omega) (by omega), Int.tdiv_eq_ediv_of_nonneg (by omega), w64 (by omega) (by omega)]

theorem impl_fits_ev (n k : Int) : Ev (fun m => impl_fits.f m n k) (fitsB n k) := by
  simp only [impl_fits.f]
  have h1 := lim_nonneg k
  have h2 := lim_le k
  refine Ev.bind (impl_LimitOf_ev k) ?_
  rw [w64 (by omega) (by omega)]
  refine Ev.ite (fun h => Ev.bind (impl_LimitOf_ev k) (Ev.ret ?_)) (fun h => Ev.ret ?_)
  · unfold fitsB; exact decide_eq_decide.2 (by omega)
  · unfold fitsB; rw [decide_eq_false]; omega

theorem impl_carried_eq (n : Int) (h : -4 ≤ n ∧ n ≤ 4) : impl_carried.f n = some (if n > 1 then n - 3 else if n < -1 then n + 3 else n, if n > 1 then 1 else if n < -1 then -1 else 0) := by
  unfold impl_carried.f
  by_cases h1 : n > 1
  · rw [if_pos h1, if_pos h1, if_pos h1, w64 (by omega) (by omega)]
  · rw [if_neg h1, if_neg h1, if_neg h1]
    by_cases h2 : n < -1
    · rw [if_pos h2, if_pos h2, if_pos h2, w64 (by omega) (by omega)]
    · rw [if_neg h2, if_neg h2, if_neg h2]

theorem tmod3 (n : Int) : Int.tmod n 3 = if 0 ≤ n then n % 3 else -((-n) % 3) := by
  split
  · exact Int.tmod_eq_emod_of_nonneg (by omega)
  · have h : Int.tmod (-n) 3 = (-n) % 3 := Int.tmod_eq_emod_of_nonneg (by omega)
    rw [Int.neg_tmod] at h; omega
theorem tdiv3 (n : Int) (h : n % 3 = 0) : Int.tdiv n 3 = n / 3 := by
  rw [Int.tdiv_eq_ediv_of_dvd (Int.dvd_of_emod_eq_zero h)]
theorem impl_WordOf_l (k : Nat) (hk : k ≤ 30) : ∀ (d i : Nat) (n : Int) (o : List Int), i + d = k → o.length = i → -100000000000000000 ≤ n → n ≤ 100000000000000000 → Ev (fun m => impl_WordOf.l0 m n o k i) (o ++ word d n, true) := by
  intro d
  induction d with
  | zero =>
    intro i n o hi ho h0 h1
    apply Ev.succ
    simp only [impl_WordOf.l0.eq_2]
    exact Ev.neg (by omega) (Ev.ret (by simp [word]))
  | succ d ih =>
    intro i n o hi ho h0 h1
    apply Ev.succ
    simp only [impl_WordOf.l0.eq_2]
    have ht := tmod3 n
    generalize hr : Int.tmod n 3 = r at *
    have h2 : -2 ≤ r ∧ r ≤ 2 ∧ (r - n) % 3 = 0 := by split at ht <;> omega
    refine Ev.pos (by omega) (Ev.bindc (impl_carried_eq r (by omega)) ?_)
    refine Ev.pos (by omega) ?_
    generalize hs : (if r > 1 then r - 3 else if r < -1 then r + 3 else r) = s
    have hs2 : s = (n + 1) % 3 - 1 := by split at hs <;> first | omega | (split at hs <;> omega)
    have e : Int.tdiv (n - s) 3 = (n + 1) / 3 := by rw [tdiv3 _ (by omega)]; omega
    rw [w64 (n := n - s) (by omega) (by omega), e, w64 (by omega) (by omega), w64 (by omega) (by omega)]
    refine evTo (ih (i + 1) ((n + 1) / 3) (o ++ [s]) (by omega) (by simp [ho]) (by omega) (by omega)) ?_
    rw [word, hs2]; simp
theorem impl_WordOf_ev (n k : Int) : Ev (fun m => impl_WordOf.f m n k) (wordOf n k) := by
  simp only [impl_WordOf.f]
  have no : ¬ (1 ≤ k ∧ k ≤ 30 ∧ fitsB n k = true) → Ev (fun m => impl_WordOf.j0 m n k true) (wordOf n k) := by
    intro h
    apply Ev.succ
    simp only [impl_WordOf.j0.eq_2]
    exact Ev.pos (by simp) (Ev.ret (by unfold wordOf; rw [if_neg h]))
  refine Ev.ite (fun h => no (by omega)) (fun h => Ev.ite (fun h1 => no (by omega)) (fun h1 => ?_))
  refine Ev.bind (impl_fits_ev n k) ?_
  by_cases c : fitsB n k = true
  · rw [c]
    apply Ev.succ
    simp only [impl_WordOf.j0.eq_2]
    refine Ev.neg (by simp) ?_
    have hf := c
    unfold fitsB at hf
    have h2 := lim_nonneg k
    have h3 := lim_le k
    have h4 := of_decide_eq_true hf
    have hl := impl_WordOf_l k.toNat (by omega) k.toNat 0 n [] (by omega) rfl (by omega) (by omega)
    rw [show ((k.toNat : Nat) : Int) = k by omega] at hl
    unfold wordOf; rw [if_pos ⟨by omega, by omega, c⟩]
    simpa using hl
  · rw [Bool.not_eq_true] at c
    rw [c]
    exact no (by rw [c]; simp)

theorem all_ev {α : Type} {β : Type} [DecidableEq β] (g : α → Nat → Option β) (r : α → β) : ∀ (l : List α), (∀ x ∈ l, Ev (g x) (r x)) → ∃ K, ∀ k, K ≤ k → ∀ x ∈ l, g x k = some (r x)
  | [], _ => ⟨0, fun _ _ x hx => absurd hx (by simp)⟩
  | a :: l, h => by
    obtain ⟨K1, h1⟩ := h a (by simp)
    obtain ⟨K2, h2⟩ := all_ev g r l (fun x hx => h x (by simp [hx]))
    refine ⟨max K1 K2, fun k hk x hx => ?_⟩
    rcases List.mem_cons.1 hx with rfl | hx
    · exact h1 k (by omega)
    · exact h2 k (by omega) x hx
theorem cmpok_ev (l : List (List Int)) (hl : ∀ x ∈ l, x.length ≤ 1000000000) : ∃ K, ∀ k, K ≤ k → impl_LyndonWords.cmpok k l := by
  have hl2 : ∀ x ∈ [] :: l, x.length ≤ 1000000000 := fun x hx => by
    rcases List.mem_cons.1 hx with rfl | hx
    · simp
    · exact hl x hx
  have h : ∀ x ∈ [] :: l, ∃ K, ∀ k, K ≤ k → ∀ y ∈ [] :: l, slices_Compare_int_int.f k x y = some (cmpL x y) := fun x hx => all_ev (fun y k => slices_Compare_int_int.f k x y) (fun y => cmpL x y) ([] :: l) (fun y hy => slices_Compare_ev x y (hl2 x hx) (hl2 y hy))
  have h2 : ∀ (m : List (List Int)), (∀ x ∈ m, ∃ K, ∀ k, K ≤ k → ∀ y ∈ [] :: l, slices_Compare_int_int.f k x y = some (cmpL x y)) → ∃ K, ∀ k, K ≤ k → ∀ x ∈ m, ∀ y ∈ [] :: l, slices_Compare_int_int.f k x y = some (cmpL x y) := by
    intro m
    induction m with
    | nil => intro _; exact ⟨0, fun _ _ x hx => absurd hx (by simp)⟩
    | cons a m ih =>
      intro hm
      obtain ⟨K1, h1⟩ := hm a (by simp)
      obtain ⟨K2, h2⟩ := ih (fun x hx => hm x (by simp [hx]))
      refine ⟨max K1 K2, fun k hk x hx => ?_⟩
      rcases List.mem_cons.1 hx with rfl | hx
      · exact h1 k (by omega)
      · exact h2 k (by omega) x hx
  obtain ⟨K, hK⟩ := h2 _ h
  exact ⟨K, fun k hk => hK k hk⟩
theorem lynWords_inner (s : Nat) (hs : 1 ≤ s ∧ s ≤ 7) : ∀ (c : Nat) (n : Int) (out : List (List Int)), n + c = L3 s + 1 → -(L3 s) ≤ n → out.length + c ≤ 1000000 → Ev (fun k => impl_LyndonWords.inner k s c n out) (out ++ gi s c n)
  | 0, n, out, _, _, _ => Ev.ret (by simp [gi])
  | c + 1, n, out, h0, h1, h2 => by
    have hw := word_isWord s n ⟨hs.1, by omega⟩
    have hf : fitsB n (s : Int) = true := (fitsB_iff n s ⟨hs.1, by omega⟩).2 ⟨h1, by omega⟩
    have ew : wordOf n (s : Int) = (word s n, true) := by
      unfold wordOf
      rw [if_pos ⟨by omega, by omega, hf⟩, Int.toNat_natCast]
    simp only [impl_LyndonWords.inner]
    refine Ev.pos (by omega) (Ev.bind (impl_WordOf_ev n s) ?_)
    rw [ew]
    refine Ev.bind (impl_IsLyndon_ev (word s n)) ?_
    rw [hw, Bool.true_and, gi]
    by_cases hl : lyn (word s n) = true
    · rw [if_pos hl, if_pos hl]
      exact evTo (lynWords_inner s hs c (n + 1) (out ++ [word s n]) (by omega) (by omega) (by simp; omega)) (by simp)
    · rw [if_neg hl, if_neg hl]
      exact lynWords_inner s hs c (n + 1) out (by omega) (by omega) (by omega)
theorem gi_length (s : Nat) : ∀ (c : Nat) (n : Int), (gi s c n).length ≤ c
  | 0, _ => by simp [gi]
  | c + 1, n => by
    have := gi_length s c (n + 1)
    rw [gi]; split
    · simp; omega
    · omega
set_option maxRecDepth 100000 in
theorem lynWords_outer (kk : Nat) (hk : 1 ≤ kk ∧ kk ≤ 7) : ∀ (c s : Nat) (out : List (List Int)), s + c = kk + 1 → 1 ≤ s → out.length + c * 2187 ≤ 1000000 → Ev (fun k => impl_LyndonWords.outer k kk c s out) (out ++ implFrom kk c s)
  | 0, s, out, _, _, _ => Ev.ret (by simp [implFrom])
  | c + 1, s, out, h0, h1, h2 => by
    have hs : 1 ≤ s ∧ s ≤ 7 := by omega
    have e3 := L3_pow s
    have hp := pow3_mono (i := s) (n := 7) (by omega)
    have h7 : (3 : Int) ^ 7 = 2187 := by decide
    have e3n : ((3 ^ s : Nat) : Int) = (3 : Int) ^ s := by simp
    simp only [impl_LyndonWords.outer]
    refine Ev.bind (impl_LimitOf_ev (s : Int)) ?_
    rw [lim_eq s ⟨hs.1, by omega⟩]
    refine Ev.pos ⟨L3_nonneg s, by omega⟩ ?_
    have e5 : ((3 ^ s : Nat) : Int) = 2 * L3 s + 1 := by rw [e3n, e3]
    have ec : (2 * L3 s + 1).toNat = 3 ^ s := by rw [← e5, Int.toNat_natCast]
    have hq : 3 ^ s ≤ 2187 := Nat.le_trans (Nat.pow_le_pow_right (by omega) (show s ≤ 7 by omega)) (by decide)
    have ed : ((kk : Int) % (s : Int) = 0) ↔ kk % s = 0 := by omega
    have es : (s : Int) + 1 = ((s + 1 : Nat) : Int) := by omega
    rw [ec, es, implFrom]
    by_cases hd : kk % s = 0
    · have hg := gi_length s (3 ^ s) (-(L3 s))
      simp only [if_pos (ed.2 hd), if_pos hd]
      clear hp h7 e3n e3
      generalize 3 ^ s = q at *
      refine Ev.bind (lynWords_inner s hs q (-(L3 s)) out (by omega) (by omega) (by omega)) ?_
      exact evTo (lynWords_outer kk hk c (s + 1) _ (by omega) (by omega) (by rw [List.length_append]; omega)) (by simp)
    · simp only [if_neg (fun h => hd (ed.1 h)), if_neg hd]
      clear hp h7 e3n e3 e5 ec hq
      exact Ev.bind (Ev.now _) (evTo (lynWords_outer kk hk c (s + 1) out (by omega) (by omega) (by omega)) (by simp))
theorem gi_words (s : Nat) : ∀ (c : Nat) (n : Int), ∀ x ∈ gi s c n, x.length = s
  | 0, _, x, h => by simp [gi] at h
  | c + 1, n, x, h => by
    rw [gi] at h
    split at h
    · rcases List.mem_cons.1 h with rfl | h
      · exact word_length s n
      · exact gi_words s c (n + 1) x h
    · exact gi_words s c (n + 1) x h
theorem implFrom_words (k : Nat) : ∀ (c s : Nat), ∀ x ∈ implFrom k c s, x.length ≤ s + c
  | 0, _, x, h => by simp [implFrom] at h
  | c + 1, s, x, h => by
    rw [implFrom, List.mem_append] at h
    rcases h with h | h
    · split at h
      · have := gi_words s _ _ x h; omega
      · simp at h
    · have := implFrom_words k c (s + 1) x h; omega
set_option maxRecDepth 100000 in
theorem implFrom_length (k : Nat) (hk : k ≤ 7) : ∀ (c s : Nat), s + c ≤ 8 → (implFrom k c s).length ≤ c * 2187
  | 0, _, _ => by simp [implFrom]
  | c + 1, s, h => by
    have ih := implFrom_length k hk c (s + 1) (by omega)
    have hp : 3 ^ s ≤ 2187 := Nat.le_trans (Nat.pow_le_pow_right (by omega) (show s ≤ 7 by omega)) (by decide)
    have hg := gi_length s (3 ^ s) (-(L3 s))
    rw [implFrom, List.length_append]
    generalize 3 ^ s = q at *
    split
    · omega
    · rw [List.length_nil, Nat.zero_add]; omega
theorem specL_words (k : Nat) (hk : 1 ≤ k ∧ k ≤ 7) : (∀ x ∈ specL k, x.length ≤ 8) ∧ (specL k).length ≤ 15309 := by
  have hp : (specL k).Perm (implL k) := by rw [← sort_eq k hk]; exact List.mergeSort_perm _ _
  refine ⟨fun x hx => ?_, ?_⟩
  · have := implFrom_words k k 1 x (hp.mem_iff.1 hx)
    omega
  · have := implFrom_length k hk.2 k 1 (by omega)
    rw [hp.length_eq]
    unfold implL
    omega
theorem implL_ne (k : Nat) (hk : 1 ≤ k) : implL k ≠ [] := by
  have e : implL k = implFrom k (k - 1 + 1) 1 := by unfold implL; rw [Nat.sub_add_cancel hk]
  rw [e, implFrom, if_pos (Nat.mod_one k)]
  have : gi 1 (3 ^ 1) (-(L3 1)) ≠ [] := by decide
  intro h
  exact this (List.append_eq_nil_iff.1 h).1
theorem impl_LyndonWords_ev (kk : Int) : Ev (fun k => impl_LyndonWords.f k kk) (lynW kk) := by
  simp only [impl_LyndonWords.f]
  unfold lynW
  by_cases h : kk < 1 ∨ 7 < kk
  · rw [if_pos h]
    exact Ev.pos h (Ev.now _)
  · rw [if_neg h]
    refine Ev.neg h ?_
    obtain ⟨n, rfl⟩ : ∃ n : Nat, kk = n := ⟨kk.toNat, by omega⟩
    have hn : 1 ≤ n ∧ n ≤ 7 := by omega
    have ho := lynWords_outer n hn n 1 [] (by omega) (by omega) (by simp; omega)
    rw [List.nil_append] at ho
    rw [Int.toNat_natCast]
    refine Ev.bind ho ?_
    have hlen := implFrom_length n hn.2 n 1 (by omega)
    refine Ev.pos ⟨implL_ne n hn.1, by omega⟩ ?_
    obtain ⟨K, hK⟩ := cmpok_ev (implFrom n n 1) (fun x hx => by have := implFrom_words n n 1 x hx; omega)
    refine ⟨K, fun k hk => ?_⟩
    dsimp only
    rw [if_pos (hK k hk)]
    rw [← sort_eq n hn]
    rfl

theorem laws_eqIntS_l (x0 x1 : List Int) (hl : x0.length = x1.length) (hn : x0.length ≤ 35184372088832) : ∀ (d i : Nat), i + d = x0.length → Ev (fun k => laws_eqIntS.l0 k x0 x1 i) (decide (x0.drop i = x1.drop i)) := by
  intro d
  induction d with
  | zero =>
    intro i hi
    apply Ev.succ
    simp only [laws_eqIntS.l0.eq_2]
    refine Ev.neg (by omega) (Ev.ret ?_)
    rw [List.drop_eq_nil_of_le (by omega), List.drop_eq_nil_of_le (by omega)]; simp
  | succ d ih =>
    intro i hi
    apply Ev.succ
    simp only [laws_eqIntS.l0.eq_2]
    refine Ev.pos (by omega) (Ev.pos (by omega) (Ev.pos (by omega) ?_))
    rw [rd_get x0 i (by omega), rd_get x1 i (by omega), drop_cons x0 i (by omega), drop_cons x1 i (by omega)]
    refine Ev.ite (fun h => ?_) (fun h => ?_)
    · rw [w64 (by omega) (by omega)]
      exact evTo (ih (i + 1) (by omega)) (by simp only [List.cons.injEq, h, true_and])
    · exact Ev.ret (by simp only [List.cons.injEq, h, false_and, decide_false])
theorem laws_eqIntS_ev (x0 x1 : List Int) (hn : x0.length ≤ 35184372088832) : Ev (fun k => laws_eqIntS.f k x0 x1) (decide (x0 = x1)) := by
  simp only [laws_eqIntS.f]
  refine Ev.ite (fun h => ?_) (fun h => Ev.ret ?_)
  · exact evTo (laws_eqIntS_l x0 x1 (by omega) hn x0.length 0 (by omega)) (by simp)
  · symm; rw [decide_eq_false_iff_not]; intro e; rw [e] at h; exact h rfl

theorem rdL_get (xs : List (List Int)) (i : Nat) (h : i < xs.length) : rd_L1 xs (i : Int) = xs[i] := by
  simp [rd_L1, List.getD_eq_getElem?_getD, List.getElem?_eq_getElem h]
/-- All numbers of all rows. -/
def tot : List (List Int) → Nat
  | [] => 0
  | x :: xs => x.length + tot xs
theorem tot_drop (xs : List (List Int)) (i : Nat) (h : i < xs.length) : tot (xs.drop i) = xs[i].length + tot (xs.drop (i + 1)) := by
  rw [drop_cons xs i h, tot]
theorem tot_mem {l : List (List Int)} {x : List Int} (h : x ∈ l) : x.length ≤ tot l := by
  induction l with
  | nil => simp at h
  | cons y ys ih =>
    rw [tot]
    rcases List.mem_cons.1 h with rfl | h
    · omega
    · have := ih h; omega

theorem laws_eqIntSS_l (l : List (List Int)) (hl : l.length ≤ 1048576) (hw : ∀ y ∈ l, y.length ≤ 1048576) : ∀ (d i : Nat), i + d = l.length → Ev (fun k => laws_eqIntSS.l0 k l l i) true := by
  intro d
  induction d with
  | zero =>
    intro i hi
    apply Ev.succ
    simp only [laws_eqIntSS.l0.eq_2]
    exact Ev.neg (by omega) (Ev.now _)
  | succ d ihd =>
    intro i hi
    have hlt : i < l.length := by omega
    apply Ev.succ
    simp only [laws_eqIntSS.l0.eq_2]
    refine Ev.pos (by omega) (Ev.pos (by omega) (Ev.pos (by omega) ?_))
    rw [w64 (by omega) (by omega), rdL_get l i hlt]
    refine Ev.bind (laws_eqIntS_ev _ _ (by have := hw _ (List.getElem_mem hlt); omega)) (Ev.pos (by simp) ?_)
    exact ihd (i + 1) (by omega)
theorem laws_eqIntSS_ev (l : List (List Int)) (hl : l.length ≤ 1048576) (hw : ∀ y ∈ l, y.length ≤ 1048576) : Ev (fun k => laws_eqIntSS.f k l l) true := by
  simp only [laws_eqIntSS.f]
  exact Ev.pos trivial (laws_eqIntSS_l l hl hw l.length 0 (by omega))

theorem laws_markIntS_l (n : Nat) (a : Int) (ha0 : 0 ≤ a) (ha : a ≤ 1000000000000000) (hn : n ≤ 35184372088832) : ∀ (d i : Nat) (x0 : List Int), i + d = n → x0.length = n → Ev (fun k => laws_markIntS.l0 k x0 (a + i) i) (a + n, x0.take i ++ (marked n a).drop i) := by
  intro d
  induction d with
  | zero =>
    intro i x0 hi hx
    apply Ev.succ
    simp only [laws_markIntS.l0.eq_2]
    refine Ev.neg (by omega) (Ev.ret ?_)
    rw [List.drop_eq_nil_of_le (by rw [marked_length]; omega), List.take_of_length_le (by omega)]
    simp; omega
  | succ d ih =>
    intro i x0 hi hx
    apply Ev.succ
    simp only [laws_markIntS.l0.eq_2]
    refine Ev.pos (by omega) (Ev.pos (by omega) ?_)
    rw [w64 (by omega) (by omega), w64 (by omega) (by omega)]
    have e1 : a + (i : Int) + 1 = a + ((i + 1 : Nat) : Int) := by omega
    rw [e1]
    refine evTo (ih (i + 1) _ (by omega) (by simp [hx])) ?_
    refine congrArg (Prod.mk _) ?_
    rw [take_snoc _ i (by simp; omega), drop_cons (marked n a) i (by rw [marked_length]; omega)]
    simp [marked, List.take_set_of_le]
theorem laws_markIntS_ev (x0 : List Int) (a : Int) (ha0 : 0 ≤ a) (ha : a ≤ 1000000000000000) (hn : x0.length ≤ 35184372088832) : Ev (fun k => laws_markIntS.f k x0 a) (a + x0.length, marked x0.length a) := by
  have h := laws_markIntS_l x0.length a ha0 ha hn x0.length 0 x0 (by omega) rfl
  simp only [laws_markIntS.f]
  simpa using h

def markedR : List (List Int) → Int → List (List Int)
  | [], _ => []
  | x :: xs, a => marked x.length a :: markedR xs (a + x.length)
theorem laws_markIntSS_s : ∀ (l : List (List Int)) (a : Int) (_ : 0 ≤ a) (_ : a + tot l ≤ 1000000000000) (_ : ∀ y ∈ l, y.length ≤ 1048576), Ev (fun k => laws_markIntSS.s k l a) (a + tot l, markedR l a)
  | [], a, _, _, _ => Ev.ret (by simp [tot, markedR])
  | x :: xs, a, h0, h1, hw => by
    have hx := hw x (by simp)
    simp only [tot] at h1
    simp only [laws_markIntSS.s]
    refine Ev.bind (laws_markIntS_ev x a h0 (by omega) (by omega)) (Ev.bind (laws_markIntSS_s xs (a + x.length) (by omega) (by omega) (fun y hy => hw y (by simp [hy]))) (Ev.ret ?_))
    simp only [tot, markedR]
    congr 1
    omega
theorem laws_markIntSS_ev (l : List (List Int)) (a : Int) (h0 : 0 ≤ a) (h1 : a + tot l ≤ 1000000000000) (hw : ∀ y ∈ l, y.length ≤ 1048576) : Ev (fun k => laws_markIntSS.f k l a) (a + tot l) := by
  simp only [laws_markIntSS.f]
  exact Ev.bind (laws_markIntSS_s l a h0 h1 hw) (Ev.now _)

theorem laws_heldIntS_l (n : Nat) (a : Int) (ha0 : 0 ≤ a) (ha : a ≤ 1000000000000000) (hn : n ≤ 35184372088832) : ∀ (d i : Nat), i + d = n → Ev (fun k => laws_heldIntS.l0 k (marked n a) (a + i) i) (a + n) := by
  intro d
  induction d with
  | zero =>
    intro i hi
    apply Ev.succ
    simp only [laws_heldIntS.l0.eq_2, marked_length]
    refine Ev.neg (by omega) (Ev.ret (by omega))
  | succ d ih =>
    intro i hi
    apply Ev.succ
    simp only [laws_heldIntS.l0.eq_2, marked_length]
    refine Ev.pos (by omega) (Ev.pos (by omega) (Ev.pos ?_ ?_))
    · rw [rd_get _ i (by rw [marked_length]; omega)]; simp [marked]
    · rw [w64 (by omega) (by omega), w64 (by omega) (by omega)]
      have e1 : a + (i : Int) + 1 = a + ((i + 1 : Nat) : Int) := by omega
      rw [e1]
      exact ih (i + 1) (by omega)
theorem laws_heldIntS_ev (n : Nat) (a : Int) (ha0 : 0 ≤ a) (ha : a ≤ 1000000000000000) (hn : n ≤ 35184372088832) : Ev (fun k => laws_heldIntS.f k (marked n a) a) (a + n) := by
  have h := laws_heldIntS_l n a ha0 ha hn n 0 (by omega)
  simp only [laws_heldIntS.f]
  simpa using h

theorem markedR_length : ∀ (l : List (List Int)) (a : Int), (markedR l a).length = l.length
  | [], _ => rfl
  | x :: l, a => by simp [markedR, markedR_length l]
theorem markedR_drop : ∀ (l : List (List Int)) (a : Int) (i : Nat) (h : i < l.length), (markedR l a)[i]'(by rw [markedR_length]; exact h) = marked l[i].length (a + (tot (l.take i) : Nat))
  | x :: l, a, 0, h => by simp [markedR, tot]
  | x :: l, a, i + 1, h => by
    have ih := markedR_drop l (a + x.length) i (by simpa using h)
    simp only [markedR, List.getElem_cons_succ, ih, List.take_succ_cons, tot]
    congr 1
    omega
theorem tot_take_succ : ∀ (l : List (List Int)) (i : Nat) (h : i < l.length), tot (l.take (i + 1)) = tot (l.take i) + l[i].length
  | x :: l, 0, h => by simp [tot]
  | x :: l, i + 1, h => by
    have ih := tot_take_succ l i (by simpa using h)
    simp only [List.take_succ_cons, tot, ih, List.getElem_cons_succ]
    omega
theorem tot_take_le : ∀ (l : List (List Int)) (i : Nat), tot (l.take i) ≤ tot l
  | [], i => by simp [tot]
  | x :: l, 0 => by simp [tot]
  | x :: l, i + 1 => by
    have ih := tot_take_le l i
    simp only [List.take_succ_cons, tot]; omega
theorem laws_heldIntSS_l (l : List (List Int)) (a : Int) (h0 : 0 ≤ a) (h1 : a + tot l ≤ 1000000000000) (hw : ∀ y ∈ l, y.length ≤ 1048576) (hl : l.length ≤ 1000000000) : ∀ (d i : Nat), i + d = l.length → Ev (fun k => laws_heldIntSS.l0 k (markedR l a) (a + (tot (l.take i) : Nat)) i) (a + tot l) := by
  intro d
  induction d with
  | zero =>
    intro i hi
    apply Ev.succ
    simp only [laws_heldIntSS.l0.eq_2]
    refine Ev.neg (by rw [markedR_length]; omega) (Ev.ret ?_)
    rw [List.take_of_length_le (by omega)]
  | succ d ih =>
    intro i hi
    have hil : i < l.length := by omega
    have hle := tot_take_le l i
    have hsu := tot_take_succ l i hil
    have hle2 := tot_take_le l (i + 1)
    have hx := hw l[i] (List.getElem_mem _)
    apply Ev.succ
    simp only [laws_heldIntSS.l0.eq_2]
    rw [rdL_get (markedR l a) i (by rw [markedR_length]; omega), markedR_drop l a i hil, w64 (n := (i : Int) + 1) (by omega) (by omega)]
    refine Ev.pos (by rw [markedR_length]; omega) (Ev.pos (by omega) ?_)
    refine Ev.bind (laws_heldIntS_ev l[i].length (a + (tot (l.take i) : Nat)) (by omega) (by omega) (by omega)) (Ev.neg (by omega) ?_)
    have e : a + (tot (l.take i) : Nat) + (l[i].length : Int) = a + (tot (l.take (i + 1)) : Nat) := by rw [hsu]; omega
    rw [e, show (i : Int) + 1 = ((i + 1 : Nat) : Int) by omega]
    exact ih (i + 1) (by omega)
theorem laws_heldIntSS_ev (l : List (List Int)) (a : Int) (h0 : 0 ≤ a) (h1 : a + tot l ≤ 1000000000000) (hw : ∀ y ∈ l, y.length ≤ 1048576) (hl : l.length ≤ 1000000000) : Ev (fun k => laws_heldIntSS.f k (markedR l a) a) (a + tot l) := by
  simp only [laws_heldIntSS.f]
  have := laws_heldIntSS_l l a h0 h1 hw hl l.length 0 (by omega)
  simpa [tot] using this

end Go.Proofs.Ytemcokpkgpnloaa.LemFnExactLyndonWords
