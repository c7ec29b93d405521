/- Least rotations and the list of Lyndon words. -/
import Derived.Test.YtemcokpkgpnloaaHLemFnNecklaces
set_option linter.unusedVariables false
set_option linter.unusedSimpArgs false
namespace Go.Proofs.Ytemcokpkgpnloaa.HPure
open Go.RowKit Go.Proofs.Ytemcokpkgpnloaa.HFnNecklaces Go.Proofs.YtemcokpkgpnloaaW.PrintWords Go.Proofs.YtemcokpkgpnloaaW.PrintLast Go.Proofs.YtemcokpkgpnloaaW.PrintMore Go.Proofs.Ytemcokpkgpnloaa.Base Go.Proofs.Ytemcokpkgpnloaa.LemFnNecklaces

theorem rot_get (w : List Int) (i p : Nat) (hi : i ≤ w.length) (hp : p < w.length) : (rot w i)[p]? = w[(i + p) % w.length]? := by
  unfold rot
  by_cases h : p < w.length - i
  · rw [List.getElem?_append_left (by simpa using h), List.getElem?_drop, Nat.mod_eq_of_lt (by omega)]
  · rw [List.getElem?_append_right (by simp; omega), List.getElem?_take, List.length_drop, if_pos (by omega)]
    congr 1
    rw [Nat.mod_eq_sub_mod (by omega), Nat.mod_eq_of_lt (by omega)]
    omega
theorem rot_rot (w : List Int) (i j : Nat) (hn : 1 ≤ w.length) (hi : i ≤ w.length) (hj : j ≤ w.length) : rot (rot w j) i = rot w ((i + j) % w.length) := by
  have l1 := rot_length w j hj
  have h3 : (i + j) % w.length < w.length := Nat.mod_lt _ hn
  have l2 := rot_length w ((i + j) % w.length) (by omega)
  have l3 := rot_length (rot w j) i (by omega)
  apply List.ext_getElem?
  intro p
  by_cases hp : p < w.length
  · rw [rot_get (rot w j) i p (by omega) (by omega), l1, rot_get w j _ hj (Nat.mod_lt _ hn), rot_get w _ p (by omega) hp]
    congr 1
    rw [Nat.add_mod, Nat.mod_mod, ← Nat.add_mod, Nat.add_mod ((i + j) % w.length), Nat.mod_mod, ← Nat.add_mod]
    congr 1
    omega
  · rw [List.getElem?_eq_none (by omega), List.getElem?_eq_none (by omega)]
theorem neckFrom_spec (w : List Int) (hn : 1 ≤ w.length) : ∀ (d i : Nat) (b : List Int), i + d ≤ w.length → (∃ m, m < w.length ∧ b = rot w m) →
    (∃ m, m < w.length ∧ neckFrom w i d b = rot w m) ∧ cmpL (neckFrom w i d b) b ≤ 0 ∧ ∀ p, i ≤ p → p < i + d → cmpL (neckFrom w i d b) (rot w p) ≤ 0
  | 0, i, b, _, hb => ⟨hb, by rw [neckFrom, cmpL_self]; omega, fun p h1 h2 => by omega⟩
  | d + 1, i, b, hi, hb => by
    rw [neckFrom]
    by_cases h : cmpL (rot w i) b < 0
    · rw [if_pos h]
      obtain ⟨h1, h2, h3⟩ := neckFrom_spec w hn d (i + 1) (rot w i) (by omega) ⟨i, by omega, rfl⟩
      refine ⟨h1, cmpL_trans _ _ _ h2 (by omega), fun p hp hq => ?_⟩
      by_cases hpi : p = i
      · rw [hpi]; exact h2
      · exact h3 p (by omega) (by omega)
    · rw [if_neg h]
      obtain ⟨h1, h2, h3⟩ := neckFrom_spec w hn d (i + 1) b (by omega) hb
      refine ⟨h1, h2, fun p hp hq => ?_⟩
      by_cases hpi : p = i
      · rw [hpi]
        refine cmpL_trans _ _ _ h2 ?_
        have := cmpL_anti (rot w i) b
        omega
      · exact h3 p (by omega) (by omega)
theorem neck_spec (w : List Int) (hn : 1 ≤ w.length) : (∃ m, m < w.length ∧ neck w = rot w m) ∧ ∀ p, p < w.length → cmpL (neck w) (rot w p) ≤ 0 := by
  obtain ⟨h1, h2, h3⟩ := neckFrom_spec w hn (w.length - 1) 1 w (by omega) ⟨0, by omega, (rot_zero w).symm⟩
  refine ⟨h1, fun p hp => ?_⟩
  by_cases h0 : p = 0
  · rw [h0, rot_zero]; exact h2
  · exact h3 p (by omega) (by omega)
theorem neck_rot (w : List Int) (hn : 1 ≤ w.length) (j : Nat) (hj : j < w.length) : neck (rot w j) = neck w := by
  have l1 := rot_length w j (by omega)
  obtain ⟨⟨m, hm, e1⟩, h1⟩ := neck_spec w hn
  obtain ⟨⟨m2, hm2, e2⟩, h2⟩ := neck_spec (rot w j) (by omega)
  rw [l1] at hm2 h2
  have a1 : cmpL (neck w) (neck (rot w j)) ≤ 0 := by
    rw [e2, rot_rot w m2 j hn (by omega) (by omega)]
    exact h1 _ (Nat.mod_lt _ hn)
  have a2 : cmpL (neck (rot w j)) (neck w) ≤ 0 := by
    have hq : ((m + (w.length - j)) % w.length + j) % w.length = m := by
      rw [Nat.add_mod, Nat.mod_mod, ← Nat.add_mod, show m + (w.length - j) + j = m + w.length by omega, Nat.add_mod_right, Nat.mod_eq_of_lt hm]
    have := h2 ((m + (w.length - j)) % w.length) (Nat.mod_lt _ hn)
    rw [rot_rot w _ j hn (by have := Nat.mod_lt (m + (w.length - j)) hn; omega) (by omega), hq, ← e1] at this
    exact this
  have := cmpL_anti (neck w) (neck (rot w j))
  exact cmpL_eq _ _ (by omega)
theorem lynFrom_neck (w : List Int) : ∀ (d i : Nat), lynFrom w i d = true → neckFrom w i d w = w
  | 0, _, _ => rfl
  | d + 1, i, h => by
    rw [lynFrom] at h
    by_cases hc : cmpL (rot w i) w ≤ 0
    · rw [if_pos hc] at h; exact absurd h (by simp)
    · rw [if_neg hc] at h
      rw [neckFrom, if_neg (by omega)]
      exact lynFrom_neck w d (i + 1) h
theorem lyn_neck (w : List Int) (h : lyn w = true) : neck w = w := lynFrom_neck w _ _ h
theorem lynFrom_not (w : List Int) : ∀ (d i p : Nat), i ≤ p → p < i + d → cmpL (rot w p) w ≤ 0 → lynFrom w i d = false
  | 0, i, p, h1, h2, _ => by omega
  | d + 1, i, p, h1, h2, h3 => by
    rw [lynFrom]
    by_cases hp : p = i
    · rw [← hp, if_pos h3]
    · split
      · rfl
      · exact lynFrom_not w d (i + 1) p (by omega) (by omega) h3
theorem lyn_twice (w : List Int) (hn : 1 ≤ w.length) : lyn (w ++ w) = false := by
  refine lynFrom_not (w ++ w) _ 1 w.length hn (by rw [List.length_append]; omega) ?_
  have : rot (w ++ w) w.length = w ++ w := by
    unfold rot
    rw [List.drop_left, List.take_left]
  rw [this, cmpL_self]
  omega
theorem rot_word (w : List Int) (j : Nat) (hj : j ≤ w.length) (h : isWord w = true) : isWord (rot w j) = true := by
  have hx := (isWord_iff w).1 h
  exact (isWord_iff _).2 ⟨by rw [rot_length w j hj]; exact hx.1, fun a ha => hx.2 a ((rot_mem w j a).1 ha)⟩
/-- What the law asks of the list. -/
def orderB : List (List Int) → Bool
  | [] => true
  | [_] => true
  | a :: b :: r => decide (cmpL a b < 0) && orderB (b :: r)
def lenSum : List (List Int) → Int
  | [] => 0
  | x :: xs => x.length + lenSum xs
def listB (k : Nat) : Bool := (specL k).all (fun x => decide (x.length ≠ 0) && decide (k % x.length = 0) && isWord x && lyn x) && orderB (specL k) && decide (lenSum (specL k) = 3 ^ k)
set_option maxRecDepth 100000
theorem listB1 : listB 1 = true := by decide +kernel
theorem listB2 : listB 2 = true := by decide +kernel
theorem listB3 : listB 3 = true := by decide +kernel
theorem listB4 : listB 4 = true := by decide +kernel
theorem listB5 : listB 5 = true := by decide +kernel
theorem listB6 : listB 6 = true := by decide +kernel
theorem listB_all (k : Nat) (h : 1 ≤ k ∧ k ≤ 6) : listB k = true := by
  have : k = 1 ∨ k = 2 ∨ k = 3 ∨ k = 4 ∨ k = 5 ∨ k = 6 := by omega
  rcases this with rfl | rfl | rfl | rfl | rfl | rfl
  · exact listB1
  · exact listB2
  · exact listB3
  · exact listB4
  · exact listB5
  · exact listB6
theorem order_get : ∀ (l : List (List Int)), orderB l = true → ∀ i (h : i + 1 < l.length), cmpL l[i] l[i + 1] < 0
  | [], _, i, h => by simp at h
  | [_], _, i, h => by simp at h
  | a :: b :: r, hd, 0, h => by
    simp only [orderB, Bool.and_eq_true, decide_eq_true_eq] at hd
    exact hd.1
  | a :: b :: r, hd, i + 1, h => by
    simp only [orderB, Bool.and_eq_true, decide_eq_true_eq] at hd
    exact order_get (b :: r) hd.2 i (by simpa using h)
theorem lenSum_append : ∀ (a b : List (List Int)), lenSum (a ++ b) = lenSum a + lenSum b
  | [], b => by simp [lenSum]
  | x :: a, b => by rw [List.cons_append, lenSum, lenSum_append a b, lenSum]; omega
theorem lenSum_nonneg : ∀ l, 0 ≤ lenSum l
  | [] => by simp [lenSum]
  | x :: xs => by have := lenSum_nonneg xs; rw [lenSum]; omega
section
variable (kk : Nat) (l : List (List Int))
theorem necks_l1 (s : Int) (x y : List Int) (hx : x.length ≤ 1000) (hy : y.length ≤ 1000) (q : Int) (hz : Ev (fun k => laws_FnNecklaces.l0 k (kk : Int) l s l (l.length : Int) (wrap64 (q + 1))) true) : ∀ (d i : Nat), i + d = y.length → i ≤ x.length → cmpL (y.drop i) (x.drop i) < 0 → Ev (fun k => laws_FnNecklaces.l1 k (kk : Int) l s x y (i : Int) l (l.length : Int) q) true := by
  intro d
  induction d with
  | zero =>
    intro i hi hix hc
    apply Ev.succ
    simp only [laws_FnNecklaces.l1.eq_2]
    rw [List.drop_eq_nil_of_le (by omega)] at hc
    have : i < x.length := by
      rcases Nat.lt_or_ge i x.length with h | h
      · exact h
      · rw [List.drop_eq_nil_of_le h] at hc; simp [cmpL] at hc
    exact Ev.neg (by omega) (Ev.neg (by omega) hz)
  | succ d ih =>
    intro i hi hix hc
    have hlt : i < y.length := by omega
    have hlx : i < x.length := by
      rcases Nat.lt_or_ge i x.length with h | h
      · exact h
      · rw [List.drop_eq_nil_of_le h, drop_cons y i hlt] at hc; simp [cmpL] at hc
    rw [drop_cons y i hlt, drop_cons x i hlx, cmpL] at hc
    apply Ev.succ
    simp only [laws_FnNecklaces.l1.eq_2, rd_get y i hlt, rd_get x i hlx]
    refine Ev.pos (by omega) (Ev.pos (by omega) (Ev.pos (by omega) ?_))
    by_cases h1 : y[i] < x[i]
    · exact Ev.neg (by omega) (Ev.neg (by omega) (Ev.neg (by omega) hz))
    · rw [if_neg h1] at hc
      by_cases h2 : y[i] > x[i]
      · rw [if_pos h2] at hc; omega
      · rw [if_neg h2] at hc
        refine Ev.pos (by omega) ?_
        rw [w64 (by omega) (by omega), show (i : Int) + 1 = ((i + 1 : Nat) : Int) by omega]
        exact ih (i + 1) (by omega) (by omega) hc
theorem necks_l0 (hk : 1 ≤ kk ∧ kk ≤ 6) (hl : l.length ≤ 20000) (hx : ∀ x ∈ l, x.length ≠ 0 ∧ x.length ≤ 8 ∧ kk % x.length = 0 ∧ isWord x = true ∧ lyn x = true) (ho : orderB l = true) (hs : lenSum l = 3 ^ kk) : ∀ (d i : Nat), i + d = l.length → Ev (fun k => laws_FnNecklaces.l0 k (kk : Int) l (lenSum (l.take i)) l (l.length : Int) (i : Int)) true := by
  intro d
  induction d with
  | zero =>
    intro i hi
    apply Ev.succ
    simp only [laws_FnNecklaces.l0.eq_2]
    refine Ev.neg (by omega) (Ev.bind (spec_MakePower_ev kk) (Ev.ret ?_))
    rw [List.take_of_length_le (by omega), hs, show (max 0 (min (kk : Int) 30)).toNat = kk by omega]
    simp
  | succ d ih =>
    intro i hi
    have hlt : i < l.length := by omega
    obtain ⟨x0, x1, x2, x3, x4⟩ := hx _ (List.getElem_mem hlt)
    have ih := ih (i + 1) (by omega)
    have e3 : (3 : Int) ^ kk ≤ 3 ^ 6 := pow3_mono hk.2
    have e6 : (3 : Int) ^ 6 = 729 := by decide
    have hsum : lenSum (l.take i) + (l[i].length : Int) + lenSum (l.drop (i + 1)) = 3 ^ kk := by
      rw [← hs]
      conv => rhs; rw [← List.take_append_drop i l, lenSum_append, drop_cons l i hlt, lenSum]
      omega
    have n1 := lenSum_nonneg (l.take i)
    have n2 := lenSum_nonneg (l.drop (i + 1))
    rw [take_snoc l i hlt, lenSum_append, lenSum, lenSum, Int.add_zero] at ih
    apply Ev.succ
    simp only [laws_FnNecklaces.l0.eq_2, rdL_get l i hlt]
    refine Ev.pos (by omega) (Ev.pos (by omega) (Ev.pos (by omega) (Ev.neg (by omega) (Ev.pos ?_ ?_))))
    · rw [Int.tmod_eq_emod_of_nonneg (by omega)]; omega
    refine Ev.bind (impl_IsLyndon_ev _) ?_
    rw [x3, x4, w64 (n := lenSum (l.take i) + (l[i].length : Int)) (by omega) (by omega)]
    refine Ev.pos rfl ?_
    have hi1 : Aside0 (wrap64 ((i : Int) + 1) = ((i + 1 : Nat) : Int)) := ⟨by rw [w64 (by omega) (by omega)]; omega⟩
    by_cases h0 : i = 0
    · refine Ev.pos (by omega) ?_
      rw [hi1.out]; exact ih
    · refine Ev.neg (by omega) ?_
      obtain ⟨j, rfl⟩ : ∃ j, i = j + 1 := ⟨i - 1, by omega⟩
      have hj : Aside0 (wrap64 (((j + 1 : Nat) : Int) - 1) = (j : Int)) := ⟨by rw [w64 (by omega) (by omega)]; omega⟩
      have hjl : j < l.length := by omega
      have y1 := (hx _ (List.getElem_mem hjl)).2.1
      simp only [hj.out, rdL_get l j hjl]
      refine Ev.pos (by omega) (Ev.pos (by omega) ?_)
      refine necks_l1 kk l _ l[j + 1] l[j] (by omega) (by omega) _ ?_ l[j].length 0 (by omega) (by omega) ?_
      · rw [hi1.out]; exact ih
      · exact order_get l ho j hlt
end
theorem necks_j1 (l0 : List Int) (hlen : l0.length ≤ 1048576) (h8 : ∀ x ∈ l0, (Lit.int .u8 x).wf = true) : Ev (fun k => laws_FnNecklaces.j1 k l0 false) true := by
  apply Ev.succ
  simp only [laws_FnNecklaces.j1.eq_2]
  have a2 := atv_range l0 2 h8
  refine Ev.neg (by simp) (Ev.bindc (laws_at_eq l0 2 hlen (by omega) h8) ?_)
  generalize atv l0 2 = b at *
  obtain ⟨kk, hkk, hk⟩ : ∃ kk : Nat, wrap64 (1 + Int.tmod b 6) = (kk : Int) ∧ 1 ≤ kk ∧ kk ≤ 6 := by
    refine ⟨(1 + b % 6).toNat, ?_, by omega⟩
    rw [Int.tmod_eq_emod_of_nonneg (by omega), w64 (by omega) (by omega)]
    omega
  simp only [hkk]
  have ew : Ev (fun k => impl_LyndonWords.f k (kk : Int)) (specL kk, true) := evTo (impl_LyndonWords_ev kk) (by
    unfold lynW
    rw [if_neg (by omega), Int.toNat_natCast])
  refine Ev.bind ew (Ev.pos rfl ?_)
  obtain ⟨w1, w2⟩ := specL_words kk ⟨hk.1, by omega⟩
  have hb := listB_all kk hk
  simp only [listB, Bool.and_eq_true, List.all_eq_true, decide_eq_true_eq] at hb
  obtain ⟨⟨c1, c2⟩, c3⟩ := hb
  exact necks_l0 kk (specL kk) hk (by omega) (fun x hx => ⟨(c1 x hx).1.1.1, w1 x hx, (c1 x hx).1.1.2, (c1 x hx).1.2, (c1 x hx).2⟩) c2 c3 (specL kk).length 0 (by omega)
theorem FnNecklaces : laws_FnNecklaces.Pure := by
  intro l _ _ h8
  apply Ev.rounds
  simp only [laws_FnNecklaces.f]
  refine Ev.ite (fun _ => Ev.now _) (fun h => ?_)
  have hlen : l.length ≤ 1048576 := by omega
  obtain ⟨w, hw, hww, hwl⟩ := spec_MakeWord_ev l (by omega) 14 (by omega) (by omega)
  have hx := (isWord_iff w).1 hww
  have hn := hx.1.1
  have a1 := atv_range l 1 h8
  refine Ev.bind hw (Ev.bind (impl_NecklaceOf_ev w) (Ev.bindc (laws_at_eq l 1 hlen (by omega) h8) ?_))
  generalize atv l 1 = b at *
  have b1 : wrap64 (b - 100) = b - 100 := w64 (by omega) (by omega)
  have b2 : wrap64 (-(wrap64 (b - 100))) = 100 - b := by rw [b1, w64 (by omega) (by omega)]; omega
  have e1 := Int.emod_nonneg (b - 100) (show (w.length : Int) ≠ 0 by omega)
  have e2 := Int.emod_lt_of_pos (b - 100) (show (0 : Int) < w.length by omega)
  obtain ⟨j, hj⟩ : ∃ j : Nat, ((b - 100) % (w.length : Int)).toNat = j := ⟨_, rfl⟩
  have hjl : j < w.length := by omega
  have er : Ev (fun k => impl_RotateWord.f k w (wrap64 (b - 100))) (rot w j) := evTo (impl_RotateWord_ev w _) (by unfold rotV; rw [if_pos hww, b1, hj])
  refine Ev.bind er ?_
  rw [if_pos hww]
  have hjw := rot_word w j (by omega) hww
  have hrl := rot_length w j (by omega)
  have nl := neck_length w hn
  obtain ⟨⟨m, hm, em⟩, _⟩ := neck_spec w hn
  have hnw : isWord (neck w) = true := by rw [em]; exact rot_word w m (by omega) hww
  refine Ev.pos (by omega) (Ev.bind (impl_NecklaceOf_ev (rot w j)) ?_)
  rw [if_pos hjw, neck_rot w hn j hjl]
  refine Ev.bind (laws_ints_ev _ _ (by omega)) (Ev.pos (by simp) (Ev.bind (impl_NecklaceOf_ev (neck w)) ?_))
  have hnn : neck (neck w) = neck w := by
    conv => lhs; rw [em]
    exact neck_rot w hn m hm
  rw [if_pos hnw, hnn]
  refine Ev.bind (laws_ints_ev _ _ (by omega)) (Ev.pos (by simp) ?_)
  have eb : Ev (fun k => impl_RotateWord.f k (rot w j) (wrap64 (-(wrap64 (b - 100))))) w := evTo (impl_RotateWord_ev (rot w j) _) (by
    unfold rotV
    rw [if_pos hjw, b2, hrl]
    have f1 := Int.emod_nonneg (100 - b) (show (w.length : Int) ≠ 0 by omega)
    have f2 := Int.emod_lt_of_pos (100 - b) (show (0 : Int) < w.length by omega)
    rw [rot_rot w _ j hn (by omega) (by omega)]
    have hz : ((100 - b) % (w.length : Int)).toNat + j = 0 ∨ ((100 - b) % (w.length : Int)).toNat + j = w.length := by
      have g1 := Int.emod_add_mul_ediv (b - 100) (w.length : Int)
      have g2 := Int.emod_add_mul_ediv (100 - b) (w.length : Int)
      have hjz : (j : Int) = (b - 100) % (w.length : Int) := by omega
      generalize hp : (100 - b) % (w.length : Int) = p at *
      generalize (b - 100) / (w.length : Int) = u at *
      generalize (100 - b) / (w.length : Int) = v at *
      rw [← hjz] at g1
      have hsum : p + j = (w.length : Int) * (-(u + v)) := by
        rw [Int.mul_neg, Int.mul_add]; omega
      have hpj : 0 ≤ p + j ∧ p + j < 2 * w.length := by omega
      generalize -(u + v) = t at hsum
      have ht : t = 0 ∨ t = 1 := by
        rcases Int.lt_trichotomy t 0 with h | h | h
        · have : (w.length : Int) * t ≤ (w.length : Int) * (-1) := Int.mul_le_mul_of_nonneg_left (by omega) (by omega)
          omega
        · exact .inl h
        · by_cases h2 : t = 1
          · exact .inr h2
          · have : (w.length : Int) * 2 ≤ (w.length : Int) * t := Int.mul_le_mul_of_nonneg_left (by omega) (by omega)
            omega
      rcases ht with h | h
      · rw [h, Int.mul_zero] at hsum; left; omega
      · rw [h, Int.mul_one] at hsum; right; omega
    rcases hz with h | h
    · rw [h, Nat.zero_mod, rot_zero]
    · rw [h, Nat.mod_self, rot_zero])
  refine Ev.bind eb (Ev.bind (laws_ints_ev _ _ (by omega)) (Ev.pos (by simp) (Ev.bind (impl_SumOf_ev (rot w j)) (Ev.bind (impl_SumOf_ev w) ?_))))
  have hsum : sumL (rot w j) = sumL w := by
    unfold rot
    rw [sumL_append, Int.add_comm, ← sumL_append, List.take_append_drop]
  rw [if_pos hjw, if_pos hww, hsum]
  apply Ev.succ
  simp only [laws_FnNecklaces.j0.eq_2]
  have ht : Ev (fun k => impl_IsLyndon.f k (w ++ w)) false := evTo (impl_IsLyndon_ev _) (by rw [lyn_twice w hn, Bool.and_false])
  refine Ev.neg (by simp) (Ev.bind (impl_IsLyndon_ev w) ?_)
  rw [hww, Bool.true_and]
  have hj1 := necks_j1 l hlen h8
  refine Ev.ite (fun hl => ?_) (fun hl => ?_)
  · rw [lyn_neck w hl]
    refine Ev.bind (laws_ints_ev w w (by omega)) (Ev.pos (by simp) (Ev.bindc rfl (Ev.pos (by simp; omega) (Ev.bindc rfl (Ev.pos (by simp; omega) ?_)))))
    simp only [List.nil_append]
    exact Ev.bind ht hj1
  · refine Ev.bindc rfl (Ev.pos (by simp; omega) (Ev.bindc rfl (Ev.pos (by simp; omega) ?_)))
    simp only [List.nil_append]
    exact Ev.bind ht hj1

end Go.Proofs.Ytemcokpkgpnloaa.HPure
