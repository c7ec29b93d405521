/- A thing is weighed by weights of powers of 3, each used once at most, and its balance tells what is lighter or heavier by 1. -/
import Derived.Test.YtffohdlbkigehaaHLemFnWeighed
set_option linter.unusedVariables false
set_option linter.unusedSimpArgs false
namespace Go.Proofs.Ytffohdlbkigehaa.HPure
open Go.RowKit Go.Proofs.Ytffohdlbkigehaa.HFnWeighed Go.Proofs.YtffohdlbkigehaaW.PrintWords Go.Proofs.YtffohdlbkigehaaW.PrintLast Go.Proofs.YtffohdlbkigehaaW.PrintMore Go.Proofs.Ytffohdlbkigehaa.Base Go.Proofs.Ytffohdlbkigehaa.LemFnWeighed

theorem bad_of : ∀ (c seen : List Int), (∀ x ∈ c, 0 ≤ x ∧ x < 30) → c.Nodup → (∀ x ∈ c, x ∉ seen) → impl_BalanceOf.bad seen c = false
  | [], _, _, _, _ => rfl
  | i :: c, seen, h1, h2, h3 => by
    have hi := h1 i (by simp)
    have hs := h3 i (by simp)
    rw [List.nodup_cons] at h2
    simp only [impl_BalanceOf.bad]
    rw [bad_of c (seen ++ [i]) (fun x hx => h1 x (by simp [hx])) h2.2 (fun x hx hm => by
      rcases List.mem_append.1 hm with hm | hm
      · exact h3 x (by simp [hx]) hm
      · rw [List.mem_singleton.1 hm] at hx; exact h2.1 hx)]
    simp [hs]
    omega
theorem idx_mem (v : Int) : ∀ (w : List Int) (i x : Int), x ∈ idx v w i → ∃ j : Nat, ∃ h : j < w.length, x = i + j ∧ w[j] = v
  | [], i, x, h => by simp [idx] at h
  | a :: w, i, x, h => by
    have go : x ∈ idx v w (i + 1) → ∃ j : Nat, ∃ h : j < (a :: w).length, x = i + j ∧ (a :: w)[j] = v := by
      intro h
      obtain ⟨j, hj, e, hv⟩ := idx_mem v w (i + 1) x h
      exact ⟨j + 1, by simp; omega, by omega, by simpa using hv⟩
    rw [idx] at h
    split at h
    · next ha =>
      rcases List.mem_cons.1 h with h | h
      · exact ⟨0, by simp, by simpa using h, by simpa using ha⟩
      · exact go h
    · exact go h
theorem idx_nodup (v : Int) : ∀ (w : List Int) (i : Int), (idx v w i).Nodup
  | [], i => by simp [idx]
  | a :: w, i => by
    rw [idx]
    split
    · rw [List.nodup_cons]
      refine ⟨fun h => ?_, idx_nodup v w (i + 1)⟩
      obtain ⟨j, _, e, _⟩ := idx_mem v w (i + 1) i h
      omega
    · exact idx_nodup v w (i + 1)
theorem idx_good (w : List Int) (hw : w.length ≤ 30) : impl_BalanceOf.bad [] (idx (-1) w 0 ++ idx 1 w 0) = false := by
  refine bad_of _ _ (fun x hx => ?_) ?_ (by simp)
  · rcases List.mem_append.1 hx with hx | hx
    all_goals
      obtain ⟨j, hj, e, _⟩ := idx_mem _ w 0 x hx
      omega
  · rw [List.nodup_append]
    refine ⟨idx_nodup _ _ _, idx_nodup _ _ _, fun a ha b hb e => ?_⟩
    obtain ⟨j, hj, e1, h1⟩ := idx_mem _ w 0 a ha
    obtain ⟨m, hm, e2, h2⟩ := idx_mem _ w 0 b hb
    have : j = m := by omega
    subst this
    omega
theorem idx_val : ∀ (w : List Int) (_ : ∀ a ∈ w, -1 ≤ a ∧ a ≤ 1) (i : Nat), p3 (idx 1 w i) - p3 (idx (-1) w i) = 3 ^ i * val w
  | [], _, i => by simp [idx, p3, val]
  | a :: w, h, i => by
    have ih := idx_val w (fun b hb => h b (by simp [hb])) (i + 1)
    have ha := h a (by simp)
    have e : ((i + 1 : Nat) : Int) = (i : Int) + 1 := by omega
    rw [e, pow3_succ] at ih
    have e2 : (3 : Int) ^ i * val (a :: w) = 3 ^ i * a + 3 * 3 ^ i * val w := by
      rw [val, Int.mul_add, ← Int.mul_assoc, Int.mul_comm (3 ^ i) 3]
    rw [e2, idx, idx]
    have : a = -1 ∨ a = 0 ∨ a = 1 := by omega
    rcases this with rfl | rfl | rfl
    · rw [if_neg (by decide), if_pos rfl, p3, Int.toNat_natCast]
      omega
    · rw [if_neg (by decide), if_neg (by decide)]
      omega
    · rw [if_pos rfl, if_neg (by decide), p3, Int.toNat_natCast]
      omega
theorem idx_sq : ∀ (w : List Int) (_ : ∀ a ∈ w, -1 ≤ a ∧ a ≤ 1) (i : Int), ((idx (-1) w i).length : Int) + (idx 1 w i).length = sq w
  | [], _, i => by simp [idx, sq]
  | a :: w, h, i => by
    have ih := idx_sq w (fun b hb => h b (by simp [hb])) (i + 1)
    have ha := h a (by simp)
    rw [idx, idx, sq]
    have : a = -1 ∨ a = 0 ∨ a = 1 := by omega
    rcases this with rfl | rfl | rfl
    · rw [if_pos rfl, if_neg (by decide), List.length_cons]
      omega
    · rw [if_neg (by decide), if_neg (by decide)]
      omega
    · rw [if_neg (by decide), if_pos rfl, List.length_cons]
      omega
theorem make_ev (x : Int) (h : 0 ≤ x ∧ x < 30) : Ev (fun k => spec_MakePower.f k x) ((3 : Int) ^ x.toNat) := by
  have := spec_MakePower_ev x
  rwa [show max 0 (min x 30) = x by omega] at this
section
variable (n : Int) (hn : 0 ≤ n ∧ n ≤ L3 30)
theorem weighed_end (hn : 0 ≤ n ∧ n ≤ L3 30) : Ev (fun k => (spec_LengthOf.f k n).bind fun t239 => ((spec_WordOf.f k n t239).bind fun bt240 => ((spec_WeightOf.f k bt240.1).bind fun t244 => (some ((wrap64 (((idx (-1) (word 30 n) 0).length : Int) + ((idx 1 (word 30 n) 0).length : Int))) == t244))))) true := by
  have hb := L3_30 (i := 30) (by omega)
  rcases lenOf_spec n with h | ⟨m, h1, h2, h3, h4, _⟩
  · exact absurd (show -(L3 30) ≤ n ∧ n ≤ L3 30 by omega) h.2
  · have hw := word_isWord m n ⟨h2, h3⟩
    have hf : fitsB n (m : Int) = true := (fitsB_iff n m ⟨h2, h3⟩).2 h4
    have ew : wordOf n (m : Int) = (word m n, true) := by
      unfold wordOf
      rw [if_pos ⟨by omega, by omega, hf⟩, Int.toNat_natCast]
    refine Ev.bind (spec_LengthOf_ev n) (Ev.bind (spec_WordOf_ev n _) ?_)
    rw [h1, ew]
    refine Ev.bind (spec_WeightOf_ev _ hw) (Ev.ret ?_)
    have e30 : word 30 n = word m n ++ List.replicate (30 - m) 0 := by
      have := word_ext m (30 - m) n h4.1 h4.2
      rwa [show m + (30 - m) = 30 by omega] at this
    have hs := idx_sq (word 30 n) (word_trits 30 n) 0
    have l1 := idx_length (-1) (word 30 n) 0
    have l2 := idx_length 1 (word 30 n) 0
    rw [word_length] at l1 l2
    rw [w64 (by omega) (by omega), hs, e30]
    have : ∀ a d, sq (a ++ List.replicate d 0) = sq a := by
      intro a d
      induction a with
      | nil => induction d with
        | zero => rfl
        | succ d ih => rw [List.nil_append] at ih ⊢; rw [List.replicate_succ]; simp only [sq, ih]; rfl
      | cons x a ih => rw [List.cons_append, sq, ih, sq]
    rw [this]
    simp
theorem weighed_l1 (hn : 0 ≤ n ∧ n ≤ L3 30) : ∀ (d i : Nat) (s : Int), i + d = (idx 1 (word 30 n) 0).length → s = p3 ((idx 1 (word 30 n) 0).drop i) → s ≤ 1000000000000000 → Ev (fun k => laws_FnWeighed.l1 k n 0 true 1 true (-1) true s (idx 1 (word 30 n) 0) (idx 1 (word 30 n) 0).length i (idx (-1) (word 30 n) 0) (idx 1 (word 30 n) 0)) true := by
  intro d
  induction d with
  | zero =>
    intro i s hi hs hb
    apply Ev.succ
    simp only [laws_FnWeighed.l1.eq_2]
    rw [List.drop_eq_nil_of_le (by omega)] at hs
    refine Ev.neg (by omega) ?_
    simp only [hs, p3, if_true]
    exact weighed_end n hn
  | succ d ih =>
    intro i s hi hs hb
    have hlt : i < (idx 1 (word 30 n) 0).length := by omega
    have l2 := idx_length 1 (word 30 n) 0
    rw [word_length] at l2
    apply Ev.succ
    simp only [laws_FnWeighed.l1.eq_2]
    rw [drop_cons _ i hlt, p3] at hs
    have hp := p3_nonneg ((idx 1 (word 30 n) 0).drop (i + 1))
    have hr := bad_range _ _ (idx_good (word 30 n) (by rw [word_length]; omega)) (idx 1 (word 30 n) 0)[i] (by simp)
    have hq := pow3_pos ((idx 1 (word 30 n) 0)[i]).toNat
    refine Ev.pos (by omega) (Ev.pos (by omega) (Ev.pos (by omega) ?_))
    rw [rd_get _ i hlt]
    refine Ev.bind (make_ev _ hr) ?_
    rw [w64 (by omega) (by omega), w64 (n := (i : Int) + 1) (by omega) (by omega), show (i : Int) + 1 = ((i + 1 : Nat) : Int) by omega]
    exact ih (i + 1) _ (by omega) (by omega) (by omega)
theorem weighed_l0 (hn : 0 ≤ n ∧ n ≤ L3 30) (hR : p3 (idx 1 (word 30 n) 0) ≤ 1000000000000000) : ∀ (d i : Nat) (s : Int), i + d = (idx (-1) (word 30 n) 0).length → s + p3 ((idx (-1) (word 30 n) 0).drop i) = p3 (idx 1 (word 30 n) 0) → 0 ≤ s → Ev (fun k => laws_FnWeighed.l0 k n 0 true 1 true (-1) true s (idx (-1) (word 30 n) 0) (idx (-1) (word 30 n) 0).length i (idx (-1) (word 30 n) 0) (idx 1 (word 30 n) 0)) true := by
  intro d
  induction d with
  | zero =>
    intro i s hi hs hb
    apply Ev.succ
    simp only [laws_FnWeighed.l0.eq_2]
    rw [List.drop_eq_nil_of_le (by omega)] at hs
    simp only [p3] at hs
    refine Ev.neg (by omega) ?_
    exact weighed_l1 n hn (idx 1 (word 30 n) 0).length 0 s (by omega) (by simpa using hs) (by omega)
  | succ d ih =>
    intro i s hi hs hb
    have hlt : i < (idx (-1) (word 30 n) 0).length := by omega
    have l2 := idx_length (-1) (word 30 n) 0
    rw [word_length] at l2
    apply Ev.succ
    simp only [laws_FnWeighed.l0.eq_2]
    rw [drop_cons _ i hlt, p3] at hs
    have hp := p3_nonneg ((idx (-1) (word 30 n) 0).drop (i + 1))
    have hr := bad_range _ _ (idx_good (word 30 n) (by rw [word_length]; omega)) (idx (-1) (word 30 n) 0)[i] (by simp)
    have hq := pow3_pos ((idx (-1) (word 30 n) 0)[i]).toNat
    refine Ev.pos (by omega) (Ev.pos (by omega) (Ev.pos (by omega) ?_))
    rw [rd_get _ i hlt]
    refine Ev.bind (make_ev _ hr) ?_
    rw [w64 (by omega) (by omega), w64 (n := (i : Int) + 1) (by omega) (by omega), show (i : Int) + 1 = ((i + 1 : Nat) : Int) by omega]
    exact ih (i + 1) _ (by omega) (by omega) (by omega)
end
theorem FnWeighed : laws_FnWeighed.Pure := by
  intro l _ _ _
  apply Ev.rounds
  simp only [laws_FnWeighed.f]
  refine Ev.ite (fun _ => Ev.now _) (fun h => ?_)
  obtain ⟨w, hw, hww, hwl⟩ := spec_MakeWord_ev l (by omega) 29 (by omega) (by omega)
  refine Ev.bind hw (Ev.bind (spec_ValueOf_ev w hww) ?_)
  have hwi := (isWord_iff w).1 hww
  have hr := val_range w hwi.2
  have hm := L3_mono (i := w.length) (n := 29) (by omega)
  have h30 : L3 30 = 102945566047324 := by decide
  have h29 : L3 29 = 34315188682441 := by decide
  generalize val w = n at *
  by_cases h0 : 0 ≤ n
  · have hn : 0 ≤ n ∧ n ≤ L3 30 := by omega
    have ew : Ev (fun k => impl_WeighThing.f k n) (idx (-1) (word 30 n) 0, idx 1 (word 30 n) 0, true) := evTo (impl_WeighThing_ev n) (by simp only [weighT]; rw [if_pos hn])
    refine Ev.bind ew (Ev.neg (by simp [h0]) (Ev.pos rfl ?_))
    have hL : (idx (-1) (word 30 n) 0).length ≤ 1048576 := by have := idx_length (-1) (word 30 n) 0; rw [word_length] at this; omega
    have hR : (idx 1 (word 30 n) 0).length ≤ 1048576 := by have := idx_length 1 (word 30 n) 0; rw [word_length] at this; omega
    have hg := idx_good (word 30 n) (by rw [word_length]; omega)
    have hv := idx_val (word 30 n) (word_trits 30 n) 0
    rw [val_word 30 n (by omega) (by omega)] at hv
    simp only [Int.natCast_zero, Int.pow_zero, Int.one_mul] at hv
    obtain ⟨_, _, _, _, _, hb1, hb2⟩ := good_balance _ _ hg
    have hbal : ∀ m : Int, -(L3 30) ≤ m → m ≤ L3 30 → balB (idx (-1) (word 30 n) 0) (idx 1 (word 30 n) 0) m = (sgn (m - n), true) := by
      intro m m0 m1
      unfold balB
      rw [if_neg, show m + p3 (idx (-1) (word 30 n) 0) - p3 (idx 1 (word 30 n) 0) = m - n by omega]
      rw [hg]
      intro hc
      rcases lenOf_spec m with h2 | ⟨q, h2, h3, _⟩
      · exact h2.2 ⟨m0, m1⟩
      · rcases hc with hc | hc
        · omega
        · exact absurd hc (by simp)
    refine Ev.bind (impl_BalanceOf_ev _ _ hL hR n) (Ev.bind (impl_BalanceOf_ev _ _ hL hR _) (Ev.bind (impl_BalanceOf_ev _ _ hL hR _) ?_))
    rw [w64 (n := n + 1) (by omega) (by omega), w64 (n := n - 1) (by omega) (by omega), hbal n (by omega) (by omega), hbal (n + 1) (by omega) (by omega), hbal (n - 1) (by omega) (by omega)]
    have s0 : sgn (n - n) = 0 := by rw [Int.sub_self]; rfl
    have s1 : sgn (n + 1 - n) = 1 := by rw [show n + 1 - n = 1 by omega]; rfl
    have s2 : sgn (n - 1 - n) = -1 := by rw [show n - 1 - n = -1 by omega]; rfl
    rw [s0, s1, s2]
    exact weighed_l0 n hn (by omega) (idx (-1) (word 30 n) 0).length 0 n (by omega) (by simp; omega) (by omega)
  · have ew : Ev (fun k => impl_WeighThing.f k n) ([], [], false) := evTo (impl_WeighThing_ev n) (by simp only [weighT]; rw [if_neg (by omega)])
    refine Ev.bind ew (Ev.neg (by simp; omega) (Ev.neg (by simp) (Ev.now _)))

end Go.Proofs.Ytffohdlbkigehaa.HPure
