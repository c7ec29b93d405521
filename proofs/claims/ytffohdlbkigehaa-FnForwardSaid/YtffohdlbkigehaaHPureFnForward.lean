import Derived.Test.YtffohdlbkigehaaHLemFnForward
set_option linter.unusedVariables false
set_option linter.unusedSimpArgs false
namespace Go.Proofs.Ytffohdlbkigehaa.HPure
open Go.RowKit Go.Proofs.Ytffohdlbkigehaa.HFnForward Go.Proofs.YtffohdlbkigehaaW.PrintWords Go.Proofs.YtffohdlbkigehaaW.PrintLast Go.Proofs.YtffohdlbkigehaaW.PrintMore Go.Proofs.Ytffohdlbkigehaa.Base Go.Proofs.Ytffohdlbkigehaa.LemFnForward

/- Of a word and its negative exactly one turns forward, unless all trits are equal; turning keeps the direction; as many turn forward as there are coins. No condition. -/
/-- How many words of k trits turn forward, out of d numbers from i on. -/
def cntF (k : Nat) : Nat → Int → Nat
  | 0, _ => 0
  | d + 1, i => (if fwd (word k i) = true then 1 else 0) + cntF k d (i + 1)
theorem cntF_2 : cntF 2 9 (-4) = 3 := by decide +kernel
theorem cntF_3 : cntF 3 27 (-13) = 12 := by decide +kernel
theorem cntF_4 : cntF 4 81 (-40) = 39 := by decide +kernel
theorem cntF_5 : cntF 5 243 (-121) = 120 := by decide +kernel
theorem laws_FnForward_l1 (k : Nat) (hk : 2 ≤ k ∧ k ≤ 5) : ∀ (d : Nat) (i s : Int), i + d = L3 k + 1 → -(L3 k) ≤ i → 0 ≤ s → s + d ≤ 1000000 → Ev (fun n => laws_FnForward.l1 n k s i) (s + cntF k d i == (3 ^ k - 3) / 2) := by
  have hL := lim_eq k (by omega)
  have h30 := L3_30 (i := k) (by omega)
  have h0 := L3_nonneg k
  have hL5 : L3 k ≤ 121 := by have := L3_mono hk.2; have e : L3 5 = 121 := by decide
                              omega
  intro d
  induction d with
  | zero =>
    intro i s hi h1 h2 h3
    apply Ev.succ
    simp only [laws_FnForward.l1.eq_2]
    refine Ev.bind (impl_LimitOf_ev k) ?_
    rw [hL]
    refine Ev.neg (by omega) ?_
    refine Ev.bind (impl_CoinsFor_ev k) (Ev.ret ?_)
    rw [if_pos (by omega)]
    simp [cntF]
  | succ d ih =>
    intro i s hi h1 h2 h3
    apply Ev.succ
    simp only [laws_FnForward.l1.eq_2]
    refine Ev.bind (impl_LimitOf_ev k) ?_
    rw [hL]
    refine Ev.pos (by omega) ?_
    refine Ev.bind (spec_WordOf_ev i k) ?_
    have hf : fitsB i k = true := (fitsB_iff i k (by omega)).2 (by omega)
    have hw : wordOf i k = (word k i, true) := by unfold wordOf; rw [if_pos ⟨by omega, by omega, hf⟩]; simp
    rw [hw]
    refine Ev.pos rfl ?_
    refine Ev.bind (impl_TurnsForward_ev (word k i)) ?_
    rw [word_isWord k i (by omega), Bool.true_and, w64 (n := s + 1) (by omega) (by omega), w64 (n := i + 1) (by omega) (by omega), cntF]
    refine Ev.ite (fun c => ?_) (fun c => ?_)
    · refine evTo (ih (i + 1) (s + 1) (by omega) (by omega) (by omega) (by omega)) ?_
      rw [if_pos c]
      have e : s + 1 + (cntF k d (i + 1) : Int) = s + ((1 + cntF k d (i + 1) : Nat) : Int) := by omega
      rw [e]
    · refine evTo (ih (i + 1) s (by omega) (by omega) (by omega) (by omega)) ?_
      rw [if_neg c]
      simp
theorem laws_FnForward_l1' (k : Nat) (hk : 2 ≤ k ∧ k ≤ 5) : Ev (fun n => laws_FnForward.l1 n k 0 (-(L3 k))) true := by
  have h1 := L3_mono hk.2
  have e5 : L3 5 = 121 := by decide
  have h := laws_FnForward_l1 k hk (2 * L3 k + 1).toNat (-(L3 k)) 0 (by have := L3_nonneg k; omega) (by omega) (by omega) (by omega)
  refine evTo h ?_
  rcases (show k = 2 ∨ k = 3 ∨ k = 4 ∨ k = 5 by omega) with rfl | rfl | rfl | rfl
  · have e : L3 2 = 4 := by decide
    rw [e]; simp [cntF_2]
  · have e : L3 3 = 13 := by decide
    rw [e]; simp [cntF_3]
  · have e : L3 4 = 40 := by decide
    rw [e]; simp [cntF_4]
  · have e : L3 5 = 121 := by decide
    rw [e]; simp [cntF_5]
theorem laws_FnForward_j1 (l : List Int) (hlen : l.length ≤ 1048576) (hl8 : ∀ x ∈ l, (Lit.int .u8 x).wf = true) : Ev (fun k => laws_FnForward.j1 k l false) true := by
  apply Ev.succ
  simp only [laws_FnForward.j1.eq_2]
  refine Ev.neg (by simp) ?_
  refine Ev.bindc (laws_at_eq l 1 hlen (by omega) hl8) ?_
  have ar := atv_range l 1 hl8
  rw [Int.tmod_eq_emod_of_nonneg ar.1]
  obtain ⟨n, hn, hn2⟩ : ∃ n : Nat, wrap64 (2 + atv l 1 % 4) = n ∧ 2 ≤ n ∧ n ≤ 5 := by
    refine ⟨(2 + atv l 1 % 4).toNat, ?_, by omega, by omega⟩
    rw [w64 (by omega) (by omega)]; omega
  rw [hn]
  refine Ev.bind (impl_LimitOf_ev n) ?_
  have h30 := L3_30 (i := n) (by omega)
  have h0 := L3_nonneg n
  rw [lim_eq n (by omega), w64 (by omega) (by omega)]
  exact laws_FnForward_l1' n hn2
theorem laws_FnForward_l0 (l : List Int) (hlen : l.length ≤ 1048576) (hl8 : ∀ x ∈ l, (Lit.int .u8 x).wf = true) (w : List Int) (hw : isWord w = true) (c : Int) (hc : w.head? = some c) : ∀ (d i : Nat), i + d = w.length → Ev (fun k => laws_FnForward.l0 k l w ((w.take i).all (· == c)) ((w.take i).map turn) w w.length i) true := by
  have ww := (isWord_iff w).1 hw
  have hc0 : rd w 0 = c := by
    cases w with
    | nil => simp at hc
    | cons x w => simp at hc; subst hc; rfl
  intro d
  induction d with
  | zero =>
    intro i hi
    apply Ev.succ
    simp only [laws_FnForward.l0.eq_2]
    refine Ev.neg (by omega) ?_
    rw [List.take_of_length_le (by omega)]
    have f1 := impl_TurnsForward_ev w
    rw [hw, Bool.true_and] at f1
    have f2 := impl_NegateWord_ev w
    rw [if_pos hw] at f2
    have hnw : isWord (w.map (- ·)) = true := (isWord_iff _).2 ⟨by simpa using ww.1, by
      intro a ha
      obtain ⟨b, hb, rfl⟩ := List.mem_map.1 ha
      have := ww.2 b hb; omega⟩
    have f3 := impl_TurnsForward_ev (w.map (- ·))
    rw [hnw, Bool.true_and] at f3
    have htw : isWord (w.map turn) = true := (isWord_iff _).2 ⟨by simpa using ww.1, by
      intro a ha
      obtain ⟨b, hb, rfl⟩ := List.mem_map.1 ha
      exact turn_trit b (ww.2 b hb)⟩
    have f4 := impl_TurnsForward_ev (w.map turn)
    rw [htw, Bool.true_and, fwd_turned w ww.2] at f4
    have key := fwd_neg w ww.2 c hc
    have j1 := laws_FnForward_j1 l hlen hl8
    refine Ev.bind f1 (Ev.bind f2 (Ev.bind f3 ?_))
    refine Ev.ite (fun h => ?_) (fun h => ?_)
    · rw [if_pos h] at key
      rw [key.1] at f4 ⊢
      rw [key.2]
      refine Ev.neg (by simp) (Ev.neg (by simp) (Ev.bind f4 ?_))
      exact j1
    · rw [if_neg h] at key
      rw [key]
      refine Ev.neg (by cases fwd w <;> simp) (Ev.bind f4 ?_)
      rw [bne_self_eq_false]
      exact j1
  | succ d ih =>
    intro i hi
    apply Ev.succ
    simp only [laws_FnForward.l0.eq_2]
    have h2 := ih (i + 1) (by omega)
    rw [take_snoc w i (by omega), List.map_append, List.all_append] at h2
    simp only [List.map_cons, List.map_nil, List.all_cons, List.all_nil, Bool.and_true] at h2
    rw [rd_get w i (by omega), hc0, w64 (by omega) (by omega)]
    refine Ev.pos (by omega) (Ev.pos (by omega) (Ev.pos (by omega) ?_))
    have hlt : ((w.take i).map turn).length < 17592186044416 := by rw [List.length_map, List.length_take]; omega
    refine Ev.ite (fun h => ?_) (fun h => ?_)
    · rw [h, Bool.true_and] at h2
      exact Ev.pos (by omega) (Ev.bindc (impl_TurnTrit_eq _) (Ev.pos hlt h2))
    · rw [Bool.not_eq_true] at h
      rw [h, Bool.false_and] at h2
      exact Ev.bindc (impl_TurnTrit_eq _) (Ev.pos hlt h2)
theorem FnForward : laws_FnForward.Pure := by
  intro l _ _ hl8
  apply Ev.rounds
  simp only [laws_FnForward.f]
  refine Ev.ite (fun h => Ev.now _) (fun h => ?_)
  obtain ⟨w, hw, hww, _⟩ := spec_MakeWord_ev l (by omega) 8 (by omega) (by omega)
  refine Ev.bind hw ?_
  have ww := (isWord_iff w).1 hww
  obtain ⟨c, hc⟩ : ∃ c, w.head? = some c := by
    cases w with
    | nil => simp at ww
    | cons x w => exact ⟨x, rfl⟩
  exact laws_FnForward_l0 l (by omega) hl8 w hww c hc w.length 0 (by omega)

end Go.Proofs.Ytffohdlbkigehaa.HPure
