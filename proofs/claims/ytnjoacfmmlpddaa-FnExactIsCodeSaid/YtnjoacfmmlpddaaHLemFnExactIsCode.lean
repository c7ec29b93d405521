/- Lemmas: what each function that this statement reaches computes. -/
import Derived.Test.YtnjoacfmmlpddaaHOpFnExactIsCode
import Derived.Test.YtnjoacfmmlpddaaBase
import Derived.Test.YtnjoacfmmlpddaaWordM
set_option linter.unusedVariables false
set_option linter.unusedSimpArgs false
namespace Go.Proofs.Ytnjoacfmmlpddaa.LemFnExactIsCode
open Go.RowKit Go.Proofs.YtnjoacfmmlpddaaW.PrintWords Go.Proofs.YtnjoacfmmlpddaaW.PrintLast Go.Proofs.YtnjoacfmmlpddaaW.PrintMore Go.Proofs.Ytnjoacfmmlpddaa.HFnExactIsCode Go.Proofs.Ytnjoacfmmlpddaa.Base

theorem laws_szOpS_eq (l : List S64) (a : Int) (hl : l.length ≤ maxLen) (h0 : 0 ≤ a) (h1 : a ≤ 1048576) : laws_szOpS.f l a = some (if (l.length : Int) ≤ a then a - l.length else -1) := by
  unfold maxLen at hl
  unfold laws_szOpS.f
  rw [w64 (by omega) (by omega)]
  by_cases h : (l.length : Int) ≤ a
  · rw [if_neg (by omega), if_pos h]
  · rw [if_pos (by omega), if_neg h]

theorem spec_l1In_eq (a b c : Int) : spec_l1In.f a b c = some (decide (b ≤ a ∧ a ≤ c)) := by
  unfold spec_l1In.f
  by_cases h : b ≤ a
  · rw [if_pos (by omega)]; simp [h]
  · rw [if_neg (by omega)]; simp [h]

def cellB (n : Int) : Bool := decide (-9841 ≤ n ∧ n ≤ 9841)
theorem spec_l7Cell_eq (n : Int) : spec_l7Cell.f n = some (cellB n) := by
  unfold spec_l7Cell.f
  rw [spec_l1In_eq]; rfl

theorem rdO_get (xs : List S50) (i : Nat) (h : i < xs.length) : rd_T50 xs (i : Int) = xs[i] := by
  simp [rd_T50, List.getD_eq_getElem?_getD, List.getElem?_eq_getElem h]

/-- An operation that may stand in a code of n. -/
def opB (n : Int) (x : S50) : Bool := decide (
  if x.f0 = 1 then (-9841 ≤ x.f1 ∧ x.f1 ≤ 9841) ∧ x.f2 = 0 ∧ x.f3 = 0
  else if x.f0 = 10 then (-9 ≤ x.f1 ∧ x.f1 ≤ 9) ∧ x.f2 = 0 ∧ x.f3 = 0
  else if x.f0 = 13 then (0 ≤ x.f1 ∧ x.f1 ≤ n) ∧ x.f2 = 0 ∧ x.f3 = 0
  else if x.f0 = 14 then (0 ≤ x.f1 ∧ x.f1 ≤ n) ∧ (0 ≤ x.f2 ∧ x.f2 ≤ n) ∧ (0 ≤ x.f3 ∧ x.f3 ≤ n)
  else (1 ≤ x.f0 ∧ x.f0 ≤ 15) ∧ x.f1 = 0 ∧ x.f2 = 0 ∧ x.f3 = 0)
def codeB (l : List S50) : Bool := decide (1 ≤ l.length ∧ l.length ≤ 80) && l.all (opB l.length)
theorem spec_IsCode_l (l : List S50) (n : Int) (hl : l.length ≤ 1048576) : ∀ (d i : Nat), i + d = l.length → Ev (fun k => spec_IsCode.l0 k n l (l.length : Int) i) ((l.drop i).all (opB n)) := by
  intro d
  induction d with
  | zero =>
    intro i hi
    apply Ev.succ
    simp only [spec_IsCode.l0.eq_2]
    refine Ev.neg (by omega) (Ev.ret ?_)
    rw [List.drop_of_length_le (by omega)]; rfl
  | succ d ihd =>
    intro i hi
    have hlt : i < l.length := by omega
    apply Ev.succ
    simp only [spec_IsCode.l0.eq_2]
    refine Ev.pos (by omega) (Ev.pos (by omega) (Ev.pos (by omega) ?_))
    rw [rdO_get l i hlt, drop_cons l i hlt, List.all_cons]
    have rec_ := ihd (i + 1) (by omega)
    generalize l[i] = x
    have go : ∀ b : Bool, (opB n x = true ↔ b = true) → Ev (fun k => if b = true then spec_IsCode.l0 k n l (l.length : Int) (wrap64 ((i : Int) + 1)) else some false) (opB n x && (l.drop (i + 1)).all (opB n)) := by
      intro b hb
      rw [w64 (by omega) (by omega)]
      refine Ev.ite (fun h => ?_) (fun h => Ev.ret ?_)
      · rw [hb.2 h, Bool.true_and]; exact rec_
      · have : opB n x = false := by rw [← Bool.not_eq_true]; exact fun h' => h (hb.1 h')
        rw [this, Bool.false_and]
    have bad : ¬ (opB n x = true) → Ev (fun k => (some false : Option Bool)) (opB n x && (l.drop (i + 1)).all (opB n)) := by
      intro h
      have : opB n x = false := by rw [← Bool.not_eq_true]; exact h
      rw [this, Bool.false_and]; exact Ev.now _
    have j1 : ∀ b6 : Bool, (b6 = true ↔ x.f2 = 0 ∧ x.f3 = 0) → Ev (fun k => spec_IsCode.j1 k n b6 l (l.length : Int) i x.f0 x.f1 x.f2 x.f3) (opB n x && (l.drop (i + 1)).all (opB n)) := by
      intro b6 h6
      apply Ev.succ
      simp only [spec_IsCode.j1.eq_2, spec_l7Cell_eq, spec_l1In_eq, Option.bind_some]
      refine Ev.ite (fun c1 => ?_) (fun c1 => Ev.ite (fun c2 => ?_) (fun c2 => Ev.ite (fun c3 => ?_) (fun c3 => Ev.ite (fun c4 => ?_) (fun c4 => ?_))))
      · refine Ev.ite (fun h => go b6 ?_) (fun h => bad ?_)
        · rw [h6]; simp only [cellB, decide_eq_true_eq] at h; simp [opB, c1, h]
        · simp only [cellB, decide_eq_true_eq] at h; simp only [opB, c1, if_true, decide_eq_true_eq]; exact fun hh => h hh.1
      · refine Ev.ite (fun h => go b6 ?_) (fun h => bad ?_)
        · rw [h6]; simp only [decide_eq_true_eq] at h; simp [opB, c2, h]
        · simp only [decide_eq_true_eq] at h; simp only [opB, if_neg c1, if_pos c2, decide_eq_true_eq]; exact fun hh => h hh.1
      · refine Ev.ite (fun h => go b6 ?_) (fun h => bad ?_)
        · rw [h6]; simp only [decide_eq_true_eq] at h; simp [opB, c3, h]
        · simp only [decide_eq_true_eq] at h; simp only [opB, if_neg c1, if_neg c2, if_pos c3, decide_eq_true_eq]; exact fun hh => h hh.1
      · refine Ev.ite (fun h => Ev.ite (fun h' => go _ ?_) (fun h' => bad ?_)) (fun h => bad ?_)
        · simp only [decide_eq_true_eq] at h h' ⊢; simp only [opB, if_neg c1, if_neg c2, if_neg c3, if_pos c4, decide_eq_true_eq]; exact ⟨fun hh => hh.2.2, fun hh => ⟨h, h', hh⟩⟩
        · simp only [decide_eq_true_eq] at h'; simp only [opB, if_neg c1, if_neg c2, if_neg c3, if_pos c4, decide_eq_true_eq]; exact fun hh => h' hh.2.1
        · simp only [decide_eq_true_eq] at h; simp only [opB, if_neg c1, if_neg c2, if_neg c3, if_pos c4, decide_eq_true_eq]; exact fun hh => h hh.1
      · refine Ev.ite (fun h => Ev.ite (fun h' => go b6 ?_) (fun h' => bad ?_)) (fun h => bad ?_)
        · rw [h6]; simp only [decide_eq_true_eq] at h; simp only [opB, if_neg c1, if_neg c2, if_neg c3, if_neg c4, decide_eq_true_eq]; exact ⟨fun hh => hh.2.2, fun hh => ⟨h, h', hh⟩⟩
        · simp only [opB, if_neg c1, if_neg c2, if_neg c3, if_neg c4, decide_eq_true_eq]; exact fun hh => h' hh.2.1
        · simp only [decide_eq_true_eq] at h; simp only [opB, if_neg c1, if_neg c2, if_neg c3, if_neg c4, decide_eq_true_eq]; exact fun hh => h hh.1
    refine Ev.ite (fun h => j1 _ ?_) (fun h => j1 _ ?_)
    · simp [h]
    · simp [h]
theorem spec_IsCode_ev (l : List S50) (hl : l.length ≤ 1048576) : Ev (fun k => spec_IsCode.f k l) (codeB l) := by
  simp only [spec_IsCode.f, spec_l1In_eq, Option.bind_some, decide_eq_true_eq]
  unfold codeB
  refine Ev.ite (fun h => ?_) (fun h => Ev.ret ?_)
  · rw [decide_eq_true (by omega), Bool.true_and]
    have := spec_IsCode_l l l.length hl l.length 0 (by omega)
    simpa using this
  · rw [decide_eq_false (by omega), Bool.false_and]

def cvOp (x : S64) : S50 := ⟨x.f0, x.f1, x.f2, x.f3⟩
theorem rdLO_get (xs : List S64) (i : Nat) (h : i < xs.length) : rd_T64 xs (i : Int) = xs[i] := by
  simp [rd_T64, List.getD_eq_getElem?_getD, List.getElem?_eq_getElem h]
theorem laws_toOpS_l (x0 : List S64) (hn : x0.length ≤ 1048576) : ∀ (d i : Nat) (x3 : List S50), i + d = x0.length → x3.length = x0.length → x3.take i = (x0.map cvOp).take i → Ev (fun k => laws_toOpS.l0 k x0 x3 i) (x0.map cvOp) := by
  intro d
  induction d with
  | zero =>
    intro i x3 hi hx ht
    apply Ev.succ
    simp only [laws_toOpS.l0.eq_2]
    refine Ev.neg (by omega) (Ev.ret ?_)
    rwa [List.take_of_length_le (by omega), List.take_of_length_le (by simp; omega)] at ht
  | succ d ih =>
    intro i x3 hi hx ht
    have hlt : i < x0.length := by omega
    apply Ev.succ
    simp only [laws_toOpS.l0.eq_2, laws_toOp.f, Option.bind_some]
    refine Ev.pos (by omega) (Ev.pos (by omega) (Ev.pos (by omega) ?_))
    rw [w64 (by omega) (by omega), rdLO_get x0 i (by omega)]
    refine ih (i + 1) _ (by omega) (by simp [hx]) ?_
    rw [take_snoc _ i (by simp; omega), take_snoc _ i (by simp; omega)]
    have e : (⟨x0[i].f0, x0[i].f1, x0[i].f2, x0[i].f3⟩ : S50) = cvOp x0[i] := rfl
    simp [List.take_set_of_le, ht, e]
theorem laws_toOpS_ev (x0 : List S64) (hn : x0.length ≤ 1048576) : Ev (fun k => laws_toOpS.f k x0) (x0.map cvOp) := by
  simp only [laws_toOpS.f]
  refine Ev.pos (by omega) (Ev.pos (by omega) ?_)
  exact laws_toOpS_l x0 hn x0.length 0 _ (by omega) (by simp) (by simp)

theorem impl_power_l (n : Nat) (hn : n ≤ 30) : ∀ (d i : Nat), i + d = n → Ev (fun k => impl_power.l0 k ((3 : Int) ^ i) n i) ((3 : Int) ^ n) := by
  intro d
  induction d with
  | zero =>
    intro i hi
    apply Ev.succ
    simp only [impl_power.l0.eq_2]
    refine Ev.neg (by omega) (Ev.ret ?_)
    rw [← hi]; rfl
  | succ d ih =>
    intro i hi
    apply Ev.succ
    simp only [impl_power.l0.eq_2]
    have h1 := pow3_30 (i := i + 1) (by omega)
    have h2 := pow3_pos i
    rw [pow3_succ] at h1
    refine Ev.pos (by omega) ?_
    rw [w64 (by omega) (by omega), w64 (by omega) (by omega), Int.mul_comm, ← pow3_succ]
    exact ih (i + 1) (by omega)
theorem impl_power_ev (n : Int) (h0 : 0 ≤ n) (hn : n ≤ 30) : Ev (fun k => impl_power.f k n) ((3 : Int) ^ n.toNat) := by
  obtain ⟨m, rfl⟩ : ∃ m : Nat, n = m := ⟨n.toNat, by omega⟩
  exact impl_power_l m (by omega) m 0 (by omega)

theorem impl_LimitOf_ev (k : Int) : Ev (fun n => impl_LimitOf.f n k) (lim k) := by
  simp only [impl_LimitOf.f]
  unfold lim
  refine Ev.ite (fun h => Ev.ret (by rw [if_neg (by omega)])) (fun h => Ev.ite (fun h1 => Ev.ret (by rw [if_neg (by omega)])) (fun h1 => ?_))
  rw [if_pos (by omega)]
  refine Ev.bind (impl_power_ev k (by omega) (by omega)) (Ev.ret ?_)
  have h2 := pow3_30 (i := k.toNat) (by omega)
  have h3 := pow3_pos k.toNat
  rw [w64 (n := _ - 1) (by omega) (by omega), Int.tdiv_eq_ediv_of_nonneg (by omega), w64 (by omega) (by omega)]

theorem impl_fits_ev (n k : Int) : Ev (fun m => impl_fits.f m n k) (fitsB n k) := by
  simp only [impl_fits.f]
  have h1 := lim_nonneg k
  have h2 := lim_le k
  refine Ev.bind (impl_LimitOf_ev k) ?_
  rw [w64 (by omega) (by omega)]
  refine Ev.ite (fun h => Ev.bind (impl_LimitOf_ev k) (Ev.ret ?_)) (fun h => Ev.ret ?_)
  · unfold fitsB; exact decide_eq_decide.2 (by omega)
  · unfold fitsB; rw [decide_eq_false]; omega

theorem fits9 (a : Int) : fitsB a 9 = decide (-9841 ≤ a ∧ a ≤ 9841) := by
  unfold fitsB
  rw [show lim 9 = 9841 by rfl]
theorem impl_isOp_ev (x : S50) (n : Int) : Ev (fun k => impl_isOp.f k x.f0 x.f1 x.f2 x.f3 n) (opB n x) := by
  simp only [impl_isOp.f]
  refine Ev.bind (impl_fits_ev x.f1 9) (Ev.ret ?_)
  rw [fits9, Bool.eq_iff_iff]
  unfold isOpB opB
  split
  · simp; omega
  · split
    · simp; omega
    · split
      · simp; omega
      · split
        · simp; omega
        · simp; omega
theorem anyO_ev {α : Type} {g : Nat → α → Option Bool} {p : α → Bool} : ∀ (l : List α), (∀ x ∈ l, Ev (fun k => g k x) (p x)) → Ev (fun k => Go.Proofs.Ytnjoacfmmlpddaa.Any.anyO (g k) l) (l.any p)
  | [], _ => Ev.now _
  | x :: xs, h => by
    simp only [Go.Proofs.Ytnjoacfmmlpddaa.Any.anyO]
    exact Ev.bind (h x List.mem_cons_self) (Ev.bind (anyO_ev xs (fun y hy => h y (List.mem_cons_of_mem _ hy))) (Ev.ret (by rw [List.any_cons])))
theorem not_any_not {α : Type} (p : α → Bool) (l : List α) : (!l.any fun x => !p x) = l.all p := by
  induction l with
  | nil => rfl
  | cons x xs ih => rw [List.any_cons, List.all_cons, ← ih]; simp

theorem impl_IsCode_ev (l : List S50) : Ev (fun k => impl_IsCode.f k l) (codeB l) := by
  simp only [impl_IsCode.f]
  unfold codeB
  refine Ev.ite (fun h => Ev.ite (fun h' => ?_) (fun h' => Ev.ret ?_)) (fun h => Ev.ret ?_)
  · rw [decide_eq_true (by omega), Bool.true_and]
    refine Ev.bind (anyO_ev (p := fun x => !opB l.length x) l (fun x _ => Ev.bind (impl_isOp_ev x l.length) (Ev.now _))) (Ev.ret ?_)
    exact not_any_not _ _
  · rw [decide_eq_false (by omega), Bool.false_and]
  · rw [decide_eq_false (by omega), Bool.false_and]

theorem laws_eqOp_refl (a b c d : Int) : laws_eqOp.f a b c d a b c d = some true := by simp [laws_eqOp.f]
theorem laws_eqOpS_l (l : List S50) (hl : l.length ≤ 1048576) : ∀ (d i : Nat), i + d = l.length → Ev (fun k => laws_eqOpS.l0 k l l i) true := by
  intro d
  induction d with
  | zero =>
    intro i hi
    apply Ev.succ
    simp only [laws_eqOpS.l0.eq_2]
    exact Ev.neg (by omega) (Ev.now _)
  | succ d ihd =>
    intro i hi
    apply Ev.succ
    simp only [laws_eqOpS.l0.eq_2, laws_eqOp_refl, Option.bind_some]
    refine Ev.pos (by omega) (Ev.pos (by omega) (Ev.pos (by omega) (Ev.pos trivial ?_)))
    rw [w64 (by omega) (by omega)]
    exact ihd (i + 1) (by omega)
theorem laws_eqOpS_ev (l : List S50) (hl : l.length ≤ 1048576) : Ev (fun k => laws_eqOpS.f k l l) true := by
  simp only [laws_eqOpS.f]
  exact Ev.pos trivial (laws_eqOpS_l l hl l.length 0 (by omega))

end Go.Proofs.Ytnjoacfmmlpddaa.LemFnExactIsCode
