/- Lemmas: what each function that this statement reaches computes. -/
import Derived.Test.YtkeojccgfehkkaaHOpFnExactEqualExprs
import Derived.Test.YtkeojccgfehkkaaBase
set_option linter.unusedVariables false
set_option linter.unusedSimpArgs false
namespace Go.Proofs.Ytkeojccgfehkkaa.LemFnExactEqualExprs
open Go.RowKit Go.Proofs.YtkeojccgfehkkaaW.PrintWords Go.Proofs.YtkeojccgfehkkaaW.PrintLast Go.Proofs.YtkeojccgfehkkaaW.PrintMore Go.Proofs.Ytkeojccgfehkkaa.HFnExactEqualExprs Go.Proofs.Ytkeojccgfehkkaa.Base

theorem S24.ind {P : S24 → Prop} (h : ∀ x : S24, (∀ y ∈ x.f2, P y) → P x) (x : S24) : P x :=
  S24.rec (motive_1 := P) (motive_2 := fun l => ∀ y ∈ l, P y) (fun a b l hl => h ⟨a, b, l⟩ hl) (by simp) (fun y ys h1 h2 => by simp; exact ⟨h1, h2⟩) x
mutual
/-- How many parts an expression has below itself. -/
def sub24 : S24 → Nat
  | ⟨_, _, l⟩ => subL24 l
def subL24 : List S24 → Nat
  | [] => 0
  | x :: xs => 1 + sub24 x + subL24 xs
end
theorem sub24_eq (x : S24) : sub24 x = subL24 x.f2 := by cases x; rfl
theorem subL24_len (l : List S24) : l.length ≤ subL24 l := by
  induction l with
  | nil => simp
  | cons x xs ih => simp only [List.length_cons, subL24]; omega
theorem subL24_mem {l : List S24} {y : S24} (h : y ∈ l) : 1 + sub24 y ≤ subL24 l := by
  induction l with
  | nil => simp at h
  | cons x xs ih =>
    simp only [subL24]
    rcases List.mem_cons.1 h with rfl | h
    · omega
    · have := ih h; omega
theorem rd24_get (xs : List S24) (i : Nat) (h : i < xs.length) : rd_T24 xs (i : Int) = xs[i] := by
  simp [rd_T24, List.getD_eq_getElem?_getD, List.getElem?_eq_getElem h]
theorem subL24_drop (xs : List S24) (i : Nat) (h : i < xs.length) : subL24 (xs.drop i) = 1 + sub24 xs[i] + subL24 (xs.drop (i + 1)) := by
  rw [drop_cons xs i h, subL24]
/-- What 'size' tells of a rest b for n parts. -/
def rest (b : Int) (n : Nat) : Int := if (n : Int) ≤ b then b - n else -1
theorem laws_szExprS_l (l : List S24) (hl : l.length ≤ maxLen) (ih : ∀ y ∈ l, Wf24 y → ∀ b : Int, 0 ≤ b → b ≤ 1048576 → Ev (fun k => laws_szExpr.f k y.f0 y.f1 y.f2 b) (rest b (sub24 y))) (hw : ∀ y ∈ l, Wf24 y) :
    ∀ (d i : Nat) (b : Int), i + d = l.length → 0 ≤ b → b ≤ 1048576 → Ev (fun k => laws_szExprS.l0 k l b i) (rest b (subL24 (l.drop i) - (l.length - i))) := by
  intro d
  unfold maxLen at hl
  induction d with
  | zero =>
    intro i b hi h0 h1
    apply Ev.succ
    simp only [laws_szExprS.l0.eq_2]
    refine Ev.neg (by omega) (Ev.ret ?_)
    rw [List.drop_of_length_le (by omega)]
    simp [rest, subL24, h0]
  | succ d ihd =>
    intro i b hi h0 h1
    have hlt : i < l.length := by omega
    apply Ev.succ
    simp only [laws_szExprS.l0.eq_2]
    refine Ev.pos (by omega) (Ev.pos (by omega) ?_)
    rw [rd24_get l i hlt, w64 (by omega) (by omega)]
    refine Ev.bind (ih _ (List.getElem_mem hlt) (hw _ (List.getElem_mem hlt)) b h0 h1) ?_
    rw [subL24_drop l i hlt]
    have hle := subL24_len (l.drop (i + 1))
    rw [List.length_drop] at hle
    by_cases hb : (sub24 l[i] : Int) ≤ b
    · have e : rest b (sub24 l[i]) = b - sub24 l[i] := if_pos hb
      rw [e]
      refine Ev.neg (by omega) ?_
      refine evTo (ihd (i + 1) _ (by omega) (by omega) (by omega)) ?_
      unfold rest
      by_cases hc : ((subL24 (l.drop (i + 1)) - (l.length - (i + 1)) : Nat) : Int) ≤ b - sub24 l[i]
      · rw [if_pos hc, if_pos (by omega)]; omega
      · rw [if_neg hc, if_neg (by omega)]
    · have e : rest b (sub24 l[i]) = -1 := if_neg hb
      rw [e]
      refine Ev.pos (by omega) (Ev.ret ?_)
      unfold rest
      rw [if_neg (by omega)]
theorem laws_szExprS_ev (l : List S24) (hl : l.length ≤ maxLen) (ih : ∀ y ∈ l, Wf24 y → ∀ b : Int, 0 ≤ b → b ≤ 1048576 → Ev (fun k => laws_szExpr.f k y.f0 y.f1 y.f2 b) (rest b (sub24 y))) (hw : ∀ y ∈ l, Wf24 y) (b : Int) (h0 : 0 ≤ b) (h1 : b ≤ 1048576) :
    Ev (fun k => laws_szExprS.f k l b) (rest b (subL24 l)) := by
  apply Ev.succ
  simp only [laws_szExprS.f.eq_2]
  have hm := hl
  unfold maxLen at hm
  have hle := subL24_len l
  rw [w64 (by omega) (by omega)]
  refine Ev.ite (fun h => Ev.ret ?_) (fun h => ?_)
  · unfold rest; rw [if_neg (by omega)]
  · refine evTo (laws_szExprS_l l hl ih hw l.length 0 _ (by omega) (by omega) (by omega)) ?_
    simp only [List.drop_zero]
    unfold rest
    by_cases hc : (subL24 l : Int) ≤ b
    · rw [if_pos hc, if_pos (by omega)]; omega
    · rw [if_neg hc, if_neg (by omega)]
theorem wf24_parts {x : S24} (h : Wf24 x) : (Lit.int .i64 x.f0).wf = true ∧ (Lit.int .i64 x.f1).wf = true ∧ x.f2.length ≤ maxLen ∧ ∀ y ∈ x.f2, Wf24 y := by
  cases h with
  | mk _ h0 h1 h2 h3 => exact ⟨h0, h1, h2, h3⟩
theorem laws_szExpr_ev : ∀ (x : S24), Wf24 x → ∀ b : Int, 0 ≤ b → b ≤ 1048576 → Ev (fun k => laws_szExpr.f k x.f0 x.f1 x.f2 b) (rest b (sub24 x)) := by
  intro x
  induction x using S24.ind with
  | h x ih =>
  intro hw b h0 h1
  obtain ⟨_, _, hl, hk⟩ := wf24_parts hw
  apply Ev.succ
  simp only [laws_szExpr.f.eq_2]
  refine Ev.bind (laws_szExprS_ev x.f2 hl ih hk b h0 h1) ?_
  rw [sub24_eq]
  refine Ev.ite (fun h => Ev.ret ?_) (fun h => Ev.ret rfl)
  unfold rest at h ⊢
  split at h
  · omega
  · rw [if_neg (by assumption)]

theorem S29.ind {P : S29 → Prop} (h : ∀ x : S29, (∀ y ∈ x.f2, P y) → P x) (x : S29) : P x :=
  S29.rec (motive_1 := P) (motive_2 := fun l => ∀ y ∈ l, P y) (fun a b l hl => h ⟨a, b, l⟩ hl) (by simp) (fun y ys h1 h2 => by simp; exact ⟨h1, h2⟩) x
theorem rd29_get (xs : List S29) (i : Nat) (h : i < xs.length) : rd_T29 xs (i : Int) = xs[i] := by
  simp [rd_T29, List.getD_eq_getElem?_getD, List.getElem?_eq_getElem h]
mutual
def sub29 : S29 → Nat
  | ⟨_, _, l⟩ => subL29 l
def subL29 : List S29 → Nat
  | [] => 0
  | x :: xs => 1 + sub29 x + subL29 xs
end
theorem sub29_eq (x : S29) : sub29 x = subL29 x.f2 := by cases x; rfl
theorem subL29_len (l : List S29) : l.length ≤ subL29 l := by
  induction l with
  | nil => simp
  | cons x xs ih => simp only [List.length_cons, subL29]; omega
theorem subL29_mem {l : List S29} {y : S29} (h : y ∈ l) : 1 + sub29 y ≤ subL29 l := by
  induction l with
  | nil => simp at h
  | cons x xs ih =>
    simp only [subL29]
    rcases List.mem_cons.1 h with rfl | h
    · omega
    · have := ih h; omega
theorem subL29_drop (xs : List S29) (i : Nat) (h : i < xs.length) : subL29 (xs.drop i) = 1 + sub29 xs[i] + subL29 (xs.drop (i + 1)) := by
  rw [drop_cons xs i h, subL29]

theorem tl_drop (l l' : List S29) (i : Nat) (h : i < l.length) (h' : i < l'.length) : impl_EqualExprs.tl (l.drop i) (l'.drop i) = (impl_EqualExprs.t l[i] l'[i] && impl_EqualExprs.tl (l.drop (i + 1)) (l'.drop (i + 1))) := by
  rw [drop_cons l i h, drop_cons l' i h', impl_EqualExprs.tl]
theorem tl_len : ∀ (l l' : List S29), l.length ≠ l'.length → impl_EqualExprs.tl l l' = false
  | [], [], h => absurd rfl h
  | [], _ :: _, _ => rfl
  | _ :: _, [], _ => rfl
  | x :: xs, y :: ys, h => by rw [impl_EqualExprs.tl, tl_len xs ys (by simpa using h), Bool.and_false]
theorem spec_EqualExprs_l (a b a' b' : Int) (l l' : List S29) (hl : l.length ≤ 1048576) (hll : l.length = l'.length) (ih : ∀ y ∈ l, ∀ y' : S29, Ev (fun k => spec_EqualExprs.f k y.f0 y.f1 y.f2 y'.f0 y'.f1 y'.f2) (impl_EqualExprs.t y y')) :
    ∀ (d i : Nat), i + d = l.length → Ev (fun k => spec_EqualExprs.l0 k (l.length : Int) i a b l a' b' l') (impl_EqualExprs.tl (l.drop i) (l'.drop i)) := by
  intro d
  induction d with
  | zero =>
    intro i hi
    apply Ev.succ
    simp only [spec_EqualExprs.l0.eq_2]
    refine Ev.neg (by omega) (Ev.ret ?_)
    rw [List.drop_of_length_le (by omega), List.drop_of_length_le (by omega), impl_EqualExprs.tl]
  | succ d ihd =>
    intro i hi
    have hlt : i < l.length := by omega
    have hlt' : i < l'.length := by omega
    apply Ev.succ
    simp only [spec_EqualExprs.l0.eq_2]
    refine Ev.pos (by omega) (Ev.pos (by omega) (Ev.pos (by omega) (Ev.pos (by omega) ?_)))
    rw [rd29_get l i hlt, rd29_get l' i hlt', w64 (by omega) (by omega), tl_drop l l' i hlt hlt']
    refine Ev.bind (ih _ (List.getElem_mem hlt) _) (Ev.ite (fun h => ?_) (fun h => Ev.ret ?_))
    · rw [h, Bool.true_and]; exact ihd (i + 1) (by omega)
    · rw [Bool.not_eq_true] at h; rw [h, Bool.false_and]
theorem spec_EqualExprs_ev : ∀ (x : S29), sub29 x ≤ 1048576 → ∀ y : S29, Ev (fun k => spec_EqualExprs.f k x.f0 x.f1 x.f2 y.f0 y.f1 y.f2) (impl_EqualExprs.t x y) := by
  intro x
  induction x using S29.ind with
  | h x ih =>
  intro hs y
  have hl := subL29_len x.f2
  rw [sub29_eq] at hs
  rw [impl_EqualExprs.t_eq]
  have j0 : ∀ b : Bool, (b = false → x.f2.length = y.f2.length) → Ev (fun k => spec_EqualExprs.j0 k b x.f0 x.f1 x.f2 y.f0 y.f1 y.f2) (!b && impl_EqualExprs.tl x.f2 y.f2) := by
    intro b hb
    apply Ev.succ
    simp only [spec_EqualExprs.j0.eq_2]
    refine Ev.ite (fun h => Ev.ret (by simp [h])) (fun h => ?_)
    rw [Bool.not_eq_true] at h
    rw [h]
    have := spec_EqualExprs_l x.f0 x.f1 y.f0 y.f1 x.f2 y.f2 (by omega) (hb h) (fun z hz z' => ih z hz (by have := subL29_mem hz; omega) z') x.f2.length 0 (by omega)
    simpa using this
  apply Ev.succ
  simp only [spec_EqualExprs.f.eq_2]
  refine Ev.ite (fun h0 => Ev.ite (fun h1 => evTo (j0 _ ?_) ?_) (fun h1 => evTo (j0 true (by simp)) ?_)) (fun h0 => evTo (j0 true (by simp)) ?_)
  · intro h; simp at h; omega
  · rw [decide_eq_true h0, decide_eq_true h1]
    by_cases e : x.f2.length = y.f2.length
    · simp [e]
    · rw [tl_len _ _ e]; simp
  · rw [decide_eq_false h1]; simp
  · rw [decide_eq_false h0]; simp

mutual
/-- An expression of the law as one of the program. -/
def cv : S24 → S29
  | ⟨a, b, l⟩ => ⟨a, b, cvL l⟩
def cvL : List S24 → List S29
  | [] => []
  | x :: xs => cv x :: cvL xs
end
theorem cvL_map (l : List S24) : cvL l = l.map cv := by
  induction l with
  | nil => rfl
  | cons x xs ih => simp [cvL, ih]
theorem cv_f0 (x : S24) : (cv x).f0 = x.f0 := by cases x; rfl
theorem cv_f1 (x : S24) : (cv x).f1 = x.f1 := by cases x; rfl
theorem cv_f2 (x : S24) : (cv x).f2 = cvL x.f2 := by cases x; rfl
theorem sub_cv (x : S24) : sub29 (cv x) = sub24 x := by
  induction x using S24.ind with
  | h x ih =>
  rw [sub29_eq, cv_f2, sub24_eq]
  generalize x.f2 = l at ih
  induction l with
  | nil => rfl
  | cons y ys ihy =>
    simp only [cvL, subL29, subL24]
    rw [ih y List.mem_cons_self, ihy (fun z hz => ih z (List.mem_cons_of_mem _ hz))]
theorem laws_toExprS_l (l : List S24) (hl : l.length ≤ 1048576) (ih : ∀ y ∈ l, Ev (fun k => laws_toExpr.f k y.f0 y.f1 y.f2) (y.f0, y.f1, cvL y.f2)) :
    ∀ (d i : Nat) (x3 : List S29), i + d = l.length → x3.length = l.length → x3.take i = (l.map cv).take i → Ev (fun k => laws_toExprS.l0 k l x3 i) (l.map cv) := by
  intro d
  induction d with
  | zero =>
    intro i x3 hi hx ht
    apply Ev.succ
    simp only [laws_toExprS.l0.eq_2]
    refine Ev.neg (by omega) (Ev.ret ?_)
    rwa [List.take_of_length_le (by omega), List.take_of_length_le (by simp; omega)] at ht
  | succ d ihd =>
    intro i x3 hi hx ht
    have hlt : i < l.length := by omega
    apply Ev.succ
    simp only [laws_toExprS.l0.eq_2]
    refine Ev.pos (by omega) (Ev.pos (by omega) ?_)
    rw [rd24_get l i hlt, w64 (by omega) (by omega)]
    refine Ev.bind (ih _ (List.getElem_mem hlt)) ?_
    refine Ev.pos (by omega) ?_
    refine ihd (i + 1) _ (by omega) (by simp [hx]) ?_
    rw [take_snoc _ i (by simp; omega), take_snoc _ i (by simp; omega)]
    have e : (⟨l[i].f0, l[i].f1, cvL l[i].f2⟩ : S29) = cv l[i] := by cases l[i]; rfl
    simp [List.take_set_of_le, ht, e]
theorem laws_toExprS_ev (l : List S24) (hl : l.length ≤ 1048576) (ih : ∀ y ∈ l, Ev (fun k => laws_toExpr.f k y.f0 y.f1 y.f2) (y.f0, y.f1, cvL y.f2)) : Ev (fun k => laws_toExprS.f k l) (cvL l) := by
  apply Ev.succ
  simp only [laws_toExprS.f.eq_2]
  rw [cvL_map]
  refine Ev.pos (by omega) (Ev.pos (by omega) ?_)
  exact laws_toExprS_l l hl ih l.length 0 _ (by omega) (by simp) (by simp)
theorem laws_toExpr_ev : ∀ (x : S24), sub24 x ≤ 1048576 → Ev (fun k => laws_toExpr.f k x.f0 x.f1 x.f2) (x.f0, x.f1, cvL x.f2) := by
  intro x
  induction x using S24.ind with
  | h x ih =>
  intro hs
  have hl := subL24_len x.f2
  rw [sub24_eq] at hs
  apply Ev.succ
  simp only [laws_toExpr.f.eq_2]
  refine Ev.bind (laws_toExprS_ev x.f2 (by omega) (fun y hy => ih y hy (by have := subL24_mem hy; omega))) (Ev.ret rfl)

theorem laws_eqExprS_l (l : List S29) (hl : l.length ≤ 1048576) (ih : ∀ y ∈ l, Ev (fun k => laws_eqExpr.f k y.f0 y.f1 y.f2 y.f0 y.f1 y.f2) true) :
    ∀ (d i : Nat), i + d = l.length → Ev (fun k => laws_eqExprS.l0 k l l i) true := by
  intro d
  induction d with
  | zero =>
    intro i hi
    apply Ev.succ
    simp only [laws_eqExprS.l0.eq_2]
    exact Ev.neg (by omega) (Ev.now _)
  | succ d ihd =>
    intro i hi
    have hlt : i < l.length := by omega
    apply Ev.succ
    simp only [laws_eqExprS.l0.eq_2]
    refine Ev.pos (by omega) (Ev.pos (by omega) (Ev.pos (by omega) ?_))
    rw [rd29_get l i hlt, w64 (by omega) (by omega)]
    refine Ev.bind (ih _ (List.getElem_mem hlt)) (Ev.pos rfl ?_)
    exact ihd (i + 1) (by omega)
theorem laws_eqExprS_ev (l : List S29) (hl : l.length ≤ 1048576) (ih : ∀ y ∈ l, Ev (fun k => laws_eqExpr.f k y.f0 y.f1 y.f2 y.f0 y.f1 y.f2) true) : Ev (fun k => laws_eqExprS.f k l l) true := by
  apply Ev.succ
  simp only [laws_eqExprS.f.eq_2]
  exact Ev.pos trivial (laws_eqExprS_l l hl ih l.length 0 (by omega))
theorem laws_eqExpr_ev : ∀ (x : S29), sub29 x ≤ 1048576 → Ev (fun k => laws_eqExpr.f k x.f0 x.f1 x.f2 x.f0 x.f1 x.f2) true := by
  intro x
  induction x using S29.ind with
  | h x ih =>
  intro hs
  have hl := subL29_len x.f2
  rw [sub29_eq] at hs
  apply Ev.succ
  simp only [laws_eqExpr.f.eq_2]
  refine Ev.pos trivial (Ev.pos trivial ?_)
  refine Ev.bind (laws_eqExprS_ev x.f2 (by omega) (fun y hy => ih y hy (by have := subL29_mem hy; omega))) (Ev.pos rfl (Ev.now _))

end Go.Proofs.Ytkeojccgfehkkaa.LemFnExactEqualExprs
