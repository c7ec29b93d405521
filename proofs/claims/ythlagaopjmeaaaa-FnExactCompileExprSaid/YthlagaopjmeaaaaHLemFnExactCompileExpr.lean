/- Lemmas: what each function that this statement reaches computes. -/
import Derived.Test.YthlagaopjmeaaaaHOpFnExactCompileExpr
import Derived.Test.YthlagaopjmeaaaaBase
import Derived.Test.YthlagaopjmeaaaaDivM
import Derived.Test.YthlagaopjmeaaaaWordM
set_option linter.unusedVariables false
set_option linter.unusedSimpArgs false
namespace Go.Proofs.Ythlagaopjmeaaaa.LemFnExactCompileExpr
open Go.RowKit Go.Proofs.YthlagaopjmeaaaaW.PrintWords Go.Proofs.YthlagaopjmeaaaaW.PrintLast Go.Proofs.YthlagaopjmeaaaaW.PrintMore Go.Proofs.Ythlagaopjmeaaaa.HFnExactCompileExpr Go.Proofs.Ythlagaopjmeaaaa.Base

/-- What 'size' tells of a rest b for n parts. -/
def rest (b : Int) (n : Nat) : Int := if (n : Int) ≤ b then b - n else -1

theorem S24.ind {P : S24 → Prop} (h : ∀ x : S24, (∀ y ∈ x.f2, P y) → P x) (x : S24) : P x :=
 S24.rec (motive_1 := P) (motive_2 := fun l => ∀ y ∈ l, P y) (fun a b l hl => h ⟨a, b, l⟩ hl) (by simp) (fun y ys h1 h2 => by simp; exact ⟨h1, h2⟩) x
mutual
/-- How many parts an expression has below itself. -/
def sub24 : S24 → Nat
 | ⟨_, _, l⟩ => subL24 l
def subL24 : List S24 → Nat
 | [] => 0
 | x :: xs => 1 + sub24 x + subL24 xs
end
theorem sub24_eq (x : S24) : sub24 x = subL24 x.f2 := by cases x; rfl
theorem subL24_len (l : List S24) : l.length ≤ subL24 l := by
 induction l with
 | nil => simp
 | cons x xs ih => simp only [List.length_cons, subL24]; omega
theorem subL24_mem {l : List S24} {y : S24} (h : y ∈ l) : 1 + sub24 y ≤ subL24 l := by
 induction l with
 | nil => simp at h
 | cons x xs ih =>
  simp only [subL24]
  rcases List.mem_cons.1 h with rfl | h
  ·omega
  ·have := ih h; omega
theorem rd24_get (xs : List S24) (i : Nat) (h : i < xs.length) : rd_T24 xs (i : Int) = xs[i] := by
 simp [rd_T24, List.getD_eq_getElem?_getD, List.getElem?_eq_getElem h]
theorem subL24_drop (xs : List S24) (i : Nat) (h : i < xs.length) : subL24 (xs.drop i) = 1 + sub24 xs[i] + subL24 (xs.drop (i + 1)) := by
 rw [drop_cons xs i h, subL24]
theorem laws_szExprS_l (l : List S24) (hl : l.length ≤ maxLen) (ih : ∀ y ∈ l, Wf24 y → ∀ b : Int, 0 ≤ b → b ≤ 1048576 → Ev (fun k => laws_szExpr.f k y.f0 y.f1 y.f2 b) (rest b (sub24 y))) (hw : ∀ y ∈ l, Wf24 y) :
  ∀ (d i : Nat) (b : Int), i + d = l.length → 0 ≤ b → b ≤ 1048576 → Ev (fun k => laws_szExprS.l0 k l b i) (rest b (subL24 (l.drop i) - (l.length - i))) := by
 intro d
 unfold maxLen at hl
 induction d with
 | zero =>
  intro i b hi h0 h1
  apply Ev.succ
  simp only [laws_szExprS.l0.eq_2]
  refine Ev.neg (by omega) (Ev.ret ?_)
  rw [List.drop_of_length_le (by omega)]
  simp [rest, subL24, h0]
 | succ d ihd =>
  intro i b hi h0 h1
  have hlt : i < l.length := by omega
  apply Ev.succ
  simp only [laws_szExprS.l0.eq_2]
  refine Ev.pos (by omega) (Ev.pos (by omega) ?_)
  rw [rd24_get l i hlt, w64 (by omega) (by omega)]
  refine Ev.bind (ih _ (List.getElem_mem hlt) (hw _ (List.getElem_mem hlt)) b h0 h1) ?_
  rw [subL24_drop l i hlt]
  have hle := subL24_len (l.drop (i + 1))
  rw [List.length_drop] at hle
  by_cases hb : (sub24 l[i] : Int) ≤ b
  ·have e : rest b (sub24 l[i]) = b - sub24 l[i] := if_pos hb
   rw [e]
   refine Ev.neg (by omega) ?_
   refine evTo (ihd (i + 1) _ (by omega) (by omega) (by omega)) ?_
   unfold rest
   by_cases hc : ((subL24 (l.drop (i + 1)) - (l.length - (i + 1)) : Nat) : Int) ≤ b - sub24 l[i]
   ·rw [if_pos hc, if_pos (by omega)]; omega
   ·rw [if_neg hc, if_neg (by omega)]
  ·have e : rest b (sub24 l[i]) = -1 := if_neg hb
   rw [e]
   refine Ev.pos (by omega) (Ev.ret ?_)
   unfold rest
   rw [if_neg (by omega)]
theorem laws_szExprS_ev (l : List S24) (hl : l.length ≤ maxLen) (ih : ∀ y ∈ l, Wf24 y → ∀ b : Int, 0 ≤ b → b ≤ 1048576 → Ev (fun k => laws_szExpr.f k y.f0 y.f1 y.f2 b) (rest b (sub24 y))) (hw : ∀ y ∈ l, Wf24 y) (b : Int) (h0 : 0 ≤ b) (h1 : b ≤ 1048576) :
  Ev (fun k => laws_szExprS.f k l b) (rest b (subL24 l)) := by
 apply Ev.succ
 simp only [laws_szExprS.f.eq_2]
 have hm := hl
 unfold maxLen at hm
 have hle := subL24_len l
 rw [w64 (by omega) (by omega)]
 refine Ev.ite (fun h => Ev.ret ?_) (fun h => ?_)
 ·unfold rest; rw [if_neg (by omega)]
 ·refine evTo (laws_szExprS_l l hl ih hw l.length 0 _ (by omega) (by omega) (by omega)) ?_
  simp only [List.drop_zero]
  unfold rest
  by_cases hc : (subL24 l : Int) ≤ b
  ·rw [if_pos hc, if_pos (by omega)]; omega
  ·rw [if_neg hc, if_neg (by omega)]
theorem wf24_parts {x : S24} (h : Wf24 x) : (Lit.int .i64 x.f0).wf = true ∧ (Lit.int .i64 x.f1).wf = true ∧ x.f2.length ≤ maxLen ∧ ∀ y ∈ x.f2, Wf24 y := by
 cases h with
 | mk _ h0 h1 h2 h3 => exact ⟨h0, h1, h2, h3⟩
theorem laws_szExpr_ev : ∀ (x : S24), Wf24 x → ∀ b : Int, 0 ≤ b → b ≤ 1048576 → Ev (fun k => laws_szExpr.f k x.f0 x.f1 x.f2 b) (rest b (sub24 x)) := by
 intro x
 induction x using S24.ind with
 | h x ih =>
 intro hw b h0 h1
 obtain ⟨_, _, hl, hk⟩ := wf24_parts hw
 apply Ev.succ
 simp only [laws_szExpr.f.eq_2]
 refine Ev.bind (laws_szExprS_ev x.f2 hl ih hk b h0 h1) ?_
 rw [sub24_eq]
 refine Ev.ite (fun h => Ev.ret ?_) (fun h => Ev.ret rfl)
 unfold rest at h ⊢
 split at h
 ·omega
 ·rw [if_neg (by assumption)]

theorem S28.ind {P : S28 → Prop} (h : ∀ x : S28, (∀ y ∈ x.f2, P y) → P x) (x : S28) : P x :=
 S28.rec (motive_1 := P) (motive_2 := fun l => ∀ y ∈ l, P y) (fun a b l hl => h ⟨a, b, l⟩ hl) (by simp) (fun y ys h1 h2 => by simp; exact ⟨h1, h2⟩) x
theorem rd28_get (xs : List S28) (i : Nat) (h : i < xs.length) : rd_T28 xs (i : Int) = xs[i] := by
 simp [rd_T28, List.getD_eq_getElem?_getD, List.getElem?_eq_getElem h]
mutual
def sub28 : S28 → Nat
 | ⟨_, _, l⟩ => subL28 l
def subL28 : List S28 → Nat
 | [] => 0
 | x :: xs => 1 + sub28 x + subL28 xs
end
theorem sub28_eq (x : S28) : sub28 x = subL28 x.f2 := by cases x; rfl
theorem subL28_len (l : List S28) : l.length ≤ subL28 l := by
 induction l with
 | nil => simp
 | cons x xs ih => simp only [List.length_cons, subL28]; omega
theorem subL28_mem {l : List S28} {y : S28} (h : y ∈ l) : 1 + sub28 y ≤ subL28 l := by
 induction l with
 | nil => simp at h
 | cons x xs ih =>
  simp only [subL28]
  rcases List.mem_cons.1 h with rfl | h
  ·omega
  ·have := ih h; omega
theorem subL28_drop (xs : List S28) (i : Nat) (h : i < xs.length) : subL28 (xs.drop i) = 1 + sub28 xs[i] + subL28 (xs.drop (i + 1)) := by
 rw [drop_cons xs i h, subL28]
theorem eta28 (x : S28) : (⟨x.f0, x.f1, x.f2⟩ : S28) = x := by cases x; rfl

mutual
/-- An expression of the law as one of the program. -/
def cv : S24 → S28
 | ⟨a, b, l⟩ => ⟨a, b, cvL l⟩
def cvL : List S24 → List S28
 | [] => []
 | x :: xs => cv x :: cvL xs
end
theorem cvL_map (l : List S24) : cvL l = l.map cv := by
 induction l with
 | nil => rfl
 | cons x xs ih => simp [cvL, ih]
theorem cv_f0 (x : S24) : (cv x).f0 = x.f0 := by cases x; rfl
theorem cv_f1 (x : S24) : (cv x).f1 = x.f1 := by cases x; rfl
theorem cv_f2 (x : S24) : (cv x).f2 = cvL x.f2 := by cases x; rfl
theorem sub_cv (x : S24) : sub28 (cv x) = sub24 x := by
 induction x using S24.ind with
 | h x ih =>
 rw [sub28_eq, cv_f2, sub24_eq]
 generalize x.f2 = l at ih
 induction l with
 | nil => rfl
 | cons y ys ihy =>
  simp only [cvL, subL28, subL24]
  rw [ih y List.mem_cons_self, ihy (fun z hz => ih z (List.mem_cons_of_mem _ hz))]
theorem laws_toExprS_l (l : List S24) (hl : l.length ≤ 1048576) (ih : ∀ y ∈ l, Ev (fun k => laws_toExpr.f k y.f0 y.f1 y.f2) (y.f0, y.f1, cvL y.f2)) :
  ∀ (d i : Nat) (x3 : List S28), i + d = l.length → x3.length = l.length → x3.take i = (l.map cv).take i → Ev (fun k => laws_toExprS.l0 k l x3 i) (l.map cv) := by
 intro d
 induction d with
 | zero =>
  intro i x3 hi hx ht
  apply Ev.succ
  simp only [laws_toExprS.l0.eq_2]
  refine Ev.neg (by omega) (Ev.ret ?_)
  rwa [List.take_of_length_le (by omega), List.take_of_length_le (by simp; omega)] at ht
 | succ d ihd =>
  intro i x3 hi hx ht
  have hlt : i < l.length := by omega
  apply Ev.succ
  simp only [laws_toExprS.l0.eq_2]
  refine Ev.pos (by omega) (Ev.pos (by omega) ?_)
  rw [rd24_get l i hlt, w64 (by omega) (by omega)]
  refine Ev.bind (ih _ (List.getElem_mem hlt)) ?_
  refine Ev.pos (by omega) ?_
  refine ihd (i + 1) _ (by omega) (by simp [hx]) ?_
  rw [take_snoc _ i (by simp; omega), take_snoc _ i (by simp; omega)]
  have e : (⟨l[i].f0, l[i].f1, cvL l[i].f2⟩ : S28) = cv l[i] := by cases l[i]; rfl
  simp [List.take_set_of_le, ht, e]
theorem laws_toExprS_ev (l : List S24) (hl : l.length ≤ 1048576) (ih : ∀ y ∈ l, Ev (fun k => laws_toExpr.f k y.f0 y.f1 y.f2) (y.f0, y.f1, cvL y.f2)) : Ev (fun k => laws_toExprS.f k l) (cvL l) := by
 apply Ev.succ
 simp only [laws_toExprS.f.eq_2]
 rw [cvL_map]
 refine Ev.pos (by omega) (Ev.pos (by omega) ?_)
 exact laws_toExprS_l l hl ih l.length 0 _ (by omega) (by simp) (by simp)
theorem laws_toExpr_ev : ∀ (x : S24), sub24 x ≤ 1048576 → Ev (fun k => laws_toExpr.f k x.f0 x.f1 x.f2) (x.f0, x.f1, cvL x.f2) := by
 intro x
 induction x using S24.ind with
 | h x ih =>
 intro hs
 have hl := subL24_len x.f2
 rw [sub24_eq] at hs
 apply Ev.succ
 simp only [laws_toExpr.f.eq_2]
 refine Ev.bind (laws_toExprS_ev x.f2 (by omega) (fun y hy => ih y hy (by have := subL24_mem hy; omega))) (Ev.ret rfl)

theorem laws_eqExprS_l (l : List S28) (hl : l.length ≤ 1048576) (ih : ∀ y ∈ l, Ev (fun k => laws_eqExpr.f k y.f0 y.f1 y.f2 y.f0 y.f1 y.f2) true) :
  ∀ (d i : Nat), i + d = l.length → Ev (fun k => laws_eqExprS.l0 k l l i) true := by
 intro d
 induction d with
 | zero =>
  intro i hi
  apply Ev.succ
  simp only [laws_eqExprS.l0.eq_2]
  exact Ev.neg (by omega) (Ev.now _)
 | succ d ihd =>
  intro i hi
  have hlt : i < l.length := by omega
  apply Ev.succ
  simp only [laws_eqExprS.l0.eq_2]
  refine Ev.pos (by omega) (Ev.pos (by omega) (Ev.pos (by omega) ?_))
  rw [rd28_get l i hlt, w64 (by omega) (by omega)]
  refine Ev.bind (ih _ (List.getElem_mem hlt)) (Ev.pos rfl ?_)
  exact ihd (i + 1) (by omega)
theorem laws_eqExprS_ev (l : List S28) (hl : l.length ≤ 1048576) (ih : ∀ y ∈ l, Ev (fun k => laws_eqExpr.f k y.f0 y.f1 y.f2 y.f0 y.f1 y.f2) true) : Ev (fun k => laws_eqExprS.f k l l) true := by
 apply Ev.succ
 simp only [laws_eqExprS.f.eq_2]
 exact Ev.pos trivial (laws_eqExprS_l l hl ih l.length 0 (by omega))
theorem laws_eqExpr_ev : ∀ (x : S28), sub28 x ≤ 1048576 → Ev (fun k => laws_eqExpr.f k x.f0 x.f1 x.f2 x.f0 x.f1 x.f2) true := by
 intro x
 induction x using S28.ind with
 | h x ih =>
 intro hs
 have hl := subL28_len x.f2
 rw [sub28_eq] at hs
 apply Ev.succ
 simp only [laws_eqExpr.f.eq_2]
 refine Ev.pos trivial (Ev.pos trivial ?_)
 refine Ev.bind (laws_eqExprS_ev x.f2 (by omega) (fun y hy => ih y hy (by have := subL28_mem hy; omega))) (Ev.pos rfl (Ev.now _))

mutual
/-- A tree whose nodes are numbered. -/
def mk28 : S28 → Int → S28
 | ⟨_, _, l⟩, a => ⟨a, a + 1, mkL28 l (a + 2)⟩
def mkL28 : List S28 → Int → List S28
 | [], _ => []
 | x :: xs, a => mk28 x a :: mkL28 xs (a + 2 * ((1 + sub28 x : Nat) : Int))
end
theorem mk28_eq (x : S28) (a : Int) : mk28 x a = ⟨a, a + 1, mkL28 x.f2 (a + 2)⟩ := by cases x; rfl
theorem mkL28_length (l : List S28) (a : Int) : (mkL28 l a).length = l.length := by
 induction l generalizing a with
 | nil => rfl
 | cons x xs ih => simp [mkL28, ih]
theorem mkL28_get (l : List S28) (i : Nat) (h : i < l.length) : ∀ a : Int, rd_T28 (mkL28 l a) (i : Int) = mk28 l[i] (a + 2 * ((subL28 (l.take i) : Nat) : Int)) := by
 induction l generalizing i with
 | nil => simp at h
 | cons x xs ih =>
  intro a
  cases i with
  | zero => simp [mkL28, rd_T28, subL28]
  | succ i =>
   have hi : i < xs.length := by simpa using h
   have := ih i hi (a + 2 * ((1 + sub28 x : Nat) : Int))
   simp only [rd_T28] at this ⊢
   simp only [mkL28, List.getElem_cons_succ, List.take_succ_cons, subL28]
   have e : (((i + 1 : Nat) : Int)).toNat = i + 1 := by omega
   have e2 : ((i : Nat) : Int).toNat = i := by omega
   rw [e, List.getD_cons_succ]
   rw [e2] at this
   rw [this]
   congr 1
   omega
theorem subL28_take_succ (l : List S28) (i : Nat) (h : i < l.length) : subL28 (l.take (i + 1)) = subL28 (l.take i) + 1 + sub28 l[i] := by
 induction l generalizing i with
 | nil => simp at h
 | cons x xs ih =>
  cases i with
  | zero => simp [subL28]
  | succ i =>
   have hi : i < xs.length := by simpa using h
   have := ih i hi
   simp only [List.take_succ_cons, subL28, List.getElem_cons_succ]
   omega
theorem subL28_take_le (l : List S28) (i : Nat) : subL28 (l.take i) ≤ subL28 l := by
 induction l generalizing i with
 | nil => simp
 | cons x xs ih =>
  cases i with
  | zero => simp [subL28]
  | succ i =>
   have := ih i
   simp only [List.take_succ_cons, subL28]
   omega

theorem laws_markExprS_n (n : Nat) : (∀ (l : List S28) (a : Int), subL28 l ≤ n → 0 ≤ a → a + 2 * ((subL28 l : Nat) : Int) ≤ 1000000000000 → Ev (fun k => laws_markExprS.ls k l a) (a + 2 * ((subL28 l : Nat) : Int), mkL28 l a)) ∧ (∀ (l : List S28) (a : Int), subL28 l ≤ n → 0 ≤ a → a + 2 * ((subL28 l : Nat) : Int) ≤ 1000000000000 → Ev (fun k => laws_markExprS.s k l a) (a + 2 * ((subL28 l : Nat) : Int), mkL28 l a)) := by
 induction n with
 | zero =>
  have h1 : ∀ (l : List S28) (a : Int), subL28 l ≤ 0 → 0 ≤ a → a + 2 * ((subL28 l : Nat) : Int) ≤ 1000000000000 → Ev (fun k => laws_markExprS.ls k l a) (a + 2 * ((subL28 l : Nat) : Int), mkL28 l a) := by
   intro l a h _ _
   cases l with
   | nil =>
    apply Ev.succ
    simp only [laws_markExprS.ls]
    exact Ev.ret (by simp [subL28, mkL28])
   | cons x xs => simp only [subL28] at h; omega
  refine ⟨h1, fun l a h h0 hb => ?_⟩
  apply Ev.succ
  simp only [laws_markExprS.s]
  exact h1 l a h h0 hb
 | succ n ih =>
  obtain ⟨ih0, ih1⟩ := ih
  have h1 : ∀ (l : List S28) (a : Int), subL28 l ≤ n + 1 → 0 ≤ a → a + 2 * ((subL28 l : Nat) : Int) ≤ 1000000000000 → Ev (fun k => laws_markExprS.ls k l a) (a + 2 * ((subL28 l : Nat) : Int), mkL28 l a) := by
   intro l a h h0 hb
   cases l with
   | nil =>
    apply Ev.succ
    simp only [laws_markExprS.ls]
    exact Ev.ret (by simp [subL28, mkL28])
   | cons x xs =>
    simp only [subL28] at h hb ⊢
    apply Ev.succ
    simp only [laws_markExprS.ls]
    rw [w64 (n := a + 1) (by omega) (by omega), w64 (n := a + 1 + 1) (by omega) (by omega)]
    have e := sub28_eq x
    have i1 := ih1 x.f2 (a + 1 + 1) (by omega) (by omega) (by omega)
    refine Ev.bind i1 ?_
    have i2 := ih0 xs (a + 1 + 1 + 2 * ((subL28 x.f2 : Nat) : Int)) (by omega) (by omega) (by omega)
    refine Ev.bind i2 (Ev.ret ?_)
    rw [mkL28, mk28_eq, e]
    have e1 : a + 1 + 1 + 2 * ((subL28 x.f2 : Nat) : Int) = a + 2 * ((1 + subL28 x.f2 : Nat) : Int) := by omega
    have e2 : a + 1 + 1 = a + 2 := by omega
    rw [e1, e2]
    simp only [Prod.mk.injEq, and_true]
    omega
  refine ⟨h1, fun l a h h0 hb => ?_⟩
  apply Ev.succ
  simp only [laws_markExprS.s]
  exact h1 l a h h0 hb
theorem laws_markExprS_ev (l : List S28) (a : Int) (h0 : 0 ≤ a) (hb : a + 2 * ((subL28 l : Nat) : Int) ≤ 1000000000000) : Ev (fun k => laws_markExprS.s k l a) (a + 2 * ((subL28 l : Nat) : Int), mkL28 l a) := (laws_markExprS_n (subL28 l)).2 l a (Nat.le_refl _) h0 hb

mutual
/-- How deep an expression is. -/
def dep28 : S28 → Nat
 | ⟨_, _, l⟩ => depL28 l + 1
def depL28 : List S28 → Nat
 | [] => 0
 | x :: xs => max (dep28 x) (depL28 xs)
end
theorem dep28_eq (x : S28) : dep28 x = depL28 x.f2 + 1 := by cases x; rfl
theorem dep28_le (x : S28) : dep28 x ≤ 1 + sub28 x := by
 induction x using S28.ind with
 | h x ih =>
 rw [dep28_eq, sub28_eq]
 generalize x.f2 = l at ih
 suffices h : depL28 l ≤ subL28 l by omega
 induction l with
 | nil => simp [depL28]
 | cons y ys ihy =>
  have h1 := ih y List.mem_cons_self
  have h2 := ihy (fun z hz => ih z (List.mem_cons_of_mem _ hz))
  simp only [depL28, subL28]
  omega
theorem depL28_drop (xs : List S28) (i : Nat) (h : i < xs.length) : depL28 (xs.drop i) = max (dep28 xs[i]) (depL28 (xs.drop (i + 1))) := by
 rw [drop_cons xs i h, depL28]
theorem spec_l10Size_l (l : List S28) (hl : l.length ≤ 1048576) (ih : ∀ y ∈ l, Ev (fun k => spec_l10Size.f k y.f0 y.f1 y.f2) (((1 + sub28 y : Nat) : Int), ((dep28 y : Nat) : Int))) :
  ∀ (d i n m : Nat), i + d = l.length → n + subL28 (l.drop i) ≤ 2097152 → m ≤ 2097152 → (∀ y ∈ l, dep28 y ≤ 2097152) → Ev (fun k => spec_l10Size.l0 k n m l (l.length : Int) i) (((n + subL28 (l.drop i) : Nat) : Int), ((max m (depL28 (l.drop i)) + 1 : Nat) : Int)) := by
 intro d
 induction d with
 | zero =>
  intro i n m hi hn hm hd
  apply Ev.succ
  simp only [spec_l10Size.l0.eq_2]
  refine Ev.neg (by omega) (Ev.ret ?_)
  rw [List.drop_of_length_le (by omega), w64 (by omega) (by omega)]
  simp [subL28, depL28]
 | succ d ihd =>
  intro i n m hi hn hm hd
  have hlt : i < l.length := by omega
  apply Ev.succ
  simp only [spec_l10Size.l0.eq_2]
  refine Ev.pos (by omega) (Ev.pos (by omega) (Ev.pos (by omega) ?_))
  rw [rd28_get l i hlt]
  refine Ev.bind (ih _ (List.getElem_mem hlt)) ?_
  rw [subL28_drop l i hlt] at hn ⊢
  rw [depL28_drop l i hlt]
  have h1 := hd _ (List.getElem_mem hlt)
  rw [w64 (n := (i : Int) + 1) (by omega) (by omega), w64 (by omega) (by omega)]
  have e1 : (n : Int) + ((1 + sub28 l[i] : Nat) : Int) = ((n + (1 + sub28 l[i]) : Nat) : Int) := by omega
  have e2 : mx (m : Int) (dep28 l[i]) = ((max m (dep28 l[i]) : Nat) : Int) := by simp only [mx]; split <;> omega
  simp only [e1, e2]
  refine evTo (ihd (i + 1) _ _ (by omega) (by omega) (by omega) hd) ?_
  rw [Nat.max_assoc, Nat.add_assoc]
theorem spec_l10Size_ev : ∀ (x : S28), sub28 x ≤ 1048576 → Ev (fun k => spec_l10Size.f k x.f0 x.f1 x.f2) (((1 + sub28 x : Nat) : Int), ((dep28 x : Nat) : Int)) := by
 intro x
 induction x using S28.ind with
 | h x ih =>
 intro hs
 have hl := subL28_len x.f2
 rw [sub28_eq] at hs ⊢
 rw [dep28_eq]
 apply Ev.succ
 simp only [spec_l10Size.f.eq_2]
 have := spec_l10Size_l x.f2 (by omega) (fun y hy => ih y hy (by have := subL28_mem hy; omega)) x.f2.length 0 1 0 (by omega) (by simp only [List.drop_zero]; omega) (by omega) (fun y hy => by have := subL28_mem hy; have := dep28_le y; omega)
 simpa using this

theorem spec_l1In_eq (a b c : Int) : spec_l1In.f a b c = some (decide (b ≤ a ∧ a ≤ c)) := by
 unfold spec_l1In.f
 by_cases h : b ≤ a
 ·rw [if_pos (by omega)]; simp [h]
 ·rw [if_neg (by omega)]; simp [h]

theorem spec_LimitOf_l (n : Nat) (hn : n ≤ 30) : ∀ (d i : Nat), i + d = n → Ev (fun k => spec_LimitOf.l0 k n (((3 : Int) ^ i - 1) / 2) i) (((3 : Int) ^ n - 1) / 2) := by
 intro d
 induction d with
 | zero =>
  intro i hi
  apply Ev.succ
  simp only [spec_LimitOf.l0.eq_2]
  refine Ev.neg (by omega) (Ev.ret ?_)
  rw [← hi]; rfl
 | succ d ih =>
  intro i hi
  apply Ev.succ
  simp only [spec_LimitOf.l0.eq_2]
  have h1 := pow3_30 (i := i + 1) (by omega)
  have h2 := pow3_pos i
  have h3 := pow3_lim i
  have h4 := pow3_lim (i + 1)
  rw [pow3_succ] at h1 h4
  refine Ev.pos (by omega) ?_
  rw [w64 (n := _ * _) (by omega) (by omega), w64 (by omega) (by omega), w64 (by omega) (by omega)]
  refine (ih (i + 1) (by omega)).congr (fun k => ?_)
  refine congrArg (fun z => spec_LimitOf.l0 k n z _) ?_
  rw [pow3_succ]; omega
theorem spec_LimitOf_ev (n : Int) : Ev (fun k => spec_LimitOf.f k n) (lim n) := by
 simp only [spec_LimitOf.f, spec_l1In_eq, Option.bind_some, decide_eq_true_eq]
 unfold lim
 refine Ev.ite (fun h => ?_) (fun h => Ev.ret (by rw [if_neg h]))
 obtain ⟨m, rfl⟩ : ∃ m : Nat, n = m := ⟨n.toNat, by omega⟩
 rw [if_pos h]
 exact spec_LimitOf_l m (by omega) m 0 (by omega)

/-- How many parts an operation takes. -/
def arity (a : Int) : Int := if a = 1 then 0 else if a = 2 ∨ a = 3 then 1 else 2
def nodeOk (a b : Int) (n : Nat) : Bool := decide ((1 ≤ a ∧ a ≤ 8) ∧ (n : Int) = arity a ∧ (a = 1 ∨ b = 0) ∧ 0 ≤ b ∧ b ≤ lim 30)
mutual
/-- An expression's shape is right. -/
def shp28 : S28 → Bool
 | ⟨a, b, l⟩ => nodeOk a b l.length && shpL28 l
def shpL28 : List S28 → Bool
 | [] => true
 | x :: xs => shp28 x && shpL28 xs
end
theorem shp28_eq (x : S28) : shp28 x = (nodeOk x.f0 x.f1 x.f2.length && shpL28 x.f2) := by cases x; rfl
theorem shpL28_drop (xs : List S28) (i : Nat) (h : i < xs.length) : shpL28 (xs.drop i) = (shp28 xs[i] && shpL28 (xs.drop (i + 1))) := by
 rw [drop_cons xs i h, shpL28]
theorem spec_l10Shape_l (l : List S28) (hl : l.length ≤ 1048576) (ih : ∀ y ∈ l, Ev (fun k => spec_l10Shape.f k y.f0 y.f1 y.f2) (shp28 y)) :
  ∀ (d i : Nat), i + d = l.length → Ev (fun k => spec_l10Shape.l0 k l (l.length : Int) i) (shpL28 (l.drop i)) := by
 intro d
 induction d with
 | zero =>
  intro i hi
  apply Ev.succ
  simp only [spec_l10Shape.l0.eq_2]
  refine Ev.neg (by omega) (Ev.ret ?_)
  rw [List.drop_of_length_le (by omega)]; rfl
 | succ d ihd =>
  intro i hi
  have hlt : i < l.length := by omega
  apply Ev.succ
  simp only [spec_l10Shape.l0.eq_2]
  refine Ev.pos (by omega) (Ev.pos (by omega) (Ev.pos (by omega) ?_))
  rw [rd28_get l i hlt, w64 (by omega) (by omega), shpL28_drop l i hlt]
  refine Ev.bind (ih _ (List.getElem_mem hlt)) ?_
  refine Ev.ite (fun h => ?_) (fun h => Ev.ret ?_)
  ·rw [h, Bool.true_and]; exact ihd (i + 1) (by omega)
  ·simp at h; simp [h]
theorem spec_l10Shape_ev : ∀ (x : S28), sub28 x ≤ 1048576 → Ev (fun k => spec_l10Shape.f k x.f0 x.f1 x.f2) (shp28 x) := by
 intro x
 induction x using S28.ind with
 | h x ih =>
 intro hs
 have hl := subL28_len x.f2
 rw [sub28_eq] at hs
 have hL : Ev (fun k => spec_l10Shape.l0 k x.f2 (x.f2.length : Int) 0) (shpL28 x.f2) := by
  have := spec_l10Shape_l x.f2 (by omega) (fun y hy => ih y hy (by have := subL28_mem hy; omega)) x.f2.length 0 (by omega)
  simpa using this
 have hlim : lim 30 = 102945566047324 := by rfl
 have j1 : ∀ b : Bool, Ev (fun k => spec_l10Shape.j1 k b x.f0 x.f1 x.f2) (!b && shpL28 x.f2) := by
  intro b
  apply Ev.succ
  simp only [spec_l10Shape.j1.eq_2]
  cases b
  ·refine Ev.neg (by simp) ?_; simpa using hL
  ·exact Ev.pos rfl (Ev.ret (by simp))
 have j0 : Ev (fun k => spec_l10Shape.j0 k (arity x.f0) x.f0 x.f1 x.f2) (shp28 x) := by
  apply Ev.succ
  simp only [spec_l10Shape.j0.eq_2]
  simp only [spec_l1In_eq, Option.bind_some, decide_eq_true_eq]
  rw [shp28_eq]
  refine Ev.ite (fun h1 => ?_) (fun h1 => ?_)
  ·refine Ev.ite (fun h2 => ?_) (fun h2 => ?_)
   ·refine Ev.ite (fun h3 => ?_) (fun h3 => ?_)
    ·have h5 : x.f0 ≠ 1 := by intro h; rw [h] at h3; simp [arity] at h3
     refine Ev.ite (fun h4 => ?_) (fun h4 => ?_)
     ·refine Ev.bind (spec_LimitOf_ev 30) (evTo (j1 _) ?_)
      simp [nodeOk, h1, h2, h4]
     ·refine evTo (j1 _) ?_
      simp [nodeOk, h5, h4]
    ·have h5 : x.f0 = 1 := by
      unfold arity at h3
      split at h3
      ·assumption
      ·split at h3 <;> omega
     refine Ev.bind (spec_LimitOf_ev 30) (evTo (j1 _) ?_)
     rw [h5] at h2
     simp [nodeOk, h5, h2]
   ·refine evTo (j1 _) ?_
    simp [nodeOk, h2]
  ·refine evTo (j1 _) ?_
   simp [nodeOk, h1]
 apply Ev.succ
 simp only [spec_l10Shape.f.eq_2]
 refine Ev.ite (fun h => ?_) (fun h => Ev.ite (fun h' => ?_) (fun h' => Ev.ite (fun h'' => ?_) (fun h'' => ?_)))
 ·rw [show arity x.f0 = 0 by simp [arity, h]] at j0; exact j0
 ·rw [show arity x.f0 = 1 by simp [arity, h']] at j0; exact j0
 ·rw [show arity x.f0 = 1 by simp [arity, h'']] at j0; exact j0
 ·rw [show arity x.f0 = 2 by simp [arity, h, h', h'']] at j0; exact j0

/-- An expression that both take. -/
def isE (x : S28) : Bool := decide (1 + sub28 x ≤ 60 ∧ dep28 x ≤ 12) && shp28 x
theorem spec_IsExpr_ev (x : S28) (hs : sub28 x ≤ 1048576) : Ev (fun k => spec_IsExpr.f k x.f0 x.f1 x.f2) (isE x) := by
 simp only [spec_IsExpr.f]
 refine Ev.bind (spec_l10Size_ev x hs) ?_
 unfold isE
 refine Ev.ite (fun h1 => Ev.ite (fun h2 => Ev.bind (spec_l10Shape_ev x hs) (Ev.ret ?_)) (fun h2 => Ev.ret ?_)) (fun h1 => Ev.ret ?_)
 ·rw [decide_eq_true (by omega), Bool.true_and]
 ·rw [decide_eq_false (by omega), Bool.false_and]
 ·rw [decide_eq_false (by omega), Bool.false_and]

def wrapc (n : Int) : Int := (n + 9841) % 19683 - 9841
theorem wrapc_range (n : Int) : -9841 ≤ wrapc n ∧ wrapc n ≤ 9841 := by unfold wrapc; omega
theorem tmod_19683 (n : Int) : Int.tmod n 19683 = if 0 ≤ n then n % 19683 else -((-n) % 19683) := by
 split
 ·exact Int.tmod_eq_emod_of_nonneg (by omega)
 ·have h : Int.tmod (-n) 19683 = (-n) % 19683 := Int.tmod_eq_emod_of_nonneg (by omega)
  rw [Int.neg_tmod] at h; omega

theorem spec_WrapCell_eq (n : Int) : spec_WrapCell.f n = some (wrapc n) := by
 unfold spec_WrapCell.f wrapc
 rw [tmod_19683]
 generalize hr : (if 0 ≤ n then n % 19683 else -(-n % 19683)) = r
 have h1 : -19683 < r ∧ r < 19683 ∧ (r - n) % 19683 = 0 := by split at hr <;> omega
 rw [w64 (n := r - 19683) (by omega) (by omega)]
 by_cases c1 : r > 9841
 ·rw [if_pos c1, if_neg (by omega)]; refine congrArg some ?_; omega
 ·rw [if_neg c1]
  by_cases c2 : r < -9841
  ·rw [if_pos c2, w64 (by omega) (by omega)]; refine congrArg some ?_; omega
  ·rw [if_neg c2]; refine congrArg some ?_; omega

/-- One operation behind the kids' code, by the kind. -/
def codC (a b : Int) (t : List S50 × Bool) : List S50 × Bool :=
 if t.2 = true then (if a = 1 then (t.1 ++ [⟨1, wrapc b, 0, 0⟩], true) else if a = 2 then (t.1, true) else if a = 3 then (t.1 ++ [⟨5, 0, 0, 0⟩], true) else if a = 4 ∨ a = 5 ∨ a = 6 then (t.1 ++ [⟨a - 2, 0, 0, 0⟩], true) else ([], false)) else ([], false)
mutual
/-- The code of an expression. -/
def cod28 : S28 → List S50 × Bool
 | ⟨a, b, l⟩ => codC a b (codL28 l)
def codL28 : List S28 → List S50 × Bool
 | [] => ([], true)
 | x :: xs => if (cod28 x).2 = true then (if (codL28 xs).2 = true then ((cod28 x).1 ++ (codL28 xs).1, true) else ([], false)) else ([], false)
end
theorem cod28_eq (x : S28) : cod28 x = codC x.f0 x.f1 (codL28 x.f2) := by cases x; rfl
theorem codC_len (a b : Int) (t : List S50 × Bool) : (codC a b t).1.length ≤ t.1.length + 1 := by
 unfold codC
 repeat' split
 all_goals simp
theorem codL_len (l : List S28) (ih : ∀ y ∈ l, (cod28 y).1.length ≤ 1 + sub28 y) : (codL28 l).1.length ≤ subL28 l := by
 induction l with
 | nil => simp [codL28]
 | cons x xs ihx =>
  have h1 := ih x (by simp)
  have h2 := ihx (fun y hy => ih y (List.mem_cons_of_mem _ hy))
  simp only [codL28, subL28]
  split
  ·split
   ·simp only [List.length_append]; omega
   ·simp
  ·simp
theorem cod_len (x : S28) : (cod28 x).1.length ≤ 1 + sub28 x := by
 induction x using S28.ind with
 | h x ih =>
  have h1 := codL_len x.f2 ih
  have h2 := codC_len x.f0 x.f1 (codL28 x.f2)
  rw [cod28_eq, sub28_eq]
  omega
theorem codL_drop (l : List S28) (i : Nat) (h : i < l.length) : codL28 (l.drop i) = if (cod28 l[i]).2 = true then (if (codL28 (l.drop (i + 1))).2 = true then ((cod28 l[i]).1 ++ (codL28 (l.drop (i + 1))).1, true) else ([], false)) else ([], false) := by
 rw [drop_cons l i h, codL28]
/-- What stands behind what was there. -/
def after (acc : List S50) (t : List S50 × Bool) : List S50 × Bool := if t.2 = true then (acc ++ t.1, true) else ([], false)
theorem after_codC (acc : List S50) (a b : Int) (t : List S50 × Bool) : after acc (codC a b t) = codC a b (after acc t) := by
 unfold after codC
 by_cases h : t.2 = true
 ·simp only [h, if_true]
  repeat' split
  all_goals simp_all
 ·simp [h]

theorem spec_l10Code_fin (k : Nat) (a b : Int) (xs : List S50) (hx : xs.length ≤ 4000000) : spec_l10Code.fin k a b xs = some (codC a b (xs, true)) := by
 have hl : xs.length < 4398046511104 := by omega
 simp only [spec_l10Code.fin, codC, spec_WrapCell_eq, Option.bind_some, if_true, if_pos hl]
 by_cases h1 : a = 1
 ·rw [if_pos h1, if_pos h1]
 rw [if_neg h1, if_neg h1]
 by_cases h2 : a = 2
 ·rw [if_pos h2, if_pos h2]
 rw [if_neg h2, if_neg h2]
 by_cases h3 : a = 3
 ·rw [if_pos h3, if_pos h3]
 rw [if_neg h3, if_neg h3]
 by_cases h4 : a = 4 ∨ a = 5 ∨ a = 6
 ·rw [if_pos h4, if_pos h4]
  have e : wrap64 (wrap64 (2 + a) - 4) = a - 2 := by rw [w64 (n := 2 + a) (by omega) (by omega), w64 (by omega) (by omega)]; omega
  rw [e]
 ·rw [if_neg h4, if_neg h4]
theorem spec_l10Code_l (l : List S28) (a b : Int) (hl : l.length ≤ 1048576) (ha : a = 1 ∨ a = 2 ∨ a = 3 ∨ a = 4 ∨ a = 5 ∨ a = 6 ∨ a = 7 ∨ a = 8) (ih : ∀ y ∈ l, ∀ xs : List S50, xs.length + (1 + sub28 y) ≤ 4000000 → Ev (fun k => spec_l10Code.f k y.f0 y.f1 y.f2 xs) (after xs (cod28 y))) :
  ∀ (d i : Nat) (xs : List S50), i + d = l.length → xs.length + subL28 (l.drop i) ≤ 4000000 → Ev (fun k => spec_l10Code.l0 k l i a b xs) (codC a b (after xs (codL28 (l.drop i)))) := by
 intro d
 induction d with
 | zero =>
  intro i xs hi hx
  apply Ev.succ
  simp only [spec_l10Code.l0.eq_2]
  rw [List.drop_of_length_le (by omega)]
  simp only [spec_l10Code_fin _ a b xs (show xs.length ≤ 4000000 by omega)]
  refine Ev.neg (by omega) (Ev.ret ?_)
  simp [codL28, after]
 | succ d ihd =>
  intro i xs hi hx
  have hlt : i < l.length := by omega
  rw [subL28_drop l i hlt] at hx
  apply Ev.succ
  simp only [spec_l10Code.l0.eq_2]
  rw [rd28_get l i hlt, w64 (by omega) (by omega), codL_drop l i hlt]
  have i1 := ih l[i] (List.getElem_mem hlt) xs (by omega)
  have hc := cod_len l[i]
  refine Ev.pos (by omega) (Ev.bind i1 ?_)
  by_cases h : (cod28 l[i]).2 = true
  ·rw [if_pos h]
   have ea : after xs (cod28 l[i]) = (xs ++ (cod28 l[i]).1, true) := by unfold after; rw [if_pos h]
   rw [ea]
   refine Ev.pos rfl ?_
   rw [show (i : Int) + 1 = ((i + 1 : Nat) : Int) by omega]
   refine evTo (ihd (i + 1) _ (by omega) (by simp only [List.length_append]; omega)) ?_
   congr 1
   unfold after
   by_cases h2 : (codL28 (l.drop (i + 1))).2 = true
   ·rw [if_pos h2, if_pos h2]; simp
   ·rw [if_neg h2, if_neg h2]; simp
  ·rw [if_neg h]
   have ea : after xs (cod28 l[i]) = ([], false) := by unfold after; rw [if_neg h]
   rw [ea]
   exact Ev.neg (by simp) (Ev.ret (by simp [after, codC]))
theorem kind_of {x : S28} (h : shp28 x = true) : x.f0 = 1 ∨ x.f0 = 2 ∨ x.f0 = 3 ∨ x.f0 = 4 ∨ x.f0 = 5 ∨ x.f0 = 6 ∨ x.f0 = 7 ∨ x.f0 = 8 := by
 rw [shp28_eq, Bool.and_eq_true] at h
 have := h.1
 simp only [nodeOk, decide_eq_true_eq] at this
 omega
theorem shpL28_mem {l : List S28} (h : shpL28 l = true) {y : S28} (hy : y ∈ l) : shp28 y = true := by
 induction l with
 | nil => simp at hy
 | cons x xs ih =>
  simp only [shpL28, Bool.and_eq_true] at h
  rcases List.mem_cons.1 hy with rfl | hy
  ·exact h.1
  ·exact ih h.2 hy
theorem spec_l10Code_ev (x : S28) : shp28 x = true → sub28 x ≤ 1048576 → ∀ xs : List S50, xs.length + (1 + sub28 x) ≤ 4000000 → Ev (fun k => spec_l10Code.f k x.f0 x.f1 x.f2 xs) (after xs (cod28 x)) := by
 induction x using S28.ind with
 | h x ih =>
  intro h hs xs hx
  have hl := subL28_len x.f2
  have hk := kind_of h
  have hL : shpL28 x.f2 = true := by rw [shp28_eq, Bool.and_eq_true] at h; exact h.2
  rw [sub28_eq] at hs hx
  apply Ev.succ
  simp only [spec_l10Code.f.eq_2]
  rw [cod28_eq, after_codC]
  have := spec_l10Code_l x.f2 x.f0 x.f1 (by omega) hk (fun y hy xs hxs => ih y hy (shpL28_mem hL hy) (by have := subL28_mem hy; omega) xs hxs) x.f2.length 0 xs (by omega) (by simp; omega)
  simpa using this

def cellB (n : Int) : Bool := decide (-9841 ≤ n ∧ n ≤ 9841)

theorem spec_l7Cell_eq (n : Int) : spec_l7Cell.f n = some (cellB n) := by
 unfold spec_l7Cell.f
 rw [spec_l1In_eq]; rfl

theorem rdO_get (xs : List S50) (i : Nat) (h : i < xs.length) : rd_T50 xs (i : Int) = xs[i] := by
 simp [rd_T50, List.getD_eq_getElem?_getD, List.getElem?_eq_getElem h]

/-- An operation that may stand in a code of n. -/
def opB (n : Int) (x : S50) : Bool := decide (
 if x.f0 = 1 then (-9841 ≤ x.f1 ∧ x.f1 ≤ 9841) ∧ x.f2 = 0 ∧ x.f3 = 0
 else if x.f0 = 10 then (-9 ≤ x.f1 ∧ x.f1 ≤ 9) ∧ x.f2 = 0 ∧ x.f3 = 0
 else if x.f0 = 13 then (0 ≤ x.f1 ∧ x.f1 ≤ n) ∧ x.f2 = 0 ∧ x.f3 = 0
 else if x.f0 = 14 then (0 ≤ x.f1 ∧ x.f1 ≤ n) ∧ (0 ≤ x.f2 ∧ x.f2 ≤ n) ∧ (0 ≤ x.f3 ∧ x.f3 ≤ n)
 else (1 ≤ x.f0 ∧ x.f0 ≤ 15) ∧ x.f1 = 0 ∧ x.f2 = 0 ∧ x.f3 = 0)
def codeB (l : List S50) : Bool := decide (1 ≤ l.length ∧ l.length ≤ 80) && l.all (opB l.length)

theorem spec_IsCode_l (l : List S50) (n : Int) (hl : l.length ≤ 1048576) : ∀ (d i : Nat), i + d = l.length → Ev (fun k => spec_IsCode.l0 k n l (l.length : Int) i) ((l.drop i).all (opB n)) := by
 intro d
 induction d with
 | zero =>
  intro i hi
  apply Ev.succ
  simp only [spec_IsCode.l0.eq_2]
  refine Ev.neg (by omega) (Ev.ret ?_)
  rw [List.drop_of_length_le (by omega)]; rfl
 | succ d ihd =>
  intro i hi
  have hlt : i < l.length := by omega
  apply Ev.succ
  simp only [spec_IsCode.l0.eq_2]
  refine Ev.pos (by omega) (Ev.pos (by omega) (Ev.pos (by omega) ?_))
  rw [rdO_get l i hlt, drop_cons l i hlt, List.all_cons]
  have rec_ := ihd (i + 1) (by omega)
  generalize l[i] = x
  have go : ∀ b : Bool, (opB n x = true ↔ b = true) → Ev (fun k => if b = true then spec_IsCode.l0 k n l (l.length : Int) (wrap64 ((i : Int) + 1)) else some false) (opB n x && (l.drop (i + 1)).all (opB n)) := by
   intro b hb
   rw [w64 (by omega) (by omega)]
   refine Ev.ite (fun h => ?_) (fun h => Ev.ret ?_)
   ·rw [hb.2 h, Bool.true_and]; exact rec_
   ·have : opB n x = false := by rw [← Bool.not_eq_true]; exact fun h' => h (hb.1 h')
    rw [this, Bool.false_and]
  have bad : ¬ (opB n x = true) → Ev (fun k => (some false : Option Bool)) (opB n x && (l.drop (i + 1)).all (opB n)) := by
   intro h
   have : opB n x = false := by rw [← Bool.not_eq_true]; exact h
   rw [this, Bool.false_and]; exact Ev.now _
  have j1 : ∀ b6 : Bool, (b6 = true ↔ x.f2 = 0 ∧ x.f3 = 0) → Ev (fun k => spec_IsCode.j1 k n b6 l (l.length : Int) i x.f0 x.f1 x.f2 x.f3) (opB n x && (l.drop (i + 1)).all (opB n)) := by
   intro b6 h6
   apply Ev.succ
   simp only [spec_IsCode.j1.eq_2, spec_l7Cell_eq, spec_l1In_eq, Option.bind_some]
   refine Ev.ite (fun c1 => ?_) (fun c1 => Ev.ite (fun c2 => ?_) (fun c2 => Ev.ite (fun c3 => ?_) (fun c3 => Ev.ite (fun c4 => ?_) (fun c4 => ?_))))
   ·refine Ev.ite (fun h => go b6 ?_) (fun h => bad ?_)
    ·rw [h6]; simp only [cellB, decide_eq_true_eq] at h; simp [opB, c1, h]
    ·simp only [cellB, decide_eq_true_eq] at h; simp only [opB, c1, if_true, decide_eq_true_eq]; exact fun hh => h hh.1
   ·refine Ev.ite (fun h => go b6 ?_) (fun h => bad ?_)
    ·rw [h6]; simp only [decide_eq_true_eq] at h; simp [opB, c2, h]
    ·simp only [decide_eq_true_eq] at h; simp only [opB, if_neg c1, if_pos c2, decide_eq_true_eq]; exact fun hh => h hh.1
   ·refine Ev.ite (fun h => go b6 ?_) (fun h => bad ?_)
    ·rw [h6]; simp only [decide_eq_true_eq] at h; simp [opB, c3, h]
    ·simp only [decide_eq_true_eq] at h; simp only [opB, if_neg c1, if_neg c2, if_pos c3, decide_eq_true_eq]; exact fun hh => h hh.1
   ·refine Ev.ite (fun h => Ev.ite (fun h' => go _ ?_) (fun h' => bad ?_)) (fun h => bad ?_)
    ·simp only [decide_eq_true_eq] at h h' ⊢; simp only [opB, if_neg c1, if_neg c2, if_neg c3, if_pos c4, decide_eq_true_eq]; exact ⟨fun hh => hh.2.2, fun hh => ⟨h, h', hh⟩⟩
    ·simp only [decide_eq_true_eq] at h'; simp only [opB, if_neg c1, if_neg c2, if_neg c3, if_pos c4, decide_eq_true_eq]; exact fun hh => h' hh.2.1
    ·simp only [decide_eq_true_eq] at h; simp only [opB, if_neg c1, if_neg c2, if_neg c3, if_pos c4, decide_eq_true_eq]; exact fun hh => h hh.1
   ·refine Ev.ite (fun h => Ev.ite (fun h' => go b6 ?_) (fun h' => bad ?_)) (fun h => bad ?_)
    ·rw [h6]; simp only [decide_eq_true_eq] at h; simp only [opB, if_neg c1, if_neg c2, if_neg c3, if_neg c4, decide_eq_true_eq]; exact ⟨fun hh => hh.2.2, fun hh => ⟨h, h', hh⟩⟩
    ·simp only [opB, if_neg c1, if_neg c2, if_neg c3, if_neg c4, decide_eq_true_eq]; exact fun hh => h' hh.2.1
    ·simp only [decide_eq_true_eq] at h; simp only [opB, if_neg c1, if_neg c2, if_neg c3, if_neg c4, decide_eq_true_eq]; exact fun hh => h hh.1
  refine Ev.ite (fun h => j1 _ ?_) (fun h => j1 _ ?_)
  ·simp [h]
  ·simp [h]
theorem spec_IsCode_ev (l : List S50) (hl : l.length ≤ 1048576) : Ev (fun k => spec_IsCode.f k l) (codeB l) := by
 simp only [spec_IsCode.f, spec_l1In_eq, Option.bind_some, decide_eq_true_eq]
 unfold codeB
 refine Ev.ite (fun h => ?_) (fun h => Ev.ret ?_)
 ·rw [decide_eq_true (by omega), Bool.true_and]
  have := spec_IsCode_l l l.length hl l.length 0 (by omega)
  simpa using this
 ·rw [decide_eq_false (by omega), Bool.false_and]

/-- What both answer. -/
def comT (x : S28) : List S50 × Bool := if isE x = true then (if (cod28 x).2 = true then (if codeB (cod28 x).1 = true then ((cod28 x).1, true) else ([], false)) else ([], false)) else ([], false)
theorem isE_shp {x : S28} (h : isE x = true) : shp28 x = true ∧ sub28 x ≤ 60 := by
 unfold isE at h
 rw [Bool.and_eq_true, decide_eq_true_eq] at h
 exact ⟨h.2, by omega⟩
theorem comT_len (x : S28) : (comT x).1.length ≤ 61 := by
 unfold comT
 split
 ·rename_i h
  have := (isE_shp h).2
  have := cod_len x
  repeat' split
  all_goals simp
  omega
 ·simp
theorem spec_CompileExpr_ev (x : S28) (hs : sub28 x ≤ 1048576) : Ev (fun k => spec_CompileExpr.f k x.f0 x.f1 x.f2) (comT x) := by
 simp only [spec_CompileExpr.f]
 unfold comT
 refine Ev.bind (spec_IsExpr_ev x hs) ?_
 by_cases h : isE x = true
 ·rw [if_pos h]
  refine Ev.pos h ?_
  obtain ⟨h1, h2⟩ := isE_shp h
  have hc := cod_len x
  refine Ev.bind (spec_l10Code_ev x h1 hs [] (by simp; omega)) ?_
  by_cases g : (cod28 x).2 = true
  ·have ea : after [] (cod28 x) = ((cod28 x).1, true) := by unfold after; rw [if_pos g]; simp
   rw [if_pos g, ea]
   refine Ev.pos rfl (Ev.bind (spec_IsCode_ev _ (by simp only; omega)) ?_)
   by_cases q : codeB (cod28 x).1 = true
   ·rw [if_pos q, if_pos q]; exact Ev.now _
   ·rw [if_neg q, if_neg q]; exact Ev.now _
  ·have ea : after [] (cod28 x) = ([], false) := by unfold after; rw [if_neg g]
   rw [if_neg g, ea]
   exact Ev.neg (by simp) (Ev.now _)
 ·rw [if_neg h]
  exact Ev.neg h (Ev.now _)

def kids (a : Int) : Int := if a = 1 then 0 else if a = 2 ∨ a = 3 then 1 else if 4 ≤ a ∧ a ≤ 8 then 2 else -1
theorem impl_kids_ev (a : Int) : Ev (fun k => impl_kids.f k a) (kids a) := by
 have j0 : ∀ b : Bool, Ev (fun k => impl_kids.j0 k a b) (if b = true then 1 else if 4 ≤ a ∧ a ≤ 8 then 2 else -1) := by
  intro b
  apply Ev.succ
  simp only [impl_kids.j0.eq_2]
  refine Ev.ite (fun h => Ev.ret (by rw [if_pos h])) (fun h => ?_)
  rw [if_neg h]
  refine Ev.ite (fun _ => Ev.ret (by rw [if_pos (by omega)])) (fun _ => Ev.ite (fun _ => Ev.ret (by rw [if_pos (by omega)])) (fun _ => Ev.ite (fun _ => Ev.ret (by rw [if_pos (by omega)])) (fun _ => Ev.ite (fun _ => Ev.ret (by rw [if_pos (by omega)])) (fun _ => Ev.ite (fun _ => Ev.ret (by rw [if_pos (by omega)])) (fun _ => Ev.ret (by rw [if_neg (by omega)]))))))
 simp only [impl_kids.f]
 unfold kids
 refine Ev.ite (fun h => Ev.ret (by rw [if_pos h])) (fun h => ?_)
 rw [if_neg h]
 refine Ev.ite (fun h' => evTo (j0 _) ?_) (fun h' => evTo (j0 _) ?_)
 ·simp [h']
 ·simp [h']

theorem impl_power_l (n : Nat) (hn : n ≤ 30) : ∀ (d i : Nat), i + d = n → Ev (fun k => impl_power.l0 k ((3 : Int) ^ i) n i) ((3 : Int) ^ n) := by
 intro d
 induction d with
 | zero =>
  intro i hi
  apply Ev.succ
  simp only [impl_power.l0.eq_2]
  refine Ev.neg (by omega) (Ev.ret ?_)
  rw [← hi]; rfl
 | succ d ih =>
  intro i hi
  apply Ev.succ
  simp only [impl_power.l0.eq_2]
  have h1 := pow3_30 (i := i + 1) (by omega)
  have h2 := pow3_pos i
  rw [pow3_succ] at h1
  refine Ev.pos (by omega) ?_
  rw [w64 (by omega) (by omega), w64 (by omega) (by omega), Int.mul_comm, ← pow3_succ]
  exact ih (i + 1) (by omega)
theorem impl_power_ev (n : Int) (h0 : 0 ≤ n) (hn : n ≤ 30) : Ev (fun k => impl_power.f k n) ((3 : Int) ^ n.toNat) := by
 obtain ⟨m, rfl⟩ : ∃ m : Nat, n = m := ⟨n.toNat, by omega⟩
 exact impl_power_l m (by omega) m 0 (by omega)

theorem impl_LimitOf_ev (k : Int) : Ev (fun n => impl_LimitOf.f n k) (lim k) := by
 simp only [impl_LimitOf.f]
 unfold lim
 refine Ev.ite (fun h => Ev.ret (by rw [if_neg (by omega)])) (fun h => Ev.ite (fun h1 => Ev.ret (by rw [if_neg (by omega)])) (fun h1 => ?_))
 rw [if_pos (by omega)]
 refine Ev.bind (impl_power_ev k (by omega) (by omega)) (Ev.ret ?_)
 have h2 := pow3_30 (i := k.toNat) (by omega)
 have h3 := pow3_pos k.toNat
 rw [w64 (n := _ - 1) (by omega) (by omega), Int.tdiv_eq_ediv_of_nonneg (by omega), w64 (by omega) (by omega)]

/-- What 'nodes' leaves of a rest. -/
def left (ok : Bool) (b : Int) (n m : Nat) (d : Int) : Int := if ok = true ∧ (n : Int) ≤ b ∧ (m : Int) ≤ d then b - n else -1
theorem impl_nodes_l (l : List S28) (hl : l.length ≤ 1048576) (ih : ∀ y ∈ l, ∀ b d : Int, 0 ≤ b → b ≤ 60 → 0 ≤ d → d ≤ 12 → Ev (fun k => impl_nodes.f k y.f0 y.f1 y.f2 b d) (left (shp28 y) b (1 + sub28 y) (dep28 y) d)) :
  ∀ (d i : Nat) (b e : Int), i + d = l.length → 0 ≤ b → b ≤ 60 → 1 ≤ e → e ≤ 12 → Ev (fun k => impl_nodes.l0 k b e l (l.length : Int) i) (left (shpL28 (l.drop i)) b (subL28 (l.drop i)) (depL28 (l.drop i)) (e - 1)) := by
 intro d
 induction d with
 | zero =>
  intro i b e hi h0 h1 h2 h3
  apply Ev.succ
  simp only [impl_nodes.l0.eq_2]
  refine Ev.neg (by omega) (Ev.ret ?_)
  rw [List.drop_of_length_le (by omega)]
  simp only [left, shpL28, subL28, depL28]
  rw [if_pos ⟨trivial, by omega, by omega⟩]; omega
 | succ d ihd =>
  intro i b e hi h0 h1 h2 h3
  have hlt : i < l.length := by omega
  apply Ev.succ
  simp only [impl_nodes.l0.eq_2]
  refine Ev.pos (by omega) (Ev.pos (by omega) (Ev.pos (by omega) ?_))
  rw [rd28_get l i hlt, w64 (by omega) (by omega), w64 (by omega) (by omega), subL28_drop l i hlt, depL28_drop l i hlt, shpL28_drop l i hlt]
  refine Ev.bind (ih _ (List.getElem_mem hlt) b (e - 1) h0 h1 (by omega) (by omega)) ?_
  by_cases hc : shp28 l[i] = true ∧ ((1 + sub28 l[i] : Nat) : Int) ≤ b ∧ (dep28 l[i] : Int) ≤ e - 1
  ·have e1 : left (shp28 l[i]) b (1 + sub28 l[i]) (dep28 l[i]) (e - 1) = b - ((1 + sub28 l[i] : Nat) : Int) := if_pos hc
   rw [e1]
   refine Ev.neg (by omega) (evTo (ihd (i + 1) _ e (by omega) (by omega) (by omega) h2 h3) ?_)
   unfold left
   rw [hc.1, Bool.true_and]
   by_cases hs : shpL28 (l.drop (i + 1)) = true
   ·rw [hs]; simp only [true_and]
    split
    ·rw [if_pos (by omega)]; omega
    ·rw [if_neg (by omega)]
   ·rw [if_neg (by simp [hs]), if_neg (by simp [hs])]
  ·have e1 : left (shp28 l[i]) b (1 + sub28 l[i]) (dep28 l[i]) (e - 1) = -1 := if_neg hc
   rw [e1]
   refine Ev.pos (by omega) (Ev.ret ?_)
   unfold left
   rw [if_neg]
   intro hh
   apply hc
   rw [Bool.and_eq_true] at hh
   exact ⟨hh.1.1, by omega, by omega⟩
theorem impl_nodes_ev : ∀ (x : S28), sub28 x ≤ 1048576 → ∀ b d : Int, 0 ≤ b → b ≤ 60 → 0 ≤ d → d ≤ 12 → Ev (fun k => impl_nodes.f k x.f0 x.f1 x.f2 b d) (left (shp28 x) b (1 + sub28 x) (dep28 x) d) := by
 intro x
 induction x using S28.ind with
 | h x ih =>
 intro hs b d h0 h1 h2 h3
 have hl := subL28_len x.f2
 rw [sub28_eq] at hs
 have hL : ∀ b e : Int, 0 ≤ b → b ≤ 60 → 1 ≤ e → e ≤ 12 → Ev (fun k => impl_nodes.l0 k b e x.f2 (x.f2.length : Int) 0) (left (shpL28 x.f2) b (subL28 x.f2) (depL28 x.f2) (e - 1)) := by
  intro b e g0 g1 g2 g3
  have := impl_nodes_l x.f2 (by omega) (fun y hy => ih y hy (by have := subL28_mem hy; omega)) x.f2.length 0 b e (by omega) g0 g1 g2 g3
  simpa using this
 have bad : ∀ z : Int, Ev (fun k => impl_nodes.j0 k z d true x.f0 x.f1 x.f2) (-1) := by
  intro z
  apply Ev.succ
  simp only [impl_nodes.j0.eq_2]
  exact Ev.pos trivial (Ev.now _)
 have good : 0 ≤ b - 1 → 1 ≤ d → Ev (fun k => impl_nodes.j0 k (b - 1) d false x.f0 x.f1 x.f2) (left (shpL28 x.f2) (b - 1) (subL28 x.f2) (depL28 x.f2) (d - 1)) := by
  intro g0 g1
  apply Ev.succ
  simp only [impl_nodes.j0.eq_2]
  exact Ev.neg (by simp) (hL _ _ g0 (by omega) g1 h3)
 have no : ∀ z : Int, (¬ (nodeOk x.f0 x.f1 x.f2.length = true ∧ 1 ≤ b ∧ 1 ≤ d)) → Ev (fun k => impl_nodes.j0 k z d true x.f0 x.f1 x.f2) (left (shp28 x) b (1 + sub28 x) (dep28 x) d) := by
  intro z hz
  refine evTo (bad z) ?_
  unfold left
  rw [if_neg]
  rw [shp28_eq, dep28_eq, Bool.and_eq_true]
  intro hh
  exact hz ⟨hh.1.1, by omega, by omega⟩
 have yes : ∀ c : Bool, 0 ≤ b - 1 → 1 ≤ d → (c = false ↔ nodeOk x.f0 x.f1 x.f2.length = true) → Ev (fun k => impl_nodes.j0 k (b - 1) d c x.f0 x.f1 x.f2) (left (shp28 x) b (1 + sub28 x) (dep28 x) d) := by
  intro c g0 g1 hc
  cases c
  ·refine evTo (good g0 g1) ?_
   unfold left
   rw [shp28_eq, hc.1 rfl, Bool.true_and, sub28_eq, dep28_eq]
   by_cases hs : shpL28 x.f2 = true
   ·rw [hs]; simp only [true_and]
    split
    ·rw [if_pos (by omega)]; omega
    ·rw [if_neg (by omega)]
   ·rw [if_neg (by simp [hs]), if_neg (by simp [hs])]
  ·refine no _ (fun hh => ?_)
   have := hc.2 hh.1
   simp at this
 have hk : (x.f2.length : Int) = kids x.f0 ↔ ((1 ≤ x.f0 ∧ x.f0 ≤ 8) ∧ (x.f2.length : Int) = arity x.f0) := by
  unfold kids arity
  split
  ·omega
  ·split
   ·omega
   ·split <;> omega
 apply Ev.succ
 simp only [impl_nodes.f.eq_2]
 rw [w64 (by omega) (by omega)]
 refine Ev.ite (fun c1 => no _ (by omega)) (fun c1 => Ev.ite (fun c2 => no _ (by omega)) (fun c2 => ?_))
 refine Ev.bind (impl_kids_ev _) ?_
 refine Ev.ite (fun c3 => ?_) (fun c3 => no _ ?_)
 ·rw [hk] at c3
  have fin : (x.f0 = 1 ∨ x.f1 = 0) → Ev (fun k => if x.f1 < 0 then impl_nodes.j0 k (b - 1) d true x.f0 x.f1 x.f2 else (impl_LimitOf.f k 30).bind fun t149 => impl_nodes.j0 k (b - 1) d (decide (x.f1 > t149)) x.f0 x.f1 x.f2) (left (shp28 x) b (1 + sub28 x) (dep28 x) d) := by
   intro h5
   refine Ev.ite (fun c5 => no _ ?_) (fun c5 => ?_)
   ·simp only [nodeOk, decide_eq_true_eq]; omega
   ·refine Ev.bind (impl_LimitOf_ev 30) (yes _ (by omega) (by omega) ?_)
    simp only [nodeOk, decide_eq_true_eq, decide_eq_false_iff_not]
    omega
  refine Ev.ite (fun c4 => fin (.inr c4)) (fun c4 => Ev.ite (fun c6 => fin (.inl c6)) (fun c6 => no _ ?_))
  simp only [nodeOk, decide_eq_true_eq]; omega
 ·rw [hk] at c3
  simp only [nodeOk, decide_eq_true_eq]
  intro hh; exact c3 ⟨hh.1.1, hh.1.2.1⟩

theorem impl_IsExpr_ev (x : S28) (hs : sub28 x ≤ 1048576) : Ev (fun k => impl_IsExpr.f k x.f0 x.f1 x.f2) (isE x) := by
 simp only [impl_IsExpr.f]
 refine Ev.bind (impl_nodes_ev x hs 60 12 (by omega) (by omega) (by omega) (by omega)) (Ev.ret ?_)
 unfold left isE
 by_cases hc : shp28 x = true ∧ ((1 + sub28 x : Nat) : Int) ≤ 60 ∧ (dep28 x : Int) ≤ 12
 ·rw [if_pos hc, hc.1, decide_eq_true (by omega), decide_eq_true (by omega)]; rfl
 ·rw [if_neg hc]
  by_cases h : shp28 x = true
  ·rw [decide_eq_false (by omega), decide_eq_false (by intro hh; exact hc ⟨h, by omega, by omega⟩), Bool.false_and]
  ·simp [h]

theorem impl_size_eq (d : Int) (h0 : -1000000000000000000 ≤ d) (h1 : d ≤ 1000000000000000000) : impl_size.f d = some (if d < 0 then -d else d) := by
 unfold impl_size.f mx
 rw [w64 (by omega) (by omega)]
 refine congrArg some ?_
 split <;> split <;> omega

theorem impl_divided_eq (a d : Int) (ha : -1000000000000000000 ≤ a ∧ a ≤ 1000000000000000000) (hd : -1000000000000000000 ≤ d ∧ d ≤ 1000000000000000000) (h0 : d ≠ 0) : impl_divided.f a d = some (Int.tdiv (a - divr a d) d, divr a d) := by
 have hs : impl_size.f d = some (if d < 0 then -d else d) := by
  unfold impl_size.f mx
  rw [w64 (by omega) (by omega)]
  refine congrArg some ?_
  split <;> split <;> omega
 unfold impl_divided.f
 rw [hs]
 simp only [Option.bind_some]
 rw [divr_eq a d _ _ rfl rfl]
 generalize hS : (if d < 0 then -d else d) = s
 have hs1 : 0 < s := by split at hS <;> omega
 have hs2 : s ≤ 1000000000000000000 := by split at hS <;> omega
 have h1 := Int.tmod_lt_of_pos a hs1
 have h2 : -s < Int.tmod a s := by
  have := Int.tmod_lt_of_pos (-a) hs1
  rw [Int.neg_tmod] at this; omega
 generalize hR : Int.tmod a s = r at *
 have key : ∀ b : Int, -2000000000000000000 ≤ b → b ≤ 2000000000000000000 → wrap64 (Int.tdiv b d) = Int.tdiv b d := by
  intro b hb0 hb1
  have := Int.natAbs_tdiv_le_natAbs b d
  exact w64 (by omega) (by omega)
 rw [if_neg (by omega), w64 (n := 2 * r) (by omega) (by omega), w64 (n := -s) (by omega) (by omega)]
 by_cases c1 : 2 * r > s
 ·rw [if_pos c1, if_neg h0]
  rw [if_pos c1, w64 (n := r - s) (by omega) (by omega), w64 (n := a - (r - s)) (by omega) (by omega), key _ (by omega) (by omega)]
 ·rw [if_neg c1]
  by_cases c2 : 2 * r ≤ -s
  ·rw [if_pos c2, if_neg h0]
   rw [if_neg c1, if_pos c2, w64 (n := r + s) (by omega) (by omega), w64 (n := a - (r + s)) (by omega) (by omega), key _ (by omega) (by omega)]
  ·rw [if_neg c2, if_neg h0]
   rw [if_neg c1, if_neg c2, w64 (n := a - r) (by omega) (by omega), key _ (by omega) (by omega)]

theorem impl_WrapCell_ev (n : Int) : Ev (fun k => impl_WrapCell.f k n) (wrapc n) := by
 simp only [impl_WrapCell.f]
 have hp := impl_power_ev 9 (by omega) (by omega)
 refine Ev.bind hp ?_
 refine Ev.neg (by decide) ?_
 refine Ev.bind hp ?_
 have e : (3 : Int) ^ (Int.toNat 9) = 19683 := by decide
 rw [e]
 have h := tmod_19683 n
 generalize hr : Int.tmod n 19683 = r at *
 have h1 : -19683 < r ∧ r < 19683 ∧ (r - n) % 19683 = 0 := by split at h <;> omega
 refine Ev.bindc (impl_divided_eq r 19683 (by omega) (by omega) (by omega)) (Ev.ret ?_)
 have h3 : Int.tmod r 19683 = r := by rw [tmod_19683 r]; split <;> omega
 rw [divr_eq r 19683 19683 r (by decide) h3]
 unfold wrapc
 split
 ·omega
 ·split <;> omega

theorem impl_compiled_fin (a b : Int) (l : List S28) (xs : List S50) (hx : xs.length ≤ 4000000) (ha : a = 1 ∨ a = 2 ∨ a = 3 ∨ a = 4 ∨ a = 5 ∨ a = 6 ∨ a = 7 ∨ a = 8) : Ev (fun k => if a = 1 then ((impl_WrapCell.f k b).bind fun t217 => (if xs.length < 4398046511104 then (some ((xs ++ [(⟨1, t217, 0, 0⟩ : S50)]), true)) else (none))) else (if a = 3 then (if xs.length < 4398046511104 then (some ((xs ++ [(⟨5, 0, 0, 0⟩ : S50)]), true)) else (none)) else (if a = 4 then (impl_compiled.j1 k xs a (a == 4) a b l) else (if a = 5 then (impl_compiled.j1 k xs a (a == 5) a b l) else (impl_compiled.j1 k xs a (a == 6) a b l))))) (codC a b (xs, true)) := by
 have hl : xs.length < 4398046511104 := by omega
 have jt : ∀ t : Bool, t = true → (a = 4 ∨ a = 5 ∨ a = 6) → Ev (fun k => impl_compiled.j1 k xs a t a b l) (codC a b (xs, true)) := by
  intro t ht h4
  apply Ev.succ
  simp only [impl_compiled.j1.eq_2]
  refine Ev.pos ht (Ev.pos hl (Ev.ret ?_))
  have e : wrap64 (wrap64 (2 + a) - 4) = a - 2 := by rw [w64 (n := 2 + a) (by omega) (by omega), w64 (by omega) (by omega)]; omega
  rw [e]
  simp only [codC, if_true]
  rw [if_neg (by omega), if_neg (by omega), if_neg (by omega), if_pos h4]
 have jf : ∀ t : Bool, t = false → (a = 2 ∨ a = 7 ∨ a = 8) → Ev (fun k => impl_compiled.j1 k xs a t a b l) (codC a b (xs, true)) := by
  intro t ht h4
  apply Ev.succ
  simp only [impl_compiled.j1.eq_2]
  refine Ev.neg (by simp [ht]) ?_
  have e : codC a b (xs, true) = if a = 2 then (xs, true) else ([], false) := by
   simp only [codC, if_true]
   repeat' split
   all_goals first | rfl | (exfalso; omega)
  rw [e]
  first
   | (refine Ev.ite (fun h => Ev.ret ?_) (fun h7 => Ev.ite (fun h => Ev.ret ?_) (fun h8 => Ev.ret ?_)) <;> (repeat' split) <;> first | rfl | (exfalso; omega))
   | (refine Ev.ite (fun h => Ev.ret ?_) (fun h7 => Ev.ret ?_) <;> (repeat' split) <;> first | rfl | (exfalso; omega))
 refine Ev.ite (fun h1 => ?_) (fun h1 => Ev.ite (fun h3 => ?_) (fun h3 => Ev.ite (fun h => jt _ (by simp [h]) (by omega)) (fun h4 => Ev.ite (fun h => jt _ (by simp [h]) (by omega)) (fun h5 => ?_))))
 ·refine Ev.bind (impl_WrapCell_ev b) (Ev.pos hl (Ev.ret ?_))
  simp only [codC, if_true]
  rw [if_pos h1]
 ·refine Ev.pos hl (Ev.ret ?_)
  simp only [codC, if_true]
  rw [if_neg (by omega), if_neg (by omega), if_pos h3]
 ·by_cases h6 : a = 6
  ·exact jt _ (by simp [h6]) (by omega)
  ·exact jf _ (by simp; omega) (by omega)
theorem impl_compiled_l (l : List S28) (a b : Int) (hl : l.length ≤ 1048576) (ha : a = 1 ∨ a = 2 ∨ a = 3 ∨ a = 4 ∨ a = 5 ∨ a = 6 ∨ a = 7 ∨ a = 8) (ih : ∀ y ∈ l, Ev (fun k => impl_compiled.f k y.f0 y.f1 y.f2) (cod28 y)) :
  ∀ (d i : Nat) (xs : List S50), i + d = l.length → xs.length + subL28 (l.drop i) ≤ 4000000 → Ev (fun k => impl_compiled.l0 k xs l (l.length : Int) i a b l) (codC a b (after xs (codL28 (l.drop i)))) := by
 intro d
 induction d with
 | zero =>
  intro i xs hi hx
  apply Ev.succ
  simp only [impl_compiled.l0.eq_2]
  rw [List.drop_of_length_le (by omega)]
  refine Ev.neg (by omega) (evTo (impl_compiled_fin a b l xs (by omega) ha) ?_)
  simp [codL28, after]
 | succ d ihd =>
  intro i xs hi hx
  have hlt : i < l.length := by omega
  rw [subL28_drop l i hlt] at hx
  apply Ev.succ
  simp only [impl_compiled.l0.eq_2]
  rw [rd28_get l i hlt, w64 (by omega) (by omega), codL_drop l i hlt]
  have i1 := ih l[i] (List.getElem_mem hlt)
  have hc := cod_len l[i]
  refine Ev.pos (by omega) (Ev.pos (by omega) (Ev.pos (by omega) (Ev.bind i1 ?_)))
  by_cases h : (cod28 l[i]).2 = true
  ·rw [if_pos h]
   refine Ev.pos h (Ev.pos (by omega) ?_)
   rw [show (i : Int) + 1 = ((i + 1 : Nat) : Int) by omega]
   refine evTo (ihd (i + 1) _ (by omega) (by simp only [List.length_append]; omega)) ?_
   congr 1
   unfold after
   by_cases h2 : (codL28 (l.drop (i + 1))).2 = true
   ·rw [if_pos h2, if_pos h2]; simp
   ·rw [if_neg h2, if_neg h2]; simp
  ·rw [if_neg h]
   exact Ev.neg h (Ev.ret (by simp [after, codC]))
theorem impl_compiled_ev (x : S28) : shp28 x = true → sub28 x ≤ 1048576 → Ev (fun k => impl_compiled.f k x.f0 x.f1 x.f2) (cod28 x) := by
 induction x using S28.ind with
 | h x ih =>
  intro h hs
  have hl := subL28_len x.f2
  have hk := kind_of h
  have hL : shpL28 x.f2 = true := by rw [shp28_eq, Bool.and_eq_true] at h; exact h.2
  rw [sub28_eq] at hs
  apply Ev.succ
  simp only [impl_compiled.f.eq_2]
  have := impl_compiled_l x.f2 x.f0 x.f1 (by omega) hk (fun y hy => ih y hy (shpL28_mem hL hy) (by have := subL28_mem hy; omega)) x.f2.length 0 [] (by omega) (by simp; omega)
  refine evTo (by simpa using this) ?_
  rw [cod28_eq, ← after_codC]
  unfold after
  have hn : ∀ t : List S50 × Bool, t.2 ≠ true → (codC x.f0 x.f1 t) = ([], false) := fun t ht => by unfold codC; rw [if_neg ht]
  by_cases q : (codC x.f0 x.f1 (codL28 x.f2)).2 = true
  ·rw [if_pos q, List.nil_append]
   exact Prod.ext rfl q.symm
  ·rw [if_neg q]
   unfold codC at q ⊢
   repeat' split at q
   all_goals simp_all

theorem impl_fits_ev (n k : Int) : Ev (fun m => impl_fits.f m n k) (fitsB n k) := by
 simp only [impl_fits.f]
 have h1 := lim_nonneg k
 have h2 := lim_le k
 refine Ev.bind (impl_LimitOf_ev k) ?_
 rw [w64 (by omega) (by omega)]
 refine Ev.ite (fun h => Ev.bind (impl_LimitOf_ev k) (Ev.ret ?_)) (fun h => Ev.ret ?_)
 ·unfold fitsB; exact decide_eq_decide.2 (by omega)
 ·unfold fitsB; rw [decide_eq_false]; omega

theorem anyO_ev {α : Type} {g : Nat → α → Option Bool} {p : α → Bool} : ∀ (l : List α), (∀ x ∈ l, Ev (fun k => g k x) (p x)) → Ev (fun k => Go.Proofs.Ythlagaopjmeaaaa.Any.anyO (g k) l) (l.any p)
 | [], _ => Ev.now _
 | x :: xs, h => by
  simp only [Go.Proofs.Ythlagaopjmeaaaa.Any.anyO]
  exact Ev.bind (h x List.mem_cons_self) (Ev.bind (anyO_ev xs (fun y hy => h y (List.mem_cons_of_mem _ hy))) (Ev.ret (by rw [List.any_cons])))
theorem not_any_not {α : Type} (p : α → Bool) (l : List α) : (!l.any fun x => !p x) = l.all p := by
 induction l with
 | nil => rfl
 | cons x xs ih => rw [List.any_cons, List.all_cons, ← ih]; simp

theorem fits9 (a : Int) : fitsB a 9 = decide (-9841 ≤ a ∧ a ≤ 9841) := by
 unfold fitsB
 rw [show lim 9 = 9841 by rfl]
theorem impl_isOp_ev (x : S50) (n : Int) : Ev (fun k => impl_isOp.f k x.f0 x.f1 x.f2 x.f3 n) (opB n x) := by
 simp only [impl_isOp.f]
 refine Ev.bind (impl_fits_ev x.f1 9) (Ev.ret ?_)
 rw [fits9, Bool.eq_iff_iff]
 unfold isOpB opB
 split
 ·simp; omega
 ·split
  ·simp; omega
  ·split
   ·simp; omega
   ·split
    ·simp; omega
    ·simp; omega

theorem impl_IsCode_ev (l : List S50) : Ev (fun k => impl_IsCode.f k l) (codeB l) := by
 simp only [impl_IsCode.f]
 unfold codeB
 refine Ev.ite (fun h => Ev.ite (fun h' => ?_) (fun h' => Ev.ret ?_)) (fun h => Ev.ret ?_)
 ·rw [decide_eq_true (by omega), Bool.true_and]
  refine Ev.bind (anyO_ev (p := fun x => !opB l.length x) l (fun x _ => Ev.bind (impl_isOp_ev x l.length) (Ev.now _))) (Ev.ret ?_)
  exact not_any_not _ _
 ·rw [decide_eq_false (by omega), Bool.false_and]
 ·rw [decide_eq_false (by omega), Bool.false_and]

theorem impl_CompileExpr_ev (x : S28) (hs : sub28 x ≤ 1048576) : Ev (fun k => impl_CompileExpr.f k x.f0 x.f1 x.f2) (comT x) := by
 simp only [impl_CompileExpr.f]
 unfold comT
 refine Ev.bind (impl_IsExpr_ev x hs) ?_
 by_cases h : isE x = true
 ·rw [if_pos h]
  refine Ev.pos h ?_
  obtain ⟨h1, h2⟩ := isE_shp h
  refine Ev.bind (impl_compiled_ev x h1 hs) ?_
  by_cases g : (cod28 x).2 = true
  ·rw [if_pos g]
   refine Ev.pos g (Ev.bind (impl_IsCode_ev _) ?_)
   by_cases q : codeB (cod28 x).1 = true
   ·rw [if_pos q, if_pos q]; exact Ev.now _
   ·rw [if_neg q, if_neg q]; exact Ev.now _
  ·rw [if_neg g]
   exact Ev.neg g (Ev.now _)
 ·rw [if_neg h]
  exact Ev.neg h (Ev.now _)

theorem laws_eqOp_refl (a b c d : Int) : laws_eqOp.f a b c d a b c d = some true := by simp [laws_eqOp.f]
theorem laws_eqOpS_l (l : List S50) (hl : l.length ≤ 1048576) : ∀ (d i : Nat), i + d = l.length → Ev (fun k => laws_eqOpS.l0 k l l i) true := by
 intro d
 induction d with
 | zero =>
  intro i hi
  apply Ev.succ
  simp only [laws_eqOpS.l0.eq_2]
  exact Ev.neg (by omega) (Ev.now _)
 | succ d ihd =>
  intro i hi
  apply Ev.succ
  simp only [laws_eqOpS.l0.eq_2, laws_eqOp_refl, Option.bind_some]
  refine Ev.pos (by omega) (Ev.pos (by omega) (Ev.pos (by omega) (Ev.pos trivial ?_)))
  rw [w64 (by omega) (by omega)]
  exact ihd (i + 1) (by omega)
theorem laws_eqOpS_ev (l : List S50) (hl : l.length ≤ 1048576) : Ev (fun k => laws_eqOpS.f k l l) true := by
 simp only [laws_eqOpS.f]
 exact Ev.pos trivial (laws_eqOpS_l l hl l.length 0 (by omega))

theorem laws_markOpS_l (n : Nat) (hn : n ≤ 1048576) (a : Int) (ha0 : 0 ≤ a) (ha : a ≤ 1000000000) : ∀ (d i : Nat) (x0 : List S50), i + d = n → x0.length = n → ∃ c, Ev (fun k => laws_markOpS.l0 k x0 (a + 4 * i) i) (a + 4 * n, c) := by
 intro d
 induction d with
 | zero =>
  intro i x0 hi hl
  refine ⟨x0, ?_⟩
  apply Ev.succ
  simp only [laws_markOpS.l0.eq_2]
  obtain rfl : i = n := by omega
  exact Ev.neg (by omega) (Ev.now _)
 | succ d ih =>
  intro i x0 hi hl
  have e1 : wrap64 (a + 4 * i + 1) = a + 4 * i + 1 := w64 (by omega) (by omega)
  have e2 : wrap64 (a + 4 * i + 1 + 1) = a + 4 * i + 1 + 1 := w64 (by omega) (by omega)
  have e3 : wrap64 (a + 4 * i + 1 + 1 + 1) = a + 4 * i + 1 + 1 + 1 := w64 (by omega) (by omega)
  have e4 : wrap64 (a + 4 * i + 1 + 1 + 1 + 1) = a + 4 * ((i + 1 : Nat) : Int) := by rw [w64 (by omega) (by omega)]; omega
  have e5 : wrap64 ((i : Int) + 1) = ((i + 1 : Nat) : Int) := by rw [w64 (by omega) (by omega)]; omega
  have ihc : ∃ g : List S50 → List S50, ∀ x : List S50, x.length = n → Ev (fun k => laws_markOpS.l0 k x (a + 4 * ((i + 1 : Nat) : Int)) ((i + 1 : Nat) : Int)) (a + 4 * n, g x) := by
   classical
   refine ⟨fun x => if h : x.length = n then Classical.choose (ih (i + 1) x (by omega) h) else [], fun x hx => ?_⟩
   dsimp only; rw [dif_pos hx]
   exact Classical.choose_spec (ih (i + 1) x (by omega) hx)
  obtain ⟨g, hg⟩ := ihc
  apply Exists.intro
  ·apply Ev.succ
   simp only [laws_markOpS.l0.eq_2, Option.bind_some, e1, e2, e3, e4, e5]
   refine Ev.pos (by omega) (Ev.pos (by omega) (hg _ (by simp [hl])))
theorem laws_markOpS_ev (l : List S50) (hl : l.length ≤ 1048576) (a : Int) (ha0 : 0 ≤ a) (ha : a ≤ 1000000000) : ∃ c, Ev (fun k => laws_markOpS.f k l a) (a + 4 * l.length, c) := by
 obtain ⟨c, h⟩ := laws_markOpS_l l.length hl a ha0 ha l.length 0 l (by omega) rfl
 exact ⟨c, by simp only [laws_markOpS.f]; simpa using h⟩

/-- The operations that the marking leaves. -/
def mkO (n : Nat) (a : Int) : List S50 := (List.range n).map fun (i : Nat) => ⟨a + 4 * (i : Int), a + 4 * (i : Int) + 1, a + 4 * (i : Int) + 2, a + 4 * (i : Int) + 3⟩
theorem mkO_length (n : Nat) (a : Int) : (mkO n a).length = n := by simp [mkO]
theorem mkO_get (n : Nat) (a : Int) (i : Nat) (h : i < (mkO n a).length) : (mkO n a)[i] = ⟨a + 4 * (i : Int), a + 4 * (i : Int) + 1, a + 4 * (i : Int) + 2, a + 4 * (i : Int) + 3⟩ := by simp [mkO]
theorem rdO_set (xs : List S50) (i : Nat) (v : S50) (h : i < xs.length) : rd_T50 (xs.set i v) (i : Int) = v := by
 rw [rdO_get _ i (by simp [h])]; simp
theorem laws_markOpS_m (n : Nat) (hn : n ≤ 1048576) (a : Int) (ha0 : 0 ≤ a) (ha : a ≤ 1000000000) : ∀ (d i : Nat) (x0 : List S50), i + d = n → x0.length = n → Ev (fun k => laws_markOpS.l0 k x0 (a + 4 * i) i) (a + 4 * n, x0.take i ++ (mkO n a).drop i) := by
 intro d
 induction d with
 | zero =>
  intro i x0 hi hl
  apply Ev.succ
  simp only [laws_markOpS.l0.eq_2]
  obtain rfl : i = n := by omega
  refine Ev.neg (by omega) (Ev.ret ?_)
  rw [List.drop_eq_nil_of_le (by rw [mkO_length]; omega), List.take_of_length_le (by omega)]
  simp
 | succ d ih =>
  intro i x0 hi hl
  have e1 : wrap64 (a + 4 * i + 1) = a + 4 * i + 1 := w64 (by omega) (by omega)
  have e2 : wrap64 (a + 4 * i + 1 + 1) = a + 4 * i + 2 := by rw [w64 (by omega) (by omega)]; omega
  have e3 : wrap64 (a + 4 * i + 2 + 1) = a + 4 * i + 3 := by rw [w64 (by omega) (by omega)]; omega
  have e4 : wrap64 (a + 4 * i + 3 + 1) = a + 4 * ((i + 1 : Nat) : Int) := by rw [w64 (by omega) (by omega)]; omega
  have e5 : wrap64 ((i : Int) + 1) = ((i + 1 : Nat) : Int) := by rw [w64 (by omega) (by omega)]; omega
  have hi' : i < x0.length := by omega
  apply Ev.succ
  simp only [laws_markOpS.l0.eq_2, Option.bind_some, e1, e2, e3, e4, e5, Int.toNat_natCast, rdO_set _ _ _ hi', List.set_set]
  refine Ev.pos (by omega) (Ev.pos (by omega) ?_)
  refine evTo (ih (i + 1) _ (by omega) (by simp [hl])) ?_
  refine congrArg (Prod.mk _) ?_
  rw [take_snoc _ i (by simp; omega), drop_cons (mkO n a) i (by rw [mkO_length]; omega), mkO_get]
  simp [List.take_set_of_le]
theorem laws_markOpS_ev2 (l : List S50) (hl : l.length ≤ 1048576) (a : Int) (ha0 : 0 ≤ a) (ha : a ≤ 1000000000) : Ev (fun k => laws_markOpS.f k l a) (a + 4 * l.length, mkO l.length a) := by
 have h := laws_markOpS_m l.length hl a ha0 ha l.length 0 l (by omega) rfl
 simp only [laws_markOpS.f]
 simpa using h
theorem laws_heldOpS_l (n : Nat) (hn : n ≤ 1048576) (a : Int) (ha0 : 0 ≤ a) (ha : a ≤ 1000000000) : ∀ (d i : Nat), i + d = n → Ev (fun k => laws_heldOpS.l0 k (mkO n a) (a + 4 * i) i) (a + 4 * n) := by
 intro d
 induction d with
 | zero =>
  intro i hi
  apply Ev.succ
  simp only [laws_heldOpS.l0.eq_2, mkO_length]
  refine Ev.neg (by omega) (Ev.ret (by omega))
 | succ d ih =>
  intro i hi
  have e1 : wrap64 (a + 4 * i + 1) = a + 4 * i + 1 := w64 (by omega) (by omega)
  have e2 : wrap64 (a + 4 * i + 1 + 1) = a + 4 * i + 2 := by rw [w64 (by omega) (by omega)]; omega
  have e3 : wrap64 (a + 4 * i + 2 + 1) = a + 4 * i + 3 := by rw [w64 (by omega) (by omega)]; omega
  have e4 : wrap64 (a + 4 * i + 3 + 1) = a + 4 * ((i + 1 : Nat) : Int) := by rw [w64 (by omega) (by omega)]; omega
  have e5 : wrap64 ((i : Int) + 1) = ((i + 1 : Nat) : Int) := by rw [w64 (by omega) (by omega)]; omega
  apply Ev.succ
  simp only [laws_heldOpS.l0.eq_2, mkO_length, e1, e2, e3, e4, e5]
  rw [rdO_get _ i (by rw [mkO_length]; omega), mkO_get]
  exact Ev.pos (by omega) (Ev.pos (by omega) (Ev.pos rfl (Ev.pos rfl (Ev.pos rfl (Ev.pos rfl (ih (i + 1) (by omega)))))))
theorem laws_heldOpS_ev (n : Nat) (hn : n ≤ 1048576) (a : Int) (ha0 : 0 ≤ a) (ha : a ≤ 1000000000) : Ev (fun k => laws_heldOpS.f k (mkO n a) a) (a + 4 * n) := by
 have h := laws_heldOpS_l n hn a ha0 ha n 0 (by omega)
 simp only [laws_heldOpS.f]
 simpa using h

end Go.Proofs.Ythlagaopjmeaaaa.LemFnExactCompileExpr
