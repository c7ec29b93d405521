/- Lemmas: what each function that this statement reaches computes. -/
import Derived.Test.YthlagaopjmeaaaaHOpFnExactNegateExpr
import Derived.Test.YthlagaopjmeaaaaBase
set_option linter.unusedVariables false
set_option linter.unusedSimpArgs false
namespace Go.Proofs.Ythlagaopjmeaaaa.LemFnExactNegateExpr
open Go.RowKit Go.Proofs.YthlagaopjmeaaaaW.PrintWords Go.Proofs.YthlagaopjmeaaaaW.PrintLast Go.Proofs.YthlagaopjmeaaaaW.PrintMore Go.Proofs.Ythlagaopjmeaaaa.HFnExactNegateExpr Go.Proofs.Ythlagaopjmeaaaa.Base

/-- What 'size' tells of a rest b for n parts. -/
def rest (b : Int) (n : Nat) : Int := if (n : Int) ≤ b then b - n else -1

theorem S24.ind {P : S24 → Prop} (h : ∀ x : S24, (∀ y ∈ x.f2, P y) → P x) (x : S24) : P x :=
 S24.rec (motive_1 := P) (motive_2 := fun l => ∀ y ∈ l, P y) (fun a b l hl => h ⟨a, b, l⟩ hl) (by simp) (fun y ys h1 h2 => by simp; exact ⟨h1, h2⟩) x
mutual
/-- How many parts an expression has below itself. -/
def sub24 : S24 → Nat
 | ⟨_, _, l⟩ => subL24 l
def subL24 : List S24 → Nat
 | [] => 0
 | x :: xs => 1 + sub24 x + subL24 xs
end
theorem sub24_eq (x : S24) : sub24 x = subL24 x.f2 := by cases x; rfl
theorem subL24_len (l : List S24) : l.length ≤ subL24 l := by
 induction l with
 | nil => simp
 | cons x xs ih => simp only [List.length_cons, subL24]; omega
theorem subL24_mem {l : List S24} {y : S24} (h : y ∈ l) : 1 + sub24 y ≤ subL24 l := by
 induction l with
 | nil => simp at h
 | cons x xs ih =>
  simp only [subL24]
  rcases List.mem_cons.1 h with rfl | h
  ·omega
  ·have := ih h; omega
theorem rd24_get (xs : List S24) (i : Nat) (h : i < xs.length) : rd_T24 xs (i : Int) = xs[i] := by
 simp [rd_T24, List.getD_eq_getElem?_getD, List.getElem?_eq_getElem h]
theorem subL24_drop (xs : List S24) (i : Nat) (h : i < xs.length) : subL24 (xs.drop i) = 1 + sub24 xs[i] + subL24 (xs.drop (i + 1)) := by
 rw [drop_cons xs i h, subL24]
theorem laws_szExprS_l (l : List S24) (hl : l.length ≤ maxLen) (ih : ∀ y ∈ l, Wf24 y → ∀ b : Int, 0 ≤ b → b ≤ 1048576 → Ev (fun k => laws_szExpr.f k y.f0 y.f1 y.f2 b) (rest b (sub24 y))) (hw : ∀ y ∈ l, Wf24 y) :
  ∀ (d i : Nat) (b : Int), i + d = l.length → 0 ≤ b → b ≤ 1048576 → Ev (fun k => laws_szExprS.l0 k l b i) (rest b (subL24 (l.drop i) - (l.length - i))) := by
 intro d
 unfold maxLen at hl
 induction d with
 | zero =>
  intro i b hi h0 h1
  apply Ev.succ
  simp only [laws_szExprS.l0.eq_2]
  refine Ev.neg (by omega) (Ev.ret ?_)
  rw [List.drop_of_length_le (by omega)]
  simp [rest, subL24, h0]
 | succ d ihd =>
  intro i b hi h0 h1
  have hlt : i < l.length := by omega
  apply Ev.succ
  simp only [laws_szExprS.l0.eq_2]
  refine Ev.pos (by omega) (Ev.pos (by omega) ?_)
  rw [rd24_get l i hlt, w64 (by omega) (by omega)]
  refine Ev.bind (ih _ (List.getElem_mem hlt) (hw _ (List.getElem_mem hlt)) b h0 h1) ?_
  rw [subL24_drop l i hlt]
  have hle := subL24_len (l.drop (i + 1))
  rw [List.length_drop] at hle
  by_cases hb : (sub24 l[i] : Int) ≤ b
  ·have e : rest b (sub24 l[i]) = b - sub24 l[i] := if_pos hb
   rw [e]
   refine Ev.neg (by omega) ?_
   refine evTo (ihd (i + 1) _ (by omega) (by omega) (by omega)) ?_
   unfold rest
   by_cases hc : ((subL24 (l.drop (i + 1)) - (l.length - (i + 1)) : Nat) : Int) ≤ b - sub24 l[i]
   ·rw [if_pos hc, if_pos (by omega)]; omega
   ·rw [if_neg hc, if_neg (by omega)]
  ·have e : rest b (sub24 l[i]) = -1 := if_neg hb
   rw [e]
   refine Ev.pos (by omega) (Ev.ret ?_)
   unfold rest
   rw [if_neg (by omega)]
theorem laws_szExprS_ev (l : List S24) (hl : l.length ≤ maxLen) (ih : ∀ y ∈ l, Wf24 y → ∀ b : Int, 0 ≤ b → b ≤ 1048576 → Ev (fun k => laws_szExpr.f k y.f0 y.f1 y.f2 b) (rest b (sub24 y))) (hw : ∀ y ∈ l, Wf24 y) (b : Int) (h0 : 0 ≤ b) (h1 : b ≤ 1048576) :
  Ev (fun k => laws_szExprS.f k l b) (rest b (subL24 l)) := by
 apply Ev.succ
 simp only [laws_szExprS.f.eq_2]
 have hm := hl
 unfold maxLen at hm
 have hle := subL24_len l
 rw [w64 (by omega) (by omega)]
 refine Ev.ite (fun h => Ev.ret ?_) (fun h => ?_)
 ·unfold rest; rw [if_neg (by omega)]
 ·refine evTo (laws_szExprS_l l hl ih hw l.length 0 _ (by omega) (by omega) (by omega)) ?_
  simp only [List.drop_zero]
  unfold rest
  by_cases hc : (subL24 l : Int) ≤ b
  ·rw [if_pos hc, if_pos (by omega)]; omega
  ·rw [if_neg hc, if_neg (by omega)]
theorem wf24_parts {x : S24} (h : Wf24 x) : (Lit.int .i64 x.f0).wf = true ∧ (Lit.int .i64 x.f1).wf = true ∧ x.f2.length ≤ maxLen ∧ ∀ y ∈ x.f2, Wf24 y := by
 cases h with
 | mk _ h0 h1 h2 h3 => exact ⟨h0, h1, h2, h3⟩
theorem laws_szExpr_ev : ∀ (x : S24), Wf24 x → ∀ b : Int, 0 ≤ b → b ≤ 1048576 → Ev (fun k => laws_szExpr.f k x.f0 x.f1 x.f2 b) (rest b (sub24 x)) := by
 intro x
 induction x using S24.ind with
 | h x ih =>
 intro hw b h0 h1
 obtain ⟨_, _, hl, hk⟩ := wf24_parts hw
 apply Ev.succ
 simp only [laws_szExpr.f.eq_2]
 refine Ev.bind (laws_szExprS_ev x.f2 hl ih hk b h0 h1) ?_
 rw [sub24_eq]
 refine Ev.ite (fun h => Ev.ret ?_) (fun h => Ev.ret rfl)
 unfold rest at h ⊢
 split at h
 ·omega
 ·rw [if_neg (by assumption)]

theorem S28.ind {P : S28 → Prop} (h : ∀ x : S28, (∀ y ∈ x.f2, P y) → P x) (x : S28) : P x :=
 S28.rec (motive_1 := P) (motive_2 := fun l => ∀ y ∈ l, P y) (fun a b l hl => h ⟨a, b, l⟩ hl) (by simp) (fun y ys h1 h2 => by simp; exact ⟨h1, h2⟩) x
theorem rd28_get (xs : List S28) (i : Nat) (h : i < xs.length) : rd_T28 xs (i : Int) = xs[i] := by
 simp [rd_T28, List.getD_eq_getElem?_getD, List.getElem?_eq_getElem h]
mutual
def sub28 : S28 → Nat
 | ⟨_, _, l⟩ => subL28 l
def subL28 : List S28 → Nat
 | [] => 0
 | x :: xs => 1 + sub28 x + subL28 xs
end
theorem sub28_eq (x : S28) : sub28 x = subL28 x.f2 := by cases x; rfl
theorem subL28_len (l : List S28) : l.length ≤ subL28 l := by
 induction l with
 | nil => simp
 | cons x xs ih => simp only [List.length_cons, subL28]; omega
theorem subL28_mem {l : List S28} {y : S28} (h : y ∈ l) : 1 + sub28 y ≤ subL28 l := by
 induction l with
 | nil => simp at h
 | cons x xs ih =>
  simp only [subL28]
  rcases List.mem_cons.1 h with rfl | h
  ·omega
  ·have := ih h; omega
theorem subL28_drop (xs : List S28) (i : Nat) (h : i < xs.length) : subL28 (xs.drop i) = 1 + sub28 xs[i] + subL28 (xs.drop (i + 1)) := by
 rw [drop_cons xs i h, subL28]
theorem eta28 (x : S28) : (⟨x.f0, x.f1, x.f2⟩ : S28) = x := by cases x; rfl

mutual
/-- How deep an expression is. -/
def dep28 : S28 → Nat
 | ⟨_, _, l⟩ => depL28 l + 1
def depL28 : List S28 → Nat
 | [] => 0
 | x :: xs => max (dep28 x) (depL28 xs)
end
theorem dep28_eq (x : S28) : dep28 x = depL28 x.f2 + 1 := by cases x; rfl
theorem dep28_le (x : S28) : dep28 x ≤ 1 + sub28 x := by
 induction x using S28.ind with
 | h x ih =>
 rw [dep28_eq, sub28_eq]
 generalize x.f2 = l at ih
 suffices h : depL28 l ≤ subL28 l by omega
 induction l with
 | nil => simp [depL28]
 | cons y ys ihy =>
  have h1 := ih y List.mem_cons_self
  have h2 := ihy (fun z hz => ih z (List.mem_cons_of_mem _ hz))
  simp only [depL28, subL28]
  omega
theorem depL28_drop (xs : List S28) (i : Nat) (h : i < xs.length) : depL28 (xs.drop i) = max (dep28 xs[i]) (depL28 (xs.drop (i + 1))) := by
 rw [drop_cons xs i h, depL28]
theorem spec_l10Size_l (l : List S28) (hl : l.length ≤ 1048576) (ih : ∀ y ∈ l, Ev (fun k => spec_l10Size.f k y.f0 y.f1 y.f2) (((1 + sub28 y : Nat) : Int), ((dep28 y : Nat) : Int))) :
  ∀ (d i n m : Nat), i + d = l.length → n + subL28 (l.drop i) ≤ 2097152 → m ≤ 2097152 → (∀ y ∈ l, dep28 y ≤ 2097152) → Ev (fun k => spec_l10Size.l0 k n m l (l.length : Int) i) (((n + subL28 (l.drop i) : Nat) : Int), ((max m (depL28 (l.drop i)) + 1 : Nat) : Int)) := by
 intro d
 induction d with
 | zero =>
  intro i n m hi hn hm hd
  apply Ev.succ
  simp only [spec_l10Size.l0.eq_2]
  refine Ev.neg (by omega) (Ev.ret ?_)
  rw [List.drop_of_length_le (by omega), w64 (by omega) (by omega)]
  simp [subL28, depL28]
 | succ d ihd =>
  intro i n m hi hn hm hd
  have hlt : i < l.length := by omega
  apply Ev.succ
  simp only [spec_l10Size.l0.eq_2]
  refine Ev.pos (by omega) (Ev.pos (by omega) (Ev.pos (by omega) ?_))
  rw [rd28_get l i hlt]
  refine Ev.bind (ih _ (List.getElem_mem hlt)) ?_
  rw [subL28_drop l i hlt] at hn ⊢
  rw [depL28_drop l i hlt]
  have h1 := hd _ (List.getElem_mem hlt)
  rw [w64 (n := (i : Int) + 1) (by omega) (by omega), w64 (by omega) (by omega)]
  have e1 : (n : Int) + ((1 + sub28 l[i] : Nat) : Int) = ((n + (1 + sub28 l[i]) : Nat) : Int) := by omega
  have e2 : mx (m : Int) (dep28 l[i]) = ((max m (dep28 l[i]) : Nat) : Int) := by simp only [mx]; split <;> omega
  simp only [e1, e2]
  refine evTo (ihd (i + 1) _ _ (by omega) (by omega) (by omega) hd) ?_
  rw [Nat.max_assoc, Nat.add_assoc]
theorem spec_l10Size_ev : ∀ (x : S28), sub28 x ≤ 1048576 → Ev (fun k => spec_l10Size.f k x.f0 x.f1 x.f2) (((1 + sub28 x : Nat) : Int), ((dep28 x : Nat) : Int)) := by
 intro x
 induction x using S28.ind with
 | h x ih =>
 intro hs
 have hl := subL28_len x.f2
 rw [sub28_eq] at hs ⊢
 rw [dep28_eq]
 apply Ev.succ
 simp only [spec_l10Size.f.eq_2]
 have := spec_l10Size_l x.f2 (by omega) (fun y hy => ih y hy (by have := subL28_mem hy; omega)) x.f2.length 0 1 0 (by omega) (by simp only [List.drop_zero]; omega) (by omega) (fun y hy => by have := subL28_mem hy; have := dep28_le y; omega)
 simpa using this

theorem spec_l1In_eq (a b c : Int) : spec_l1In.f a b c = some (decide (b ≤ a ∧ a ≤ c)) := by
 unfold spec_l1In.f
 by_cases h : b ≤ a
 ·rw [if_pos (by omega)]; simp [h]
 ·rw [if_neg (by omega)]; simp [h]

theorem spec_LimitOf_l (n : Nat) (hn : n ≤ 30) : ∀ (d i : Nat), i + d = n → Ev (fun k => spec_LimitOf.l0 k n (((3 : Int) ^ i - 1) / 2) i) (((3 : Int) ^ n - 1) / 2) := by
 intro d
 induction d with
 | zero =>
  intro i hi
  apply Ev.succ
  simp only [spec_LimitOf.l0.eq_2]
  refine Ev.neg (by omega) (Ev.ret ?_)
  rw [← hi]; rfl
 | succ d ih =>
  intro i hi
  apply Ev.succ
  simp only [spec_LimitOf.l0.eq_2]
  have h1 := pow3_30 (i := i + 1) (by omega)
  have h2 := pow3_pos i
  have h3 := pow3_lim i
  have h4 := pow3_lim (i + 1)
  rw [pow3_succ] at h1 h4
  refine Ev.pos (by omega) ?_
  rw [w64 (n := _ * _) (by omega) (by omega), w64 (by omega) (by omega), w64 (by omega) (by omega)]
  refine (ih (i + 1) (by omega)).congr (fun k => ?_)
  refine congrArg (fun z => spec_LimitOf.l0 k n z _) ?_
  rw [pow3_succ]; omega
theorem spec_LimitOf_ev (n : Int) : Ev (fun k => spec_LimitOf.f k n) (lim n) := by
 simp only [spec_LimitOf.f, spec_l1In_eq, Option.bind_some, decide_eq_true_eq]
 unfold lim
 refine Ev.ite (fun h => ?_) (fun h => Ev.ret (by rw [if_neg h]))
 obtain ⟨m, rfl⟩ : ∃ m : Nat, n = m := ⟨n.toNat, by omega⟩
 rw [if_pos h]
 exact spec_LimitOf_l m (by omega) m 0 (by omega)

/-- How many parts an operation takes. -/
def arity (a : Int) : Int := if a = 1 then 0 else if a = 2 ∨ a = 3 then 1 else 2
def nodeOk (a b : Int) (n : Nat) : Bool := decide ((1 ≤ a ∧ a ≤ 8) ∧ (n : Int) = arity a ∧ (a = 1 ∨ b = 0) ∧ 0 ≤ b ∧ b ≤ lim 30)
mutual
/-- An expression's shape is right. -/
def shp28 : S28 → Bool
 | ⟨a, b, l⟩ => nodeOk a b l.length && shpL28 l
def shpL28 : List S28 → Bool
 | [] => true
 | x :: xs => shp28 x && shpL28 xs
end
theorem shp28_eq (x : S28) : shp28 x = (nodeOk x.f0 x.f1 x.f2.length && shpL28 x.f2) := by cases x; rfl
theorem shpL28_drop (xs : List S28) (i : Nat) (h : i < xs.length) : shpL28 (xs.drop i) = (shp28 xs[i] && shpL28 (xs.drop (i + 1))) := by
 rw [drop_cons xs i h, shpL28]
theorem spec_l10Shape_l (l : List S28) (hl : l.length ≤ 1048576) (ih : ∀ y ∈ l, Ev (fun k => spec_l10Shape.f k y.f0 y.f1 y.f2) (shp28 y)) :
  ∀ (d i : Nat), i + d = l.length → Ev (fun k => spec_l10Shape.l0 k l (l.length : Int) i) (shpL28 (l.drop i)) := by
 intro d
 induction d with
 | zero =>
  intro i hi
  apply Ev.succ
  simp only [spec_l10Shape.l0.eq_2]
  refine Ev.neg (by omega) (Ev.ret ?_)
  rw [List.drop_of_length_le (by omega)]; rfl
 | succ d ihd =>
  intro i hi
  have hlt : i < l.length := by omega
  apply Ev.succ
  simp only [spec_l10Shape.l0.eq_2]
  refine Ev.pos (by omega) (Ev.pos (by omega) (Ev.pos (by omega) ?_))
  rw [rd28_get l i hlt, w64 (by omega) (by omega), shpL28_drop l i hlt]
  refine Ev.bind (ih _ (List.getElem_mem hlt)) ?_
  refine Ev.ite (fun h => ?_) (fun h => Ev.ret ?_)
  ·rw [h, Bool.true_and]; exact ihd (i + 1) (by omega)
  ·simp at h; simp [h]
theorem spec_l10Shape_ev : ∀ (x : S28), sub28 x ≤ 1048576 → Ev (fun k => spec_l10Shape.f k x.f0 x.f1 x.f2) (shp28 x) := by
 intro x
 induction x using S28.ind with
 | h x ih =>
 intro hs
 have hl := subL28_len x.f2
 rw [sub28_eq] at hs
 have hL : Ev (fun k => spec_l10Shape.l0 k x.f2 (x.f2.length : Int) 0) (shpL28 x.f2) := by
  have := spec_l10Shape_l x.f2 (by omega) (fun y hy => ih y hy (by have := subL28_mem hy; omega)) x.f2.length 0 (by omega)
  simpa using this
 have hlim : lim 30 = 102945566047324 := by rfl
 have j1 : ∀ b : Bool, Ev (fun k => spec_l10Shape.j1 k b x.f0 x.f1 x.f2) (!b && shpL28 x.f2) := by
  intro b
  apply Ev.succ
  simp only [spec_l10Shape.j1.eq_2]
  cases b
  ·refine Ev.neg (by simp) ?_; simpa using hL
  ·exact Ev.pos rfl (Ev.ret (by simp))
 have j0 : Ev (fun k => spec_l10Shape.j0 k (arity x.f0) x.f0 x.f1 x.f2) (shp28 x) := by
  apply Ev.succ
  simp only [spec_l10Shape.j0.eq_2]
  simp only [spec_l1In_eq, Option.bind_some, decide_eq_true_eq]
  rw [shp28_eq]
  refine Ev.ite (fun h1 => ?_) (fun h1 => ?_)
  ·refine Ev.ite (fun h2 => ?_) (fun h2 => ?_)
   ·refine Ev.ite (fun h3 => ?_) (fun h3 => ?_)
    ·have h5 : x.f0 ≠ 1 := by intro h; rw [h] at h3; simp [arity] at h3
     refine Ev.ite (fun h4 => ?_) (fun h4 => ?_)
     ·refine Ev.bind (spec_LimitOf_ev 30) (evTo (j1 _) ?_)
      simp [nodeOk, h1, h2, h4]
     ·refine evTo (j1 _) ?_
      simp [nodeOk, h5, h4]
    ·have h5 : x.f0 = 1 := by
      unfold arity at h3
      split at h3
      ·assumption
      ·split at h3 <;> omega
     refine Ev.bind (spec_LimitOf_ev 30) (evTo (j1 _) ?_)
     rw [h5] at h2
     simp [nodeOk, h5, h2]
   ·refine evTo (j1 _) ?_
    simp [nodeOk, h2]
  ·refine evTo (j1 _) ?_
   simp [nodeOk, h1]
 apply Ev.succ
 simp only [spec_l10Shape.f.eq_2]
 refine Ev.ite (fun h => ?_) (fun h => Ev.ite (fun h' => ?_) (fun h' => Ev.ite (fun h'' => ?_) (fun h'' => ?_)))
 ·rw [show arity x.f0 = 0 by simp [arity, h]] at j0; exact j0
 ·rw [show arity x.f0 = 1 by simp [arity, h']] at j0; exact j0
 ·rw [show arity x.f0 = 1 by simp [arity, h'']] at j0; exact j0
 ·rw [show arity x.f0 = 2 by simp [arity, h, h', h'']] at j0; exact j0

/-- An expression that both take. -/
def isE (x : S28) : Bool := decide (1 + sub28 x ≤ 60 ∧ dep28 x ≤ 12) && shp28 x
theorem spec_IsExpr_ev (x : S28) (hs : sub28 x ≤ 1048576) : Ev (fun k => spec_IsExpr.f k x.f0 x.f1 x.f2) (isE x) := by
 simp only [spec_IsExpr.f]
 refine Ev.bind (spec_l10Size_ev x hs) ?_
 unfold isE
 refine Ev.ite (fun h1 => Ev.ite (fun h2 => Ev.bind (spec_l10Shape_ev x hs) (Ev.ret ?_)) (fun h2 => Ev.ret ?_)) (fun h1 => Ev.ret ?_)
 ·rw [decide_eq_true (by omega), Bool.true_and]
 ·rw [decide_eq_false (by omega), Bool.false_and]
 ·rw [decide_eq_false (by omega), Bool.false_and]

theorem spec_l10Copy_l (l : List S28) (a b : Int) (hl : l.length ≤ 1048576) (ih : ∀ y ∈ l, Ev (fun k => spec_l10Copy.f k y.f0 y.f1 y.f2) (y.f0, y.f1, y.f2)) :
  ∀ (d i : Nat) (x : List S28), i + d = l.length → x = l.take i → Ev (fun k => spec_l10Copy.l0 k l (l.length : Int) i a b x) (a, b, l) := by
 intro d
 induction d with
 | zero =>
  intro i x hi hx
  subst hx
  apply Ev.succ
  simp only [spec_l10Copy.l0.eq_2]
  refine Ev.neg (by omega) (Ev.ret ?_)
  rw [List.take_of_length_le (by omega)]
 | succ d ihd =>
  intro i x hi hx
  subst hx
  have hlt : i < l.length := by omega
  apply Ev.succ
  simp only [spec_l10Copy.l0.eq_2]
  refine Ev.pos (by omega) (Ev.pos (by omega) (Ev.pos (by omega) ?_))
  rw [rd28_get l i hlt, w64 (by omega) (by omega)]
  refine Ev.bind (ih _ (List.getElem_mem hlt)) (Ev.pos (by simp only [List.length_take]; omega) ?_)
  exact ihd (i + 1) _ (by omega) (by simp only [take_snoc l i hlt, eta28])
theorem spec_l10Copy_ev (x : S28) (hs : sub28 x ≤ 1048576) : Ev (fun k => spec_l10Copy.f k x.f0 x.f1 x.f2) (x.f0, x.f1, x.f2) := by
 induction x using S28.ind with
 | h x ih =>
  have hl := subL28_len x.f2
  rw [sub28_eq] at hs
  apply Ev.succ
  simp only [spec_l10Copy.f.eq_2]
  exact spec_l10Copy_l x.f2 x.f0 x.f1 (by omega) (fun y hy => ih y hy (by have := subL28_mem hy; omega)) x.f2.length 0 _ (by omega) (by simp)

/-- One node of the negated expression, from the negated kids m. -/
def negC (a b : Int) (l m : List S28) : S28 :=
 if a = 2 then ⟨2, 0, [rd_T28 m 0]⟩ else if a = 3 then ⟨2, 0, [rd_T28 l 0]⟩ else if a = 4 ∨ a = 5 then ⟨a, 0, [rd_T28 m 0, rd_T28 m 1]⟩ else if a = 6 then ⟨6, 0, [rd_T28 m 0, rd_T28 l 1]⟩ else ⟨3, 0, [⟨a, b, l⟩]⟩
mutual
def neg28 : S28 → S28
 | ⟨a, b, l⟩ => negC a b l (negL28 l)
def negL28 : List S28 → List S28
 | [] => []
 | x :: xs => neg28 x :: negL28 xs
end
theorem neg28_eq (x : S28) : neg28 x = negC x.f0 x.f1 x.f2 (negL28 x.f2) := by cases x; rfl
theorem shp28_arity {x : S28} (h : shp28 x = true) : (x.f2.length : Int) = arity x.f0 ∧ shpL28 x.f2 = true := by
 rw [shp28_eq, Bool.and_eq_true] at h
 refine ⟨?_, h.2⟩
 have := h.1
 simp only [nodeOk, decide_eq_true_eq] at this
 exact this.2.1
/-- What an expression of the right shape is: its kids, by its kind. -/
theorem kids_of {x : S28} (h : shp28 x = true) : ((x.f0 = 2 ∨ x.f0 = 3) → ∃ p, x.f2 = [p] ∧ shp28 p = true) ∧ ((x.f0 = 4 ∨ x.f0 = 5 ∨ x.f0 = 6) → ∃ p q, x.f2 = [p, q] ∧ shp28 p = true ∧ shp28 q = true) := by
 obtain ⟨ha, hs⟩ := shp28_arity h
 constructor
 ·intro h0
  have : (x.f2.length : Int) = 1 := by rw [ha]; unfold arity; rw [if_neg (by omega), if_pos (by omega)]
  match hx : x.f2, this with
  | [p], _ =>
   rw [hx] at hs
   simp only [shpL28, Bool.and_eq_true] at hs
   exact ⟨p, rfl, hs.1⟩
 ·intro h0
  have : (x.f2.length : Int) = 2 := by rw [ha]; unfold arity; rw [if_neg (by omega), if_neg (by omega)]
  match hx : x.f2, this with
  | [p, q], _ =>
   rw [hx] at hs
   simp only [shpL28, Bool.and_eq_true] at hs
   exact ⟨p, q, rfl, hs.1, hs.2.1⟩
theorem sub_neg (x : S28) (h : shp28 x = true) : sub28 (neg28 x) ≤ 2 * sub28 x + 1 := by
 induction x using S28.ind with
 | h x ih =>
  obtain ⟨k1, k2⟩ := kids_of h
  have e : sub28 x = subL28 x.f2 := sub28_eq x
  rw [neg28_eq, e]
  unfold negC
  split
  ·rename_i h2
   obtain ⟨p, hp, sp⟩ := k1 (.inl h2)
   have := ih p (by rw [hp]; simp) sp
   rw [hp]
   simp only [negL28, rd_T28, sub28, subL28, List.getD_cons_zero, Int.toNat_zero]
   simp
   omega
  ·split
   ·rename_i h2
    obtain ⟨p, hp, sp⟩ := k1 (.inr h2)
    rw [hp]
    simp only [negL28, rd_T28, sub28, subL28, List.getD_cons_zero, Int.toNat_zero]
    simp
    omega
   ·split
    ·rename_i h2
     obtain ⟨p, q, hp, sp, sq⟩ := k2 (by omega)
     have i1 := ih p (by rw [hp]; simp) sp
     have i2 := ih q (by rw [hp]; simp) sq
     rw [hp]
     simp [negL28, rd_T28, sub28, subL28]
     omega
    ·split
     ·rename_i h2
      obtain ⟨p, q, hp, sp, sq⟩ := k2 (by omega)
      have i1 := ih p (by rw [hp]; simp) sp
      rw [hp]
      simp [negL28, rd_T28, sub28, subL28]
      omega
     ·simp [sub28, subL28]
      omega

theorem spec_l10Negate_ev (x : S28) (hs : sub28 x ≤ 1048576) (h : shp28 x = true) : Ev (fun k => spec_l10Negate.f k x.f0 x.f1 x.f2) ((neg28 x).f0, (neg28 x).f1, (neg28 x).f2) := by
 induction x using S28.ind with
 | h x ih =>
  obtain ⟨k1, k2⟩ := kids_of h
  have e : sub28 x = subL28 x.f2 := sub28_eq x
  have cx := spec_l10Copy_ev x hs
  rw [neg28_eq]
  unfold negC
  apply Ev.succ
  simp only [spec_l10Negate.f.eq_2]
  by_cases h2 : x.f0 = 2
  ·obtain ⟨p, hp, sp⟩ := k1 (.inl h2)
   have ip := ih p (by rw [hp]; simp) (by rw [e, hp] at hs; simp only [subL28] at hs; omega) sp
   rw [if_pos h2, hp]
   simp only [negL28, rd_T28]
   exact Ev.pos h2 (Ev.pos (by simp) (Ev.bind ip (Ev.ret (by simp [eta28]))))
  refine Ev.neg h2 ?_
  rw [if_neg h2]
  by_cases h3 : x.f0 = 3
  ·obtain ⟨p, hp, sp⟩ := k1 (.inr h3)
   have ip := spec_l10Copy_ev p (by rw [e, hp] at hs; simp only [subL28] at hs; omega)
   rw [if_pos h3, hp]
   simp only [negL28, rd_T28]
   exact Ev.pos h3 (Ev.pos (by simp) (Ev.bind ip (Ev.ret (by simp [eta28]))))
  refine Ev.neg h3 ?_
  rw [if_neg h3]
  by_cases h4 : x.f0 = 4 ∨ x.f0 = 5
  ·obtain ⟨p, q, hp, sp, sq⟩ := k2 (by omega)
   have ip := ih p (by rw [hp]; simp) (by rw [e, hp] at hs; simp only [subL28] at hs; omega) sp
   have iq := ih q (by rw [hp]; simp) (by rw [e, hp] at hs; simp only [subL28] at hs; omega) sq
   rw [if_pos h4, hp]
   simp only [negL28, rd_T28]
   have j : ∀ t : Bool, t = true → Ev (fun k => spec_l10Negate.j0 k x.f0 t x.f0 x.f1 [p, q]) (x.f0, 0, [neg28 p, neg28 q]) := by
    intro t ht
    apply Ev.succ
    simp only [spec_l10Negate.j0.eq_2, rd_T28]
    exact Ev.pos ht (Ev.pos (by simp) (Ev.bind ip (Ev.pos (by simp) (Ev.bind iq (Ev.ret (by simp [eta28]))))))
   exact Ev.ite (fun g => j _ (by simp [g])) (fun g => j _ (by simp; omega))
  rw [if_neg h4]
  have j : ∀ t : Bool, t = false → Ev (fun k => spec_l10Negate.j0 k x.f0 t x.f0 x.f1 x.f2) ((if x.f0 = 6 then (⟨6, 0, [rd_T28 (negL28 x.f2) 0, rd_T28 x.f2 1]⟩ : S28) else ⟨3, 0, [⟨x.f0, x.f1, x.f2⟩]⟩).f0, (if x.f0 = 6 then (⟨6, 0, [rd_T28 (negL28 x.f2) 0, rd_T28 x.f2 1]⟩ : S28) else ⟨3, 0, [⟨x.f0, x.f1, x.f2⟩]⟩).f1, (if x.f0 = 6 then (⟨6, 0, [rd_T28 (negL28 x.f2) 0, rd_T28 x.f2 1]⟩ : S28) else ⟨3, 0, [⟨x.f0, x.f1, x.f2⟩]⟩).f2) := by
   intro t ht
   apply Ev.succ
   simp only [spec_l10Negate.j0.eq_2]
   refine Ev.neg (by simp [ht]) ?_
   by_cases h6 : x.f0 = 6
   ·obtain ⟨p, q, hp, sp, sq⟩ := k2 (by omega)
    have ip := ih p (by rw [hp]; simp) (by rw [e, hp] at hs; simp only [subL28] at hs; omega) sp
    have iq := spec_l10Copy_ev q (by rw [e, hp] at hs; simp only [subL28] at hs; omega)
    rw [if_pos h6, hp]
    simp only [negL28, rd_T28]
    refine Ev.pos h6 (Ev.pos (by simp) (Ev.bind ip (Ev.pos (by simp) (Ev.bind iq ?_))))
    refine Ev.ret ?_
    simp [h6, eta28]
   ·rw [if_neg h6]
    exact Ev.neg h6 (Ev.bind cx (Ev.ret (by simp [eta28])))
  exact Ev.ite (fun g => absurd g (by omega)) (fun g => j _ (by simp; omega))

/-- What both answer. -/
def negT (x : S28) : S28 × Bool := if isE x = true then (if isE (neg28 x) = true then (neg28 x, true) else (⟨0, 0, []⟩, false)) else (⟨0, 0, []⟩, false)
theorem isE_shp {x : S28} (h : isE x = true) : shp28 x = true ∧ sub28 x ≤ 60 := by
 unfold isE at h
 rw [Bool.and_eq_true, decide_eq_true_eq] at h
 exact ⟨h.2, by omega⟩
theorem spec_NegateExpr_ev (x : S28) (hs : sub28 x ≤ 1048576) : Ev (fun k => spec_NegateExpr.f k x.f0 x.f1 x.f2) ((negT x).1.f0, (negT x).1.f1, (negT x).1.f2, (negT x).2) := by
 simp only [spec_NegateExpr.f]
 unfold negT
 refine Ev.bind (spec_IsExpr_ev x hs) ?_
 by_cases h : isE x = true
 ·rw [if_pos h]
  refine Ev.pos h ?_
  obtain ⟨h1, h2⟩ := isE_shp h
  refine Ev.bind (spec_l10Negate_ev x hs h1) (Ev.bind (spec_IsExpr_ev (neg28 x) (by have := sub_neg x h1; omega)) ?_)
  by_cases g : isE (neg28 x) = true
  ·rw [if_pos g, if_pos g]; exact Ev.now _
  ·rw [if_neg g, if_neg g]; exact Ev.now _
 ·rw [if_neg h]; exact Ev.neg h (Ev.now _)
theorem negT_sub (x : S28) : sub28 (negT x).1 ≤ 60 := by
 unfold negT
 split
 ·split
  ·rename_i h; exact (isE_shp h).2
  ·simp [sub28, subL28]
 ·simp [sub28, subL28]

mutual
/-- An expression of the law as one of the program. -/
def cv : S24 → S28
 | ⟨a, b, l⟩ => ⟨a, b, cvL l⟩
def cvL : List S24 → List S28
 | [] => []
 | x :: xs => cv x :: cvL xs
end
theorem cvL_map (l : List S24) : cvL l = l.map cv := by
 induction l with
 | nil => rfl
 | cons x xs ih => simp [cvL, ih]
theorem cv_f0 (x : S24) : (cv x).f0 = x.f0 := by cases x; rfl
theorem cv_f1 (x : S24) : (cv x).f1 = x.f1 := by cases x; rfl
theorem cv_f2 (x : S24) : (cv x).f2 = cvL x.f2 := by cases x; rfl
theorem sub_cv (x : S24) : sub28 (cv x) = sub24 x := by
 induction x using S24.ind with
 | h x ih =>
 rw [sub28_eq, cv_f2, sub24_eq]
 generalize x.f2 = l at ih
 induction l with
 | nil => rfl
 | cons y ys ihy =>
  simp only [cvL, subL28, subL24]
  rw [ih y List.mem_cons_self, ihy (fun z hz => ih z (List.mem_cons_of_mem _ hz))]
theorem laws_toExprS_l (l : List S24) (hl : l.length ≤ 1048576) (ih : ∀ y ∈ l, Ev (fun k => laws_toExpr.f k y.f0 y.f1 y.f2) (y.f0, y.f1, cvL y.f2)) :
  ∀ (d i : Nat) (x3 : List S28), i + d = l.length → x3.length = l.length → x3.take i = (l.map cv).take i → Ev (fun k => laws_toExprS.l0 k l x3 i) (l.map cv) := by
 intro d
 induction d with
 | zero =>
  intro i x3 hi hx ht
  apply Ev.succ
  simp only [laws_toExprS.l0.eq_2]
  refine Ev.neg (by omega) (Ev.ret ?_)
  rwa [List.take_of_length_le (by omega), List.take_of_length_le (by simp; omega)] at ht
 | succ d ihd =>
  intro i x3 hi hx ht
  have hlt : i < l.length := by omega
  apply Ev.succ
  simp only [laws_toExprS.l0.eq_2]
  refine Ev.pos (by omega) (Ev.pos (by omega) ?_)
  rw [rd24_get l i hlt, w64 (by omega) (by omega)]
  refine Ev.bind (ih _ (List.getElem_mem hlt)) ?_
  refine Ev.pos (by omega) ?_
  refine ihd (i + 1) _ (by omega) (by simp [hx]) ?_
  rw [take_snoc _ i (by simp; omega), take_snoc _ i (by simp; omega)]
  have e : (⟨l[i].f0, l[i].f1, cvL l[i].f2⟩ : S28) = cv l[i] := by cases l[i]; rfl
  simp [List.take_set_of_le, ht, e]
theorem laws_toExprS_ev (l : List S24) (hl : l.length ≤ 1048576) (ih : ∀ y ∈ l, Ev (fun k => laws_toExpr.f k y.f0 y.f1 y.f2) (y.f0, y.f1, cvL y.f2)) : Ev (fun k => laws_toExprS.f k l) (cvL l) := by
 apply Ev.succ
 simp only [laws_toExprS.f.eq_2]
 rw [cvL_map]
 refine Ev.pos (by omega) (Ev.pos (by omega) ?_)
 exact laws_toExprS_l l hl ih l.length 0 _ (by omega) (by simp) (by simp)
theorem laws_toExpr_ev : ∀ (x : S24), sub24 x ≤ 1048576 → Ev (fun k => laws_toExpr.f k x.f0 x.f1 x.f2) (x.f0, x.f1, cvL x.f2) := by
 intro x
 induction x using S24.ind with
 | h x ih =>
 intro hs
 have hl := subL24_len x.f2
 rw [sub24_eq] at hs
 apply Ev.succ
 simp only [laws_toExpr.f.eq_2]
 refine Ev.bind (laws_toExprS_ev x.f2 (by omega) (fun y hy => ih y hy (by have := subL24_mem hy; omega))) (Ev.ret rfl)

def kids (a : Int) : Int := if a = 1 then 0 else if a = 2 ∨ a = 3 then 1 else if 4 ≤ a ∧ a ≤ 8 then 2 else -1
theorem impl_kids_ev (a : Int) : Ev (fun k => impl_kids.f k a) (kids a) := by
 have j0 : ∀ b : Bool, Ev (fun k => impl_kids.j0 k a b) (if b = true then 1 else if 4 ≤ a ∧ a ≤ 8 then 2 else -1) := by
  intro b
  apply Ev.succ
  simp only [impl_kids.j0.eq_2]
  refine Ev.ite (fun h => Ev.ret (by rw [if_pos h])) (fun h => ?_)
  rw [if_neg h]
  refine Ev.ite (fun _ => Ev.ret (by rw [if_pos (by omega)])) (fun _ => Ev.ite (fun _ => Ev.ret (by rw [if_pos (by omega)])) (fun _ => Ev.ite (fun _ => Ev.ret (by rw [if_pos (by omega)])) (fun _ => Ev.ite (fun _ => Ev.ret (by rw [if_pos (by omega)])) (fun _ => Ev.ite (fun _ => Ev.ret (by rw [if_pos (by omega)])) (fun _ => Ev.ret (by rw [if_neg (by omega)]))))))
 simp only [impl_kids.f]
 unfold kids
 refine Ev.ite (fun h => Ev.ret (by rw [if_pos h])) (fun h => ?_)
 rw [if_neg h]
 refine Ev.ite (fun h' => evTo (j0 _) ?_) (fun h' => evTo (j0 _) ?_)
 ·simp [h']
 ·simp [h']

theorem impl_power_l (n : Nat) (hn : n ≤ 30) : ∀ (d i : Nat), i + d = n → Ev (fun k => impl_power.l0 k ((3 : Int) ^ i) n i) ((3 : Int) ^ n) := by
 intro d
 induction d with
 | zero =>
  intro i hi
  apply Ev.succ
  simp only [impl_power.l0.eq_2]
  refine Ev.neg (by omega) (Ev.ret ?_)
  rw [← hi]; rfl
 | succ d ih =>
  intro i hi
  apply Ev.succ
  simp only [impl_power.l0.eq_2]
  have h1 := pow3_30 (i := i + 1) (by omega)
  have h2 := pow3_pos i
  rw [pow3_succ] at h1
  refine Ev.pos (by omega) ?_
  rw [w64 (by omega) (by omega), w64 (by omega) (by omega), Int.mul_comm, ← pow3_succ]
  exact ih (i + 1) (by omega)
theorem impl_power_ev (n : Int) (h0 : 0 ≤ n) (hn : n ≤ 30) : Ev (fun k => impl_power.f k n) ((3 : Int) ^ n.toNat) := by
 obtain ⟨m, rfl⟩ : ∃ m : Nat, n = m := ⟨n.toNat, by omega⟩
 exact impl_power_l m (by omega) m 0 (by omega)

theorem impl_LimitOf_ev (k : Int) : Ev (fun n => impl_LimitOf.f n k) (lim k) := by
 simp only [impl_LimitOf.f]
 unfold lim
 refine Ev.ite (fun h => Ev.ret (by rw [if_neg (by omega)])) (fun h => Ev.ite (fun h1 => Ev.ret (by rw [if_neg (by omega)])) (fun h1 => ?_))
 rw [if_pos (by omega)]
 refine Ev.bind (impl_power_ev k (by omega) (by omega)) (Ev.ret ?_)
 have h2 := pow3_30 (i := k.toNat) (by omega)
 have h3 := pow3_pos k.toNat
 rw [w64 (n := _ - 1) (by omega) (by omega), Int.tdiv_eq_ediv_of_nonneg (by omega), w64 (by omega) (by omega)]

/-- What 'nodes' leaves of a rest. -/
def left (ok : Bool) (b : Int) (n m : Nat) (d : Int) : Int := if ok = true ∧ (n : Int) ≤ b ∧ (m : Int) ≤ d then b - n else -1
theorem impl_nodes_l (l : List S28) (hl : l.length ≤ 1048576) (ih : ∀ y ∈ l, ∀ b d : Int, 0 ≤ b → b ≤ 60 → 0 ≤ d → d ≤ 12 → Ev (fun k => impl_nodes.f k y.f0 y.f1 y.f2 b d) (left (shp28 y) b (1 + sub28 y) (dep28 y) d)) :
  ∀ (d i : Nat) (b e : Int), i + d = l.length → 0 ≤ b → b ≤ 60 → 1 ≤ e → e ≤ 12 → Ev (fun k => impl_nodes.l0 k b e l (l.length : Int) i) (left (shpL28 (l.drop i)) b (subL28 (l.drop i)) (depL28 (l.drop i)) (e - 1)) := by
 intro d
 induction d with
 | zero =>
  intro i b e hi h0 h1 h2 h3
  apply Ev.succ
  simp only [impl_nodes.l0.eq_2]
  refine Ev.neg (by omega) (Ev.ret ?_)
  rw [List.drop_of_length_le (by omega)]
  simp only [left, shpL28, subL28, depL28]
  rw [if_pos ⟨trivial, by omega, by omega⟩]; omega
 | succ d ihd =>
  intro i b e hi h0 h1 h2 h3
  have hlt : i < l.length := by omega
  apply Ev.succ
  simp only [impl_nodes.l0.eq_2]
  refine Ev.pos (by omega) (Ev.pos (by omega) (Ev.pos (by omega) ?_))
  rw [rd28_get l i hlt, w64 (by omega) (by omega), w64 (by omega) (by omega), subL28_drop l i hlt, depL28_drop l i hlt, shpL28_drop l i hlt]
  refine Ev.bind (ih _ (List.getElem_mem hlt) b (e - 1) h0 h1 (by omega) (by omega)) ?_
  by_cases hc : shp28 l[i] = true ∧ ((1 + sub28 l[i] : Nat) : Int) ≤ b ∧ (dep28 l[i] : Int) ≤ e - 1
  ·have e1 : left (shp28 l[i]) b (1 + sub28 l[i]) (dep28 l[i]) (e - 1) = b - ((1 + sub28 l[i] : Nat) : Int) := if_pos hc
   rw [e1]
   refine Ev.neg (by omega) (evTo (ihd (i + 1) _ e (by omega) (by omega) (by omega) h2 h3) ?_)
   unfold left
   rw [hc.1, Bool.true_and]
   by_cases hs : shpL28 (l.drop (i + 1)) = true
   ·rw [hs]; simp only [true_and]
    split
    ·rw [if_pos (by omega)]; omega
    ·rw [if_neg (by omega)]
   ·rw [if_neg (by simp [hs]), if_neg (by simp [hs])]
  ·have e1 : left (shp28 l[i]) b (1 + sub28 l[i]) (dep28 l[i]) (e - 1) = -1 := if_neg hc
   rw [e1]
   refine Ev.pos (by omega) (Ev.ret ?_)
   unfold left
   rw [if_neg]
   intro hh
   apply hc
   rw [Bool.and_eq_true] at hh
   exact ⟨hh.1.1, by omega, by omega⟩
theorem impl_nodes_ev : ∀ (x : S28), sub28 x ≤ 1048576 → ∀ b d : Int, 0 ≤ b → b ≤ 60 → 0 ≤ d → d ≤ 12 → Ev (fun k => impl_nodes.f k x.f0 x.f1 x.f2 b d) (left (shp28 x) b (1 + sub28 x) (dep28 x) d) := by
 intro x
 induction x using S28.ind with
 | h x ih =>
 intro hs b d h0 h1 h2 h3
 have hl := subL28_len x.f2
 rw [sub28_eq] at hs
 have hL : ∀ b e : Int, 0 ≤ b → b ≤ 60 → 1 ≤ e → e ≤ 12 → Ev (fun k => impl_nodes.l0 k b e x.f2 (x.f2.length : Int) 0) (left (shpL28 x.f2) b (subL28 x.f2) (depL28 x.f2) (e - 1)) := by
  intro b e g0 g1 g2 g3
  have := impl_nodes_l x.f2 (by omega) (fun y hy => ih y hy (by have := subL28_mem hy; omega)) x.f2.length 0 b e (by omega) g0 g1 g2 g3
  simpa using this
 have bad : ∀ z : Int, Ev (fun k => impl_nodes.j0 k z d true x.f0 x.f1 x.f2) (-1) := by
  intro z
  apply Ev.succ
  simp only [impl_nodes.j0.eq_2]
  exact Ev.pos trivial (Ev.now _)
 have good : 0 ≤ b - 1 → 1 ≤ d → Ev (fun k => impl_nodes.j0 k (b - 1) d false x.f0 x.f1 x.f2) (left (shpL28 x.f2) (b - 1) (subL28 x.f2) (depL28 x.f2) (d - 1)) := by
  intro g0 g1
  apply Ev.succ
  simp only [impl_nodes.j0.eq_2]
  exact Ev.neg (by simp) (hL _ _ g0 (by omega) g1 h3)
 have no : ∀ z : Int, (¬ (nodeOk x.f0 x.f1 x.f2.length = true ∧ 1 ≤ b ∧ 1 ≤ d)) → Ev (fun k => impl_nodes.j0 k z d true x.f0 x.f1 x.f2) (left (shp28 x) b (1 + sub28 x) (dep28 x) d) := by
  intro z hz
  refine evTo (bad z) ?_
  unfold left
  rw [if_neg]
  rw [shp28_eq, dep28_eq, Bool.and_eq_true]
  intro hh
  exact hz ⟨hh.1.1, by omega, by omega⟩
 have yes : ∀ c : Bool, 0 ≤ b - 1 → 1 ≤ d → (c = false ↔ nodeOk x.f0 x.f1 x.f2.length = true) → Ev (fun k => impl_nodes.j0 k (b - 1) d c x.f0 x.f1 x.f2) (left (shp28 x) b (1 + sub28 x) (dep28 x) d) := by
  intro c g0 g1 hc
  cases c
  ·refine evTo (good g0 g1) ?_
   unfold left
   rw [shp28_eq, hc.1 rfl, Bool.true_and, sub28_eq, dep28_eq]
   by_cases hs : shpL28 x.f2 = true
   ·rw [hs]; simp only [true_and]
    split
    ·rw [if_pos (by omega)]; omega
    ·rw [if_neg (by omega)]
   ·rw [if_neg (by simp [hs]), if_neg (by simp [hs])]
  ·refine no _ (fun hh => ?_)
   have := hc.2 hh.1
   simp at this
 have hk : (x.f2.length : Int) = kids x.f0 ↔ ((1 ≤ x.f0 ∧ x.f0 ≤ 8) ∧ (x.f2.length : Int) = arity x.f0) := by
  unfold kids arity
  split
  ·omega
  ·split
   ·omega
   ·split <;> omega
 apply Ev.succ
 simp only [impl_nodes.f.eq_2]
 rw [w64 (by omega) (by omega)]
 refine Ev.ite (fun c1 => no _ (by omega)) (fun c1 => Ev.ite (fun c2 => no _ (by omega)) (fun c2 => ?_))
 refine Ev.bind (impl_kids_ev _) ?_
 refine Ev.ite (fun c3 => ?_) (fun c3 => no _ ?_)
 ·rw [hk] at c3
  have fin : (x.f0 = 1 ∨ x.f1 = 0) → Ev (fun k => if x.f1 < 0 then impl_nodes.j0 k (b - 1) d true x.f0 x.f1 x.f2 else (impl_LimitOf.f k 30).bind fun t149 => impl_nodes.j0 k (b - 1) d (decide (x.f1 > t149)) x.f0 x.f1 x.f2) (left (shp28 x) b (1 + sub28 x) (dep28 x) d) := by
   intro h5
   refine Ev.ite (fun c5 => no _ ?_) (fun c5 => ?_)
   ·simp only [nodeOk, decide_eq_true_eq]; omega
   ·refine Ev.bind (impl_LimitOf_ev 30) (yes _ (by omega) (by omega) ?_)
    simp only [nodeOk, decide_eq_true_eq, decide_eq_false_iff_not]
    omega
  refine Ev.ite (fun c4 => fin (.inr c4)) (fun c4 => Ev.ite (fun c6 => fin (.inl c6)) (fun c6 => no _ ?_))
  simp only [nodeOk, decide_eq_true_eq]; omega
 ·rw [hk] at c3
  simp only [nodeOk, decide_eq_true_eq]
  intro hh; exact c3 ⟨hh.1.1, hh.1.2.1⟩

theorem impl_IsExpr_ev (x : S28) (hs : sub28 x ≤ 1048576) : Ev (fun k => impl_IsExpr.f k x.f0 x.f1 x.f2) (isE x) := by
 simp only [impl_IsExpr.f]
 refine Ev.bind (impl_nodes_ev x hs 60 12 (by omega) (by omega) (by omega) (by omega)) (Ev.ret ?_)
 unfold left isE
 by_cases hc : shp28 x = true ∧ ((1 + sub28 x : Nat) : Int) ≤ 60 ∧ (dep28 x : Int) ≤ 12
 ·rw [if_pos hc, hc.1, decide_eq_true (by omega), decide_eq_true (by omega)]; rfl
 ·rw [if_neg hc]
  by_cases h : shp28 x = true
  ·rw [decide_eq_false (by omega), decide_eq_false (by intro hh; exact hc ⟨h, by omega, by omega⟩), Bool.false_and]
  ·simp [h]

theorem impl_copyExpr_l (l : List S28) (a b : Int) (hl : l.length ≤ 1048576) (ih : ∀ y ∈ l, Ev (fun k => impl_copyExpr.f k y.f0 y.f1 y.f2) (y.f0, y.f1, y.f2)) :
  ∀ (d i : Nat) (x : List S28), i + d = l.length → x = l.take i → Ev (fun k => impl_copyExpr.l0 k l (l.length : Int) i a b x) (a, b, l) := by
 intro d
 induction d with
 | zero =>
  intro i x hi hx
  subst hx
  apply Ev.succ
  simp only [impl_copyExpr.l0.eq_2]
  refine Ev.neg (by omega) (Ev.ret ?_)
  rw [List.take_of_length_le (by omega)]
 | succ d ihd =>
  intro i x hi hx
  subst hx
  have hlt : i < l.length := by omega
  apply Ev.succ
  simp only [impl_copyExpr.l0.eq_2]
  refine Ev.pos (by omega) (Ev.pos (by omega) (Ev.pos (by omega) ?_))
  rw [rd28_get l i hlt, w64 (by omega) (by omega)]
  refine Ev.bind (ih _ (List.getElem_mem hlt)) (Ev.pos (by simp only [List.length_take]; omega) ?_)
  exact ihd (i + 1) _ (by omega) (by simp only [take_snoc l i hlt, eta28])
theorem impl_copyExpr_ev (x : S28) (hs : sub28 x ≤ 1048576) : Ev (fun k => impl_copyExpr.f k x.f0 x.f1 x.f2) (x.f0, x.f1, x.f2) := by
 induction x using S28.ind with
 | h x ih =>
  have hl := subL28_len x.f2
  rw [sub28_eq] at hs
  apply Ev.succ
  simp only [impl_copyExpr.f.eq_2]
  exact impl_copyExpr_l x.f2 x.f0 x.f1 (by omega) (fun y hy => ih y hy (by have := subL28_mem hy; omega)) x.f2.length 0 _ (by omega) (by simp)

theorem impl_negative_ev (x : S28) (h : shp28 x = true) : Ev (fun k => impl_negative.f k x.f0 x.f1 x.f2) ((neg28 x).f0, (neg28 x).f1, (neg28 x).f2) := by
 induction x using S28.ind with
 | h x ih =>
  obtain ⟨k1, k2⟩ := kids_of h
  rw [neg28_eq]
  unfold negC
  apply Ev.succ
  simp only [impl_negative.f]
  by_cases h2 : x.f0 = 2
  ·obtain ⟨p, hp, sp⟩ := k1 (.inl h2)
   have ip := ih p (by rw [hp]; simp) sp
   rw [if_pos h2, hp]
   simp only [negL28, rd_T28]
   exact Ev.pos h2 (Ev.pos (by simp) (Ev.bind ip (Ev.ret (by simp [eta28]))))
  refine Ev.neg h2 ?_
  rw [if_neg h2]
  by_cases h3 : x.f0 = 3
  ·obtain ⟨p, hp, sp⟩ := k1 (.inr h3)
   rw [if_pos h3, hp]
   simp only [negL28, rd_T28]
   exact Ev.pos h3 (Ev.pos (by simp) (Ev.ret (by simp [eta28])))
  refine Ev.neg h3 ?_
  rw [if_neg h3]
  by_cases h4 : x.f0 = 4 ∨ x.f0 = 5
  ·obtain ⟨p, q, hp, sp, sq⟩ := k2 (by omega)
   have ip := ih p (by rw [hp]; simp) sp
   have iq := ih q (by rw [hp]; simp) sq
   rw [if_pos h4, hp]
   simp only [negL28, rd_T28]
   exact Ev.pos h4 (Ev.pos (by simp) (Ev.bind ip (Ev.bind iq (Ev.ret (by simp [eta28])))))
  refine Ev.neg h4 ?_
  rw [if_neg h4]
  by_cases h6 : x.f0 = 6
  ·obtain ⟨p, q, hp, sp, sq⟩ := k2 (by omega)
   have ip := ih p (by rw [hp]; simp) sp
   rw [if_pos h6, hp]
   simp only [negL28, rd_T28]
   exact Ev.pos h6 (Ev.pos (by simp) (Ev.bind ip (Ev.ret (by simp [eta28]))))
  ·rw [if_neg h6]
   exact Ev.neg h6 (Ev.ret (by simp [eta28]))

theorem impl_NegateExpr_ev (x : S28) (hs : sub28 x ≤ 1048576) : Ev (fun k => impl_NegateExpr.f k x.f0 x.f1 x.f2) ((negT x).1.f0, (negT x).1.f1, (negT x).1.f2, (negT x).2) := by
 simp only [impl_NegateExpr.f]
 unfold negT
 refine Ev.bind (impl_IsExpr_ev x hs) ?_
 by_cases h : isE x = true
 ·rw [if_pos h]
  refine Ev.pos h ?_
  obtain ⟨h1, h2⟩ := isE_shp h
  have hn : sub28 (neg28 x) ≤ 1048576 := by have := sub_neg x h1; omega
  refine Ev.bind (impl_negative_ev x h1) (Ev.bind (impl_copyExpr_ev (neg28 x) hn) (Ev.bind (impl_IsExpr_ev (neg28 x) hn) ?_))
  by_cases g : isE (neg28 x) = true
  ·rw [if_pos g, if_pos g]; exact Ev.now _
  ·rw [if_neg g, if_neg g]; exact Ev.now _
 ·rw [if_neg h]; exact Ev.neg h (Ev.now _)

theorem laws_eqExprS_l (l : List S28) (hl : l.length ≤ 1048576) (ih : ∀ y ∈ l, Ev (fun k => laws_eqExpr.f k y.f0 y.f1 y.f2 y.f0 y.f1 y.f2) true) :
  ∀ (d i : Nat), i + d = l.length → Ev (fun k => laws_eqExprS.l0 k l l i) true := by
 intro d
 induction d with
 | zero =>
  intro i hi
  apply Ev.succ
  simp only [laws_eqExprS.l0.eq_2]
  exact Ev.neg (by omega) (Ev.now _)
 | succ d ihd =>
  intro i hi
  have hlt : i < l.length := by omega
  apply Ev.succ
  simp only [laws_eqExprS.l0.eq_2]
  refine Ev.pos (by omega) (Ev.pos (by omega) (Ev.pos (by omega) ?_))
  rw [rd28_get l i hlt, w64 (by omega) (by omega)]
  refine Ev.bind (ih _ (List.getElem_mem hlt)) (Ev.pos rfl ?_)
  exact ihd (i + 1) (by omega)
theorem laws_eqExprS_ev (l : List S28) (hl : l.length ≤ 1048576) (ih : ∀ y ∈ l, Ev (fun k => laws_eqExpr.f k y.f0 y.f1 y.f2 y.f0 y.f1 y.f2) true) : Ev (fun k => laws_eqExprS.f k l l) true := by
 apply Ev.succ
 simp only [laws_eqExprS.f.eq_2]
 exact Ev.pos trivial (laws_eqExprS_l l hl ih l.length 0 (by omega))
theorem laws_eqExpr_ev : ∀ (x : S28), sub28 x ≤ 1048576 → Ev (fun k => laws_eqExpr.f k x.f0 x.f1 x.f2 x.f0 x.f1 x.f2) true := by
 intro x
 induction x using S28.ind with
 | h x ih =>
 intro hs
 have hl := subL28_len x.f2
 rw [sub28_eq] at hs
 apply Ev.succ
 simp only [laws_eqExpr.f.eq_2]
 refine Ev.pos trivial (Ev.pos trivial ?_)
 refine Ev.bind (laws_eqExprS_ev x.f2 (by omega) (fun y hy => ih y hy (by have := subL28_mem hy; omega))) (Ev.pos rfl (Ev.now _))

mutual
/-- A tree whose nodes are numbered. -/
def mk28 : S28 → Int → S28
 | ⟨_, _, l⟩, a => ⟨a, a + 1, mkL28 l (a + 2)⟩
def mkL28 : List S28 → Int → List S28
 | [], _ => []
 | x :: xs, a => mk28 x a :: mkL28 xs (a + 2 * ((1 + sub28 x : Nat) : Int))
end
theorem mk28_eq (x : S28) (a : Int) : mk28 x a = ⟨a, a + 1, mkL28 x.f2 (a + 2)⟩ := by cases x; rfl
theorem mkL28_length (l : List S28) (a : Int) : (mkL28 l a).length = l.length := by
 induction l generalizing a with
 | nil => rfl
 | cons x xs ih => simp [mkL28, ih]
theorem mkL28_get (l : List S28) (i : Nat) (h : i < l.length) : ∀ a : Int, rd_T28 (mkL28 l a) (i : Int) = mk28 l[i] (a + 2 * ((subL28 (l.take i) : Nat) : Int)) := by
 induction l generalizing i with
 | nil => simp at h
 | cons x xs ih =>
  intro a
  cases i with
  | zero => simp [mkL28, rd_T28, subL28]
  | succ i =>
   have hi : i < xs.length := by simpa using h
   have := ih i hi (a + 2 * ((1 + sub28 x : Nat) : Int))
   simp only [rd_T28] at this ⊢
   simp only [mkL28, List.getElem_cons_succ, List.take_succ_cons, subL28]
   have e : (((i + 1 : Nat) : Int)).toNat = i + 1 := by omega
   have e2 : ((i : Nat) : Int).toNat = i := by omega
   rw [e, List.getD_cons_succ]
   rw [e2] at this
   rw [this]
   congr 1
   omega
theorem subL28_take_succ (l : List S28) (i : Nat) (h : i < l.length) : subL28 (l.take (i + 1)) = subL28 (l.take i) + 1 + sub28 l[i] := by
 induction l generalizing i with
 | nil => simp at h
 | cons x xs ih =>
  cases i with
  | zero => simp [subL28]
  | succ i =>
   have hi : i < xs.length := by simpa using h
   have := ih i hi
   simp only [List.take_succ_cons, subL28, List.getElem_cons_succ]
   omega
theorem subL28_take_le (l : List S28) (i : Nat) : subL28 (l.take i) ≤ subL28 l := by
 induction l generalizing i with
 | nil => simp
 | cons x xs ih =>
  cases i with
  | zero => simp [subL28]
  | succ i =>
   have := ih i
   simp only [List.take_succ_cons, subL28]
   omega

theorem laws_markExprS_n (n : Nat) : (∀ (l : List S28) (a : Int), subL28 l ≤ n → 0 ≤ a → a + 2 * ((subL28 l : Nat) : Int) ≤ 1000000000000 → Ev (fun k => laws_markExprS.ls k l a) (a + 2 * ((subL28 l : Nat) : Int), mkL28 l a)) ∧ (∀ (l : List S28) (a : Int), subL28 l ≤ n → 0 ≤ a → a + 2 * ((subL28 l : Nat) : Int) ≤ 1000000000000 → Ev (fun k => laws_markExprS.s k l a) (a + 2 * ((subL28 l : Nat) : Int), mkL28 l a)) := by
 induction n with
 | zero =>
  have h1 : ∀ (l : List S28) (a : Int), subL28 l ≤ 0 → 0 ≤ a → a + 2 * ((subL28 l : Nat) : Int) ≤ 1000000000000 → Ev (fun k => laws_markExprS.ls k l a) (a + 2 * ((subL28 l : Nat) : Int), mkL28 l a) := by
   intro l a h _ _
   cases l with
   | nil =>
    apply Ev.succ
    simp only [laws_markExprS.ls]
    exact Ev.ret (by simp [subL28, mkL28])
   | cons x xs => simp only [subL28] at h; omega
  refine ⟨h1, fun l a h h0 hb => ?_⟩
  apply Ev.succ
  simp only [laws_markExprS.s]
  exact h1 l a h h0 hb
 | succ n ih =>
  obtain ⟨ih0, ih1⟩ := ih
  have h1 : ∀ (l : List S28) (a : Int), subL28 l ≤ n + 1 → 0 ≤ a → a + 2 * ((subL28 l : Nat) : Int) ≤ 1000000000000 → Ev (fun k => laws_markExprS.ls k l a) (a + 2 * ((subL28 l : Nat) : Int), mkL28 l a) := by
   intro l a h h0 hb
   cases l with
   | nil =>
    apply Ev.succ
    simp only [laws_markExprS.ls]
    exact Ev.ret (by simp [subL28, mkL28])
   | cons x xs =>
    simp only [subL28] at h hb ⊢
    apply Ev.succ
    simp only [laws_markExprS.ls]
    rw [w64 (n := a + 1) (by omega) (by omega), w64 (n := a + 1 + 1) (by omega) (by omega)]
    have e := sub28_eq x
    have i1 := ih1 x.f2 (a + 1 + 1) (by omega) (by omega) (by omega)
    refine Ev.bind i1 ?_
    have i2 := ih0 xs (a + 1 + 1 + 2 * ((subL28 x.f2 : Nat) : Int)) (by omega) (by omega) (by omega)
    refine Ev.bind i2 (Ev.ret ?_)
    rw [mkL28, mk28_eq, e]
    have e1 : a + 1 + 1 + 2 * ((subL28 x.f2 : Nat) : Int) = a + 2 * ((1 + subL28 x.f2 : Nat) : Int) := by omega
    have e2 : a + 1 + 1 = a + 2 := by omega
    rw [e1, e2]
    simp only [Prod.mk.injEq, and_true]
    omega
  refine ⟨h1, fun l a h h0 hb => ?_⟩
  apply Ev.succ
  simp only [laws_markExprS.s]
  exact h1 l a h h0 hb
theorem laws_markExprS_ev (l : List S28) (a : Int) (h0 : 0 ≤ a) (hb : a + 2 * ((subL28 l : Nat) : Int) ≤ 1000000000000) : Ev (fun k => laws_markExprS.s k l a) (a + 2 * ((subL28 l : Nat) : Int), mkL28 l a) := (laws_markExprS_n (subL28 l)).2 l a (Nat.le_refl _) h0 hb

theorem laws_heldExprS_l (l : List S28) (a : Int) (h0 : 0 ≤ a) (hb : a + 2 * ((subL28 l : Nat) : Int) ≤ 1000000000000) (hl : l.length ≤ 1000000000) (ih : ∀ y ∈ l, ∀ c : Int, 0 ≤ c → c + 2 * ((sub28 y : Nat) : Int) ≤ 1000000000000 → Ev (fun k => laws_heldExprS.f k (mkL28 y.f2 c) c) (c + 2 * ((sub28 y : Nat) : Int))) :
  ∀ (d i : Nat), i + d = l.length → Ev (fun k => laws_heldExprS.l0 k (mkL28 l a) (a + 2 * ((subL28 (l.take i) : Nat) : Int)) i) (a + 2 * ((subL28 l : Nat) : Int)) := by
 intro d
 induction d with
 | zero =>
  intro i hi
  apply Ev.succ
  simp only [laws_heldExprS.l0.eq_2]
  refine Ev.neg (by rw [mkL28_length]; omega) (Ev.ret ?_)
  rw [List.take_of_length_le (by omega)]
 | succ d ihd =>
  intro i hi
  have hlt : i < l.length := by omega
  have s1 := subL28_take_succ l i hlt
  have s2 := subL28_take_le l (i + 1)
  apply Ev.succ
  simp only [laws_heldExprS.l0.eq_2]
  rw [mkL28_get l i hlt a, mk28_eq]
  generalize hc : a + 2 * ((subL28 (l.take i) : Nat) : Int) = c at *
  rw [w64 (n := c + 1) (by omega) (by omega), w64 (n := c + 1 + 1) (by omega) (by omega), w64 (n := (i : Int) + 1) (by omega) (by omega)]
  refine Ev.pos (by rw [mkL28_length]; omega) (Ev.pos (by omega) (Ev.pos rfl (Ev.pos rfl ?_)))
  have i1 := ih l[i] (List.getElem_mem hlt) (c + 1 + 1) (by omega) (by omega)
  have e2 : c + 2 = c + 1 + 1 := by omega
  rw [e2]
  refine Ev.bind i1 (Ev.neg (by omega) ?_)
  have e3 : c + 1 + 1 + 2 * ((sub28 l[i] : Nat) : Int) = a + 2 * ((subL28 (l.take (i + 1)) : Nat) : Int) := by rw [s1]; omega
  rw [e3, show (i : Int) + 1 = ((i + 1 : Nat) : Int) by omega]
  exact ihd (i + 1) (by omega)
theorem laws_heldExprS_x (x : S28) : ∀ c : Int, 0 ≤ c → c + 2 * ((sub28 x : Nat) : Int) ≤ 1000000000000 → sub28 x ≤ 1000000000 → Ev (fun k => laws_heldExprS.f k (mkL28 x.f2 c) c) (c + 2 * ((sub28 x : Nat) : Int)) := by
 induction x using S28.ind with
 | h x ih =>
  intro c h0 hb hs
  have hl := subL28_len x.f2
  rw [sub28_eq] at hb hs ⊢
  apply Ev.succ
  simp only [laws_heldExprS.f.eq_2]
  have := laws_heldExprS_l x.f2 c h0 hb (by omega) (fun y hy c' h1 h2 => ih y hy c' h1 h2 (by have := subL28_mem hy; omega)) x.f2.length 0 (by omega)
  simpa [subL28] using this

theorem laws_heldExpr_ev (x : S28) (p q : Int) (h : sub28 x ≤ 1000000000) : Ev (fun k => laws_heldExpr.f k p q (mkL28 x.f2 1) 1) (1 + 2 * ((sub28 x : Nat) : Int)) := by
 simp only [laws_heldExpr.f]
 exact Ev.bind (laws_heldExprS_x x 1 (by omega) (by omega) h) (Ev.neg (by omega) (Ev.now _))

end Go.Proofs.Ythlagaopjmeaaaa.LemFnExactNegateExpr
