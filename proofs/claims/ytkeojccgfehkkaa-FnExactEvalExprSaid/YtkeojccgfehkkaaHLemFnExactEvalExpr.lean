/- Lemmas: what each function that this statement reaches computes. -/
import Derived.Test.YtkeojccgfehkkaaHOpFnExactEvalExpr
import Derived.Test.YtkeojccgfehkkaaBase
import Derived.Test.YtkeojccgfehkkaaDivM
import Derived.Test.YtkeojccgfehkkaaWordM
set_option linter.unusedVariables false
set_option linter.unusedSimpArgs false
namespace Go.Proofs.Ytkeojccgfehkkaa.LemFnExactEvalExpr
open Go.RowKit Go.Proofs.YtkeojccgfehkkaaW.PrintWords Go.Proofs.YtkeojccgfehkkaaW.PrintLast Go.Proofs.YtkeojccgfehkkaaW.PrintMore Go.Proofs.Ytkeojccgfehkkaa.HFnExactEvalExpr Go.Proofs.Ytkeojccgfehkkaa.Base

theorem S24.ind {P : S24 → Prop} (h : ∀ x : S24, (∀ y ∈ x.f2, P y) → P x) (x : S24) : P x :=
  S24.rec (motive_1 := P) (motive_2 := fun l => ∀ y ∈ l, P y) (fun a b l hl => h ⟨a, b, l⟩ hl) (by simp) (fun y ys h1 h2 => by simp; exact ⟨h1, h2⟩) x
mutual
/-- How many parts an expression has below itself. -/
def sub24 : S24 → Nat
  | ⟨_, _, l⟩ => subL24 l
def subL24 : List S24 → Nat
  | [] => 0
  | x :: xs => 1 + sub24 x + subL24 xs
end
theorem sub24_eq (x : S24) : sub24 x = subL24 x.f2 := by cases x; rfl
theorem subL24_len (l : List S24) : l.length ≤ subL24 l := by
  induction l with
  | nil => simp
  | cons x xs ih => simp only [List.length_cons, subL24]; omega
theorem subL24_mem {l : List S24} {y : S24} (h : y ∈ l) : 1 + sub24 y ≤ subL24 l := by
  induction l with
  | nil => simp at h
  | cons x xs ih =>
    simp only [subL24]
    rcases List.mem_cons.1 h with rfl | h
    · omega
    · have := ih h; omega
theorem rd24_get (xs : List S24) (i : Nat) (h : i < xs.length) : rd_T24 xs (i : Int) = xs[i] := by
  simp [rd_T24, List.getD_eq_getElem?_getD, List.getElem?_eq_getElem h]
theorem subL24_drop (xs : List S24) (i : Nat) (h : i < xs.length) : subL24 (xs.drop i) = 1 + sub24 xs[i] + subL24 (xs.drop (i + 1)) := by
  rw [drop_cons xs i h, subL24]
/-- What 'size' tells of a rest b for n parts. -/
def rest (b : Int) (n : Nat) : Int := if (n : Int) ≤ b then b - n else -1
theorem laws_szExprS_l (l : List S24) (hl : l.length ≤ maxLen) (ih : ∀ y ∈ l, Wf24 y → ∀ b : Int, 0 ≤ b → b ≤ 1048576 → Ev (fun k => laws_szExpr.f k y.f0 y.f1 y.f2 b) (rest b (sub24 y))) (hw : ∀ y ∈ l, Wf24 y) :
    ∀ (d i : Nat) (b : Int), i + d = l.length → 0 ≤ b → b ≤ 1048576 → Ev (fun k => laws_szExprS.l0 k l b i) (rest b (subL24 (l.drop i) - (l.length - i))) := by
  intro d
  unfold maxLen at hl
  induction d with
  | zero =>
    intro i b hi h0 h1
    apply Ev.succ
    simp only [laws_szExprS.l0.eq_2]
    refine Ev.neg (by omega) (Ev.ret ?_)
    rw [List.drop_of_length_le (by omega)]
    simp [rest, subL24, h0]
  | succ d ihd =>
    intro i b hi h0 h1
    have hlt : i < l.length := by omega
    apply Ev.succ
    simp only [laws_szExprS.l0.eq_2]
    refine Ev.pos (by omega) (Ev.pos (by omega) ?_)
    rw [rd24_get l i hlt, w64 (by omega) (by omega)]
    refine Ev.bind (ih _ (List.getElem_mem hlt) (hw _ (List.getElem_mem hlt)) b h0 h1) ?_
    rw [subL24_drop l i hlt]
    have hle := subL24_len (l.drop (i + 1))
    rw [List.length_drop] at hle
    by_cases hb : (sub24 l[i] : Int) ≤ b
    · have e : rest b (sub24 l[i]) = b - sub24 l[i] := if_pos hb
      rw [e]
      refine Ev.neg (by omega) ?_
      refine evTo (ihd (i + 1) _ (by omega) (by omega) (by omega)) ?_
      unfold rest
      by_cases hc : ((subL24 (l.drop (i + 1)) - (l.length - (i + 1)) : Nat) : Int) ≤ b - sub24 l[i]
      · rw [if_pos hc, if_pos (by omega)]; omega
      · rw [if_neg hc, if_neg (by omega)]
    · have e : rest b (sub24 l[i]) = -1 := if_neg hb
      rw [e]
      refine Ev.pos (by omega) (Ev.ret ?_)
      unfold rest
      rw [if_neg (by omega)]
theorem laws_szExprS_ev (l : List S24) (hl : l.length ≤ maxLen) (ih : ∀ y ∈ l, Wf24 y → ∀ b : Int, 0 ≤ b → b ≤ 1048576 → Ev (fun k => laws_szExpr.f k y.f0 y.f1 y.f2 b) (rest b (sub24 y))) (hw : ∀ y ∈ l, Wf24 y) (b : Int) (h0 : 0 ≤ b) (h1 : b ≤ 1048576) :
    Ev (fun k => laws_szExprS.f k l b) (rest b (subL24 l)) := by
  apply Ev.succ
  simp only [laws_szExprS.f.eq_2]
  have hm := hl
  unfold maxLen at hm
  have hle := subL24_len l
  rw [w64 (by omega) (by omega)]
  refine Ev.ite (fun h => Ev.ret ?_) (fun h => ?_)
  · unfold rest; rw [if_neg (by omega)]
  · refine evTo (laws_szExprS_l l hl ih hw l.length 0 _ (by omega) (by omega) (by omega)) ?_
    simp only [List.drop_zero]
    unfold rest
    by_cases hc : (subL24 l : Int) ≤ b
    · rw [if_pos hc, if_pos (by omega)]; omega
    · rw [if_neg hc, if_neg (by omega)]
theorem wf24_parts {x : S24} (h : Wf24 x) : (Lit.int .i64 x.f0).wf = true ∧ (Lit.int .i64 x.f1).wf = true ∧ x.f2.length ≤ maxLen ∧ ∀ y ∈ x.f2, Wf24 y := by
  cases h with
  | mk _ h0 h1 h2 h3 => exact ⟨h0, h1, h2, h3⟩
theorem laws_szExpr_ev : ∀ (x : S24), Wf24 x → ∀ b : Int, 0 ≤ b → b ≤ 1048576 → Ev (fun k => laws_szExpr.f k x.f0 x.f1 x.f2 b) (rest b (sub24 x)) := by
  intro x
  induction x using S24.ind with
  | h x ih =>
  intro hw b h0 h1
  obtain ⟨_, _, hl, hk⟩ := wf24_parts hw
  apply Ev.succ
  simp only [laws_szExpr.f.eq_2]
  refine Ev.bind (laws_szExprS_ev x.f2 hl ih hk b h0 h1) ?_
  rw [sub24_eq]
  refine Ev.ite (fun h => Ev.ret ?_) (fun h => Ev.ret rfl)
  unfold rest at h ⊢
  split at h
  · omega
  · rw [if_neg (by assumption)]

theorem S29.ind {P : S29 → Prop} (h : ∀ x : S29, (∀ y ∈ x.f2, P y) → P x) (x : S29) : P x :=
  S29.rec (motive_1 := P) (motive_2 := fun l => ∀ y ∈ l, P y) (fun a b l hl => h ⟨a, b, l⟩ hl) (by simp) (fun y ys h1 h2 => by simp; exact ⟨h1, h2⟩) x
theorem rd29_get (xs : List S29) (i : Nat) (h : i < xs.length) : rd_T29 xs (i : Int) = xs[i] := by
  simp [rd_T29, List.getD_eq_getElem?_getD, List.getElem?_eq_getElem h]
mutual
/-- An expression of the law as one of the program. -/
def cv : S24 → S29
  | ⟨a, b, l⟩ => ⟨a, b, cvL l⟩
def cvL : List S24 → List S29
  | [] => []
  | x :: xs => cv x :: cvL xs
end
theorem cvL_map (l : List S24) : cvL l = l.map cv := by
  induction l with
  | nil => rfl
  | cons x xs ih => simp [cvL, ih]
theorem cv_f0 (x : S24) : (cv x).f0 = x.f0 := by cases x; rfl
theorem cv_f1 (x : S24) : (cv x).f1 = x.f1 := by cases x; rfl
theorem cv_f2 (x : S24) : (cv x).f2 = cvL x.f2 := by cases x; rfl
mutual
def sub29 : S29 → Nat
  | ⟨_, _, l⟩ => subL29 l
def subL29 : List S29 → Nat
  | [] => 0
  | x :: xs => 1 + sub29 x + subL29 xs
end
theorem sub29_eq (x : S29) : sub29 x = subL29 x.f2 := by cases x; rfl
theorem subL29_len (l : List S29) : l.length ≤ subL29 l := by
  induction l with
  | nil => simp
  | cons x xs ih => simp only [List.length_cons, subL29]; omega
theorem subL29_mem {l : List S29} {y : S29} (h : y ∈ l) : 1 + sub29 y ≤ subL29 l := by
  induction l with
  | nil => simp at h
  | cons x xs ih =>
    simp only [subL29]
    rcases List.mem_cons.1 h with rfl | h
    · omega
    · have := ih h; omega
theorem subL29_drop (xs : List S29) (i : Nat) (h : i < xs.length) : subL29 (xs.drop i) = 1 + sub29 xs[i] + subL29 (xs.drop (i + 1)) := by
  rw [drop_cons xs i h, subL29]
theorem sub_cv (x : S24) : sub29 (cv x) = sub24 x := by
  induction x using S24.ind with
  | h x ih =>
  rw [sub29_eq, cv_f2, sub24_eq]
  generalize x.f2 = l at ih
  induction l with
  | nil => rfl
  | cons y ys ihy =>
    simp only [cvL, subL29, subL24]
    rw [ih y List.mem_cons_self, ihy (fun z hz => ih z (List.mem_cons_of_mem _ hz))]
theorem laws_toExprS_l (l : List S24) (hl : l.length ≤ 1048576) (ih : ∀ y ∈ l, Ev (fun k => laws_toExpr.f k y.f0 y.f1 y.f2) (y.f0, y.f1, cvL y.f2)) :
    ∀ (d i : Nat) (x3 : List S29), i + d = l.length → x3.length = l.length → x3.take i = (l.map cv).take i → Ev (fun k => laws_toExprS.l0 k l x3 i) (l.map cv) := by
  intro d
  induction d with
  | zero =>
    intro i x3 hi hx ht
    apply Ev.succ
    simp only [laws_toExprS.l0.eq_2]
    refine Ev.neg (by omega) (Ev.ret ?_)
    rwa [List.take_of_length_le (by omega), List.take_of_length_le (by simp; omega)] at ht
  | succ d ihd =>
    intro i x3 hi hx ht
    have hlt : i < l.length := by omega
    apply Ev.succ
    simp only [laws_toExprS.l0.eq_2]
    refine Ev.pos (by omega) (Ev.pos (by omega) ?_)
    rw [rd24_get l i hlt, w64 (by omega) (by omega)]
    refine Ev.bind (ih _ (List.getElem_mem hlt)) ?_
    refine Ev.pos (by omega) ?_
    refine ihd (i + 1) _ (by omega) (by simp [hx]) ?_
    rw [take_snoc _ i (by simp; omega), take_snoc _ i (by simp; omega)]
    have e : (⟨l[i].f0, l[i].f1, cvL l[i].f2⟩ : S29) = cv l[i] := by cases l[i]; rfl
    simp [List.take_set_of_le, ht, e]
theorem laws_toExprS_ev (l : List S24) (hl : l.length ≤ 1048576) (ih : ∀ y ∈ l, Ev (fun k => laws_toExpr.f k y.f0 y.f1 y.f2) (y.f0, y.f1, cvL y.f2)) : Ev (fun k => laws_toExprS.f k l) (cvL l) := by
  apply Ev.succ
  simp only [laws_toExprS.f.eq_2]
  rw [cvL_map]
  refine Ev.pos (by omega) (Ev.pos (by omega) ?_)
  exact laws_toExprS_l l hl ih l.length 0 _ (by omega) (by simp) (by simp)
theorem laws_toExpr_ev : ∀ (x : S24), sub24 x ≤ 1048576 → Ev (fun k => laws_toExpr.f k x.f0 x.f1 x.f2) (x.f0, x.f1, cvL x.f2) := by
  intro x
  induction x using S24.ind with
  | h x ih =>
  intro hs
  have hl := subL24_len x.f2
  rw [sub24_eq] at hs
  apply Ev.succ
  simp only [laws_toExpr.f.eq_2]
  refine Ev.bind (laws_toExprS_ev x.f2 (by omega) (fun y hy => ih y hy (by have := subL24_mem hy; omega))) (Ev.ret rfl)

theorem laws_eqExprS_l (l : List S29) (hl : l.length ≤ 1048576) (ih : ∀ y ∈ l, Ev (fun k => laws_eqExpr.f k y.f0 y.f1 y.f2 y.f0 y.f1 y.f2) true) :
    ∀ (d i : Nat), i + d = l.length → Ev (fun k => laws_eqExprS.l0 k l l i) true := by
  intro d
  induction d with
  | zero =>
    intro i hi
    apply Ev.succ
    simp only [laws_eqExprS.l0.eq_2]
    exact Ev.neg (by omega) (Ev.now _)
  | succ d ihd =>
    intro i hi
    have hlt : i < l.length := by omega
    apply Ev.succ
    simp only [laws_eqExprS.l0.eq_2]
    refine Ev.pos (by omega) (Ev.pos (by omega) (Ev.pos (by omega) ?_))
    rw [rd29_get l i hlt, w64 (by omega) (by omega)]
    refine Ev.bind (ih _ (List.getElem_mem hlt)) (Ev.pos rfl ?_)
    exact ihd (i + 1) (by omega)
theorem laws_eqExprS_ev (l : List S29) (hl : l.length ≤ 1048576) (ih : ∀ y ∈ l, Ev (fun k => laws_eqExpr.f k y.f0 y.f1 y.f2 y.f0 y.f1 y.f2) true) : Ev (fun k => laws_eqExprS.f k l l) true := by
  apply Ev.succ
  simp only [laws_eqExprS.f.eq_2]
  exact Ev.pos trivial (laws_eqExprS_l l hl ih l.length 0 (by omega))
theorem laws_eqExpr_ev : ∀ (x : S29), sub29 x ≤ 1048576 → Ev (fun k => laws_eqExpr.f k x.f0 x.f1 x.f2 x.f0 x.f1 x.f2) true := by
  intro x
  induction x using S29.ind with
  | h x ih =>
  intro hs
  have hl := subL29_len x.f2
  rw [sub29_eq] at hs
  apply Ev.succ
  simp only [laws_eqExpr.f.eq_2]
  refine Ev.pos trivial (Ev.pos trivial ?_)
  refine Ev.bind (laws_eqExprS_ev x.f2 (by omega) (fun y hy => ih y hy (by have := subL29_mem hy; omega))) (Ev.pos rfl (Ev.now _))

mutual
/-- How deep an expression is. -/
def dep29 : S29 → Nat
  | ⟨_, _, l⟩ => depL29 l + 1
def depL29 : List S29 → Nat
  | [] => 0
  | x :: xs => max (dep29 x) (depL29 xs)
end
theorem dep29_eq (x : S29) : dep29 x = depL29 x.f2 + 1 := by cases x; rfl
theorem dep29_le (x : S29) : dep29 x ≤ 1 + sub29 x := by
  induction x using S29.ind with
  | h x ih =>
  rw [dep29_eq, sub29_eq]
  generalize x.f2 = l at ih
  suffices h : depL29 l ≤ subL29 l by omega
  induction l with
  | nil => simp [depL29]
  | cons y ys ihy =>
    have h1 := ih y List.mem_cons_self
    have h2 := ihy (fun z hz => ih z (List.mem_cons_of_mem _ hz))
    simp only [depL29, subL29]
    omega
theorem depL29_drop (xs : List S29) (i : Nat) (h : i < xs.length) : depL29 (xs.drop i) = max (dep29 xs[i]) (depL29 (xs.drop (i + 1))) := by
  rw [drop_cons xs i h, depL29]
theorem spec_l10Size_l (l : List S29) (hl : l.length ≤ 1048576) (ih : ∀ y ∈ l, Ev (fun k => spec_l10Size.f k y.f0 y.f1 y.f2) (((1 + sub29 y : Nat) : Int), ((dep29 y : Nat) : Int))) :
    ∀ (d i n m : Nat), i + d = l.length → n + subL29 (l.drop i) ≤ 2097152 → m ≤ 2097152 → (∀ y ∈ l, dep29 y ≤ 2097152) → Ev (fun k => spec_l10Size.l0 k n m l (l.length : Int) i) (((n + subL29 (l.drop i) : Nat) : Int), ((max m (depL29 (l.drop i)) + 1 : Nat) : Int)) := by
  intro d
  induction d with
  | zero =>
    intro i n m hi hn hm hd
    apply Ev.succ
    simp only [spec_l10Size.l0.eq_2]
    refine Ev.neg (by omega) (Ev.ret ?_)
    rw [List.drop_of_length_le (by omega), w64 (by omega) (by omega)]
    simp [subL29, depL29]
  | succ d ihd =>
    intro i n m hi hn hm hd
    have hlt : i < l.length := by omega
    apply Ev.succ
    simp only [spec_l10Size.l0.eq_2]
    refine Ev.pos (by omega) (Ev.pos (by omega) (Ev.pos (by omega) ?_))
    rw [rd29_get l i hlt]
    refine Ev.bind (ih _ (List.getElem_mem hlt)) ?_
    rw [subL29_drop l i hlt] at hn ⊢
    rw [depL29_drop l i hlt]
    have h1 := hd _ (List.getElem_mem hlt)
    rw [w64 (n := (i : Int) + 1) (by omega) (by omega), w64 (by omega) (by omega)]
    have e1 : (n : Int) + ((1 + sub29 l[i] : Nat) : Int) = ((n + (1 + sub29 l[i]) : Nat) : Int) := by omega
    have e2 : mx (m : Int) (dep29 l[i]) = ((max m (dep29 l[i]) : Nat) : Int) := by simp only [mx]; split <;> omega
    simp only [e1, e2]
    refine evTo (ihd (i + 1) _ _ (by omega) (by omega) (by omega) hd) ?_
    rw [Nat.max_assoc, Nat.add_assoc]
theorem spec_l10Size_ev : ∀ (x : S29), sub29 x ≤ 1048576 → Ev (fun k => spec_l10Size.f k x.f0 x.f1 x.f2) (((1 + sub29 x : Nat) : Int), ((dep29 x : Nat) : Int)) := by
  intro x
  induction x using S29.ind with
  | h x ih =>
  intro hs
  have hl := subL29_len x.f2
  rw [sub29_eq] at hs ⊢
  rw [dep29_eq]
  apply Ev.succ
  simp only [spec_l10Size.f.eq_2]
  have := spec_l10Size_l x.f2 (by omega) (fun y hy => ih y hy (by have := subL29_mem hy; omega)) x.f2.length 0 1 0 (by omega) (by simp only [List.drop_zero]; omega) (by omega) (fun y hy => by have := subL29_mem hy; have := dep29_le y; omega)
  simpa using this

theorem spec_l1In_eq (a b c : Int) : spec_l1In.f a b c = some (decide (b ≤ a ∧ a ≤ c)) := by
  unfold spec_l1In.f
  by_cases h : b ≤ a
  · rw [if_pos (by omega)]; simp [h]
  · rw [if_neg (by omega)]; simp [h]

theorem spec_LimitOf_l (n : Nat) (hn : n ≤ 30) : ∀ (d i : Nat), i + d = n → Ev (fun k => spec_LimitOf.l0 k n (((3 : Int) ^ i - 1) / 2) i) (((3 : Int) ^ n - 1) / 2) := by
  intro d
  induction d with
  | zero =>
    intro i hi
    apply Ev.succ
    simp only [spec_LimitOf.l0.eq_2]
    refine Ev.neg (by omega) (Ev.ret ?_)
    rw [← hi]; rfl
  | succ d ih =>
    intro i hi
    apply Ev.succ
    simp only [spec_LimitOf.l0.eq_2]
    have h1 := pow3_30 (i := i + 1) (by omega)
    have h2 := pow3_pos i
    have h3 := pow3_lim i
    have h4 := pow3_lim (i + 1)
    rw [pow3_succ] at h1 h4
    refine Ev.pos (by omega) ?_
    rw [w64 (n := _ * _) (by omega) (by omega), w64 (by omega) (by omega), w64 (by omega) (by omega)]
    refine (ih (i + 1) (by omega)).congr (fun k => ?_)
    refine congrArg (fun z => spec_LimitOf.l0 k n z _) ?_
    rw [pow3_succ]; omega
theorem spec_LimitOf_ev (n : Int) : Ev (fun k => spec_LimitOf.f k n) (lim n) := by
  simp only [spec_LimitOf.f, spec_l1In_eq, Option.bind_some, decide_eq_true_eq]
  unfold lim
  refine Ev.ite (fun h => ?_) (fun h => Ev.ret (by rw [if_neg h]))
  obtain ⟨m, rfl⟩ : ∃ m : Nat, n = m := ⟨n.toNat, by omega⟩
  rw [if_pos h]
  exact spec_LimitOf_l m (by omega) m 0 (by omega)

/-- How many parts an operation takes. -/
def arity (a : Int) : Int := if a = 1 then 0 else if a = 2 ∨ a = 3 then 1 else 2
def nodeOk (a b : Int) (n : Nat) : Bool := decide ((1 ≤ a ∧ a ≤ 8) ∧ (n : Int) = arity a ∧ (a = 1 ∨ b = 0) ∧ 0 ≤ b ∧ b ≤ lim 30)
mutual
/-- An expression's shape is right. -/
def shp29 : S29 → Bool
  | ⟨a, b, l⟩ => nodeOk a b l.length && shpL29 l
def shpL29 : List S29 → Bool
  | [] => true
  | x :: xs => shp29 x && shpL29 xs
end
theorem shp29_eq (x : S29) : shp29 x = (nodeOk x.f0 x.f1 x.f2.length && shpL29 x.f2) := by cases x; rfl
theorem shpL29_drop (xs : List S29) (i : Nat) (h : i < xs.length) : shpL29 (xs.drop i) = (shp29 xs[i] && shpL29 (xs.drop (i + 1))) := by
  rw [drop_cons xs i h, shpL29]
theorem spec_l10Shape_l (l : List S29) (hl : l.length ≤ 1048576) (ih : ∀ y ∈ l, Ev (fun k => spec_l10Shape.f k y.f0 y.f1 y.f2) (shp29 y)) :
    ∀ (d i : Nat), i + d = l.length → Ev (fun k => spec_l10Shape.l0 k l (l.length : Int) i) (shpL29 (l.drop i)) := by
  intro d
  induction d with
  | zero =>
    intro i hi
    apply Ev.succ
    simp only [spec_l10Shape.l0.eq_2]
    refine Ev.neg (by omega) (Ev.ret ?_)
    rw [List.drop_of_length_le (by omega)]; rfl
  | succ d ihd =>
    intro i hi
    have hlt : i < l.length := by omega
    apply Ev.succ
    simp only [spec_l10Shape.l0.eq_2]
    refine Ev.pos (by omega) (Ev.pos (by omega) (Ev.pos (by omega) ?_))
    rw [rd29_get l i hlt, w64 (by omega) (by omega), shpL29_drop l i hlt]
    refine Ev.bind (ih _ (List.getElem_mem hlt)) ?_
    refine Ev.ite (fun h => ?_) (fun h => Ev.ret ?_)
    · rw [h, Bool.true_and]; exact ihd (i + 1) (by omega)
    · simp at h; simp [h]
theorem spec_l10Shape_ev : ∀ (x : S29), sub29 x ≤ 1048576 → Ev (fun k => spec_l10Shape.f k x.f0 x.f1 x.f2) (shp29 x) := by
  intro x
  induction x using S29.ind with
  | h x ih =>
  intro hs
  have hl := subL29_len x.f2
  rw [sub29_eq] at hs
  have hL : Ev (fun k => spec_l10Shape.l0 k x.f2 (x.f2.length : Int) 0) (shpL29 x.f2) := by
    have := spec_l10Shape_l x.f2 (by omega) (fun y hy => ih y hy (by have := subL29_mem hy; omega)) x.f2.length 0 (by omega)
    simpa using this
  have hlim : lim 30 = 102945566047324 := by rfl
  have j1 : ∀ b : Bool, Ev (fun k => spec_l10Shape.j1 k b x.f0 x.f1 x.f2) (!b && shpL29 x.f2) := by
    intro b
    apply Ev.succ
    simp only [spec_l10Shape.j1.eq_2]
    cases b
    · refine Ev.neg (by simp) ?_; simpa using hL
    · exact Ev.pos rfl (Ev.ret (by simp))
  have j0 : Ev (fun k => spec_l10Shape.j0 k (arity x.f0) x.f0 x.f1 x.f2) (shp29 x) := by
    apply Ev.succ
    simp only [spec_l10Shape.j0.eq_2]
    simp only [spec_l1In_eq, Option.bind_some, decide_eq_true_eq]
    rw [shp29_eq]
    refine Ev.ite (fun h1 => ?_) (fun h1 => ?_)
    · refine Ev.ite (fun h2 => ?_) (fun h2 => ?_)
      · refine Ev.ite (fun h3 => ?_) (fun h3 => ?_)
        · have h5 : x.f0 ≠ 1 := by intro h; rw [h] at h3; simp [arity] at h3
          refine Ev.ite (fun h4 => ?_) (fun h4 => ?_)
          · refine Ev.bind (spec_LimitOf_ev 30) (evTo (j1 _) ?_)
            simp [nodeOk, h1, h2, h4]
          · refine evTo (j1 _) ?_
            simp [nodeOk, h5, h4]
        · have h5 : x.f0 = 1 := by
            unfold arity at h3
            split at h3
            · assumption
            · split at h3 <;> omega
          refine Ev.bind (spec_LimitOf_ev 30) (evTo (j1 _) ?_)
          rw [h5] at h2
          simp [nodeOk, h5, h2]
      · refine evTo (j1 _) ?_
        simp [nodeOk, h2]
    · refine evTo (j1 _) ?_
      simp [nodeOk, h1]
  apply Ev.succ
  simp only [spec_l10Shape.f.eq_2]
  refine Ev.ite (fun h => ?_) (fun h => Ev.ite (fun h' => ?_) (fun h' => Ev.ite (fun h'' => ?_) (fun h'' => ?_)))
  · rw [show arity x.f0 = 0 by simp [arity, h]] at j0; exact j0
  · rw [show arity x.f0 = 1 by simp [arity, h']] at j0; exact j0
  · rw [show arity x.f0 = 1 by simp [arity, h'']] at j0; exact j0
  · rw [show arity x.f0 = 2 by simp [arity, h, h', h'']] at j0; exact j0

/-- An expression that both take. -/
def isE (x : S29) : Bool := decide (1 + sub29 x ≤ 60 ∧ dep29 x ≤ 12) && shp29 x
theorem spec_IsExpr_ev (x : S29) (hs : sub29 x ≤ 1048576) : Ev (fun k => spec_IsExpr.f k x.f0 x.f1 x.f2) (isE x) := by
  simp only [spec_IsExpr.f]
  refine Ev.bind (spec_l10Size_ev x hs) ?_
  unfold isE
  refine Ev.ite (fun h1 => Ev.ite (fun h2 => Ev.bind (spec_l10Shape_ev x hs) (Ev.ret ?_)) (fun h2 => Ev.ret ?_)) (fun h1 => Ev.ret ?_)
  · rw [decide_eq_true (by omega), Bool.true_and]
  · rw [decide_eq_false (by omega), Bool.false_and]
  · rw [decide_eq_false (by omega), Bool.false_and]

theorem spec_l4Abs_eq (d : Int) (h0 : -1000000000000000000 ≤ d) (h1 : d ≤ 1000000000000000000) : spec_l4Abs.f d = some (if d < 0 then -d else d) := by
  unfold spec_l4Abs.f mx
  rw [w64 (by omega) (by omega)]
  refine congrArg some ?_
  split <;> split <;> omega

theorem spec_SignOf_eq (n : Int) : spec_SignOf.f n = some (sgn n) := by
  unfold spec_SignOf.f sgn
  by_cases h : n < 0
  · rw [if_pos h, if_pos h]
  · rw [if_neg h, if_neg h]
    by_cases h1 : n > 0
    · rw [if_pos h1, if_pos h1]
    · rw [if_neg h1, if_neg h1]

theorem spec_l4Divide_ev (a d : Int) (ha : -1000000000000000 ≤ a ∧ a ≤ 1000000000000000) (hd : -1000000000000000 ≤ d ∧ d ≤ 1000000000000000) (h0 : d ≠ 0) : Ev (fun k => spec_l4Divide.f k a d) (Int.tdiv (a - divr a d) d, divr a d) := by
  simp only [spec_l4Divide.f]
  refine Ev.neg h0 ?_
  have hab := spec_l4Abs_eq d (by omega) (by omega)
  have hsg := spec_SignOf_eq d
  have hsm := sgn_mul d h0
  have htm := tmod_abs a d
  have hdv := Int.tmod_add_mul_tdiv a d
  generalize hS : (if d < 0 then -d else d) = s at *
  have hs1 : 0 < s := by split at hS <;> omega
  have hs2 : s ≤ 1000000000000000 := by split at hS <;> omega
  have h1 := Int.tmod_lt_of_pos a hs1
  have h2 : -s < Int.tmod a s := by
    have := Int.tmod_lt_of_pos (-a) hs1
    rw [Int.neg_tmod] at this; omega
  have hq := Int.natAbs_tdiv_le_natAbs a d
  rw [divr_eq a d s _ hS rfl]
  rw [← htm] at hdv
  have hg : -1 ≤ sgn d ∧ sgn d ≤ 1 := by unfold sgn; split <;> (try split) <;> omega
  generalize Int.tmod a s = r at *
  generalize hQ : Int.tdiv a d = q at *
  rw [w64 (n := q) (by omega) (by omega), Int.mul_comm q d, w64 (n := d * q) (by omega) (by omega), w64 (n := a - d * q) (by omega) (by omega), show a - d * q = r by omega]
  have stop1 : ∀ q' r', -s < 2 * r' → 2 * r' ≤ 4000000000000000 → Ev (fun k => spec_l4Divide.l1 k d q' r') (q', r') := by
    intro q' r' g1 g2
    apply Ev.succ
    simp only [spec_l4Divide.l1.eq_2, hab, Option.bind_some]
    refine Ev.neg ?_ (Ev.now _)
    rw [w64 (by omega) (by omega), w64 (by omega) (by omega)]; omega
  have stop0 : ∀ q' r', 2 * r' ≤ s → -4000000000000000 ≤ 2 * r' → ∀ z, Ev (fun k => spec_l4Divide.l1 k d q' r') z → Ev (fun k => spec_l4Divide.l0 k d q' r') z := by
    intro q' r' g1 g2 z hz
    apply Ev.succ
    simp only [spec_l4Divide.l0.eq_2, hab, Option.bind_some]
    refine Ev.neg ?_ hz
    rw [w64 (by omega) (by omega)]; omega
  by_cases c1 : 2 * r > s
  · rw [if_pos c1]
    apply Ev.succ
    simp only [spec_l4Divide.l0.eq_2, hab, hsg, Option.bind_some]
    refine Ev.pos (by rw [w64 (by omega) (by omega)]; omega) ?_
    rw [w64 (by omega) (by omega), w64 (by omega) (by omega)]
    refine evTo (stop0 _ _ (by omega) (by omega) _ (stop1 _ _ (by omega) (by omega))) ?_
    rw [divq a d h0 (q + sgn d) (r - s) (by rw [Int.mul_add]; omega)]
  · rw [if_neg c1]
    by_cases c2 : 2 * r ≤ -s
    · rw [if_pos c2]
      refine stop0 _ _ (by omega) (by omega) _ ?_
      apply Ev.succ
      simp only [spec_l4Divide.l1.eq_2, hab, hsg, Option.bind_some]
      refine Ev.pos (by rw [w64 (by omega) (by omega), w64 (by omega) (by omega)]; omega) ?_
      rw [w64 (by omega) (by omega), w64 (by omega) (by omega)]
      refine evTo (stop1 _ _ (by omega) (by omega)) ?_
      rw [divq a d h0 (q - sgn d) (r + s) (by rw [Int.mul_sub]; omega)]
    · rw [if_neg c2]
      refine evTo (stop0 _ _ (by omega) (by omega) _ (stop1 _ _ (by omega) (by omega))) ?_
      rw [divq a d h0 q r (by omega)]

theorem spec_LengthOf_l (n : Int) : ∀ (d i : Nat), i + d = 31 → Ev (fun k => spec_LengthOf.l0 k n i) (lenFrom n i d) := by
  intro d
  induction d with
  | zero =>
    intro i hi
    apply Ev.succ
    simp only [spec_LengthOf.l0.eq_2]
    exact Ev.neg (by omega) (Ev.now _)
  | succ d ih =>
    intro i hi
    apply Ev.succ
    simp only [spec_LengthOf.l0.eq_2]
    rw [lenFrom]
    have h1 := lim_nonneg i
    have h2 := lim_le i
    refine Ev.pos (by omega) (Ev.bind (spec_LimitOf_ev i) (Ev.bind (spec_LimitOf_ev i) ?_))
    rw [w64 (n := -lim i) (by omega) (by omega)]
    refine Ev.bindc (spec_l1In_eq _ _ _) ?_
    refine Ev.ite (fun c => ?_) (fun c => ?_)
    · rw [if_pos (show fitsB n i = true from c)]; exact Ev.now _
    · rw [if_neg (show ¬ fitsB n i = true from c), w64 (by omega) (by omega)]
      exact ih (i + 1) (by omega)
theorem spec_LengthOf_ev (n : Int) : Ev (fun k => spec_LengthOf.f k n) (lenOf n) := by
  simp only [spec_LengthOf.f]
  exact spec_LengthOf_l n 30 1 (by omega)

/-- A value that must be one of a word of 30 trits. -/
def resV (v : Int) : Int × Bool := (v, fitsB v 30)
def absI (x : Int) : Int := if x < 0 then -x else x
/-- What an operation makes of its parts' values. -/
def comb (a b : Int) (xs : List Int) : Int × Bool :=
  if a = 2 then resV (rd xs 0) else if a = 3 then resV (-(rd xs 0)) else if a = 4 then resV (rd xs 0 + rd xs 1) else if a = 5 then resV (rd xs 0 - rd xs 1)
  else if a = 6 then (if rd xs 0 = 0 then resV (rd xs 0 * rd xs 1) else if absI (rd xs 1) > Int.tdiv (lim 30) (absI (rd xs 0)) then (0, false) else resV (rd xs 0 * rd xs 1))
  else if a = 7 ∨ a = 8 then (if rd xs 1 = 0 then (0, false) else if a = 8 then resV (divr (rd xs 0) (rd xs 1)) else resV (Int.tdiv (rd xs 0 - divr (rd xs 0) (rd xs 1)) (rd xs 1)))
  else resV b
mutual
/-- An expression's value, and whether it has one. -/
def ev29 : S29 → Int × Bool
  | ⟨a, b, l⟩ => match evL29 l with
    | none => (0, false)
    | some xs => comb a b xs
def evL29 : List S29 → Option (List Int)
  | [] => some []
  | x :: xs => if (ev29 x).2 = true then (evL29 xs).map (fun ys => (ev29 x).1 :: ys) else none
end
def combO (a b : Int) : Option (List Int) → Int × Bool
  | none => (0, false)
  | some xs => comb a b xs
theorem ev29_eq (x : S29) : ev29 x = combO x.f0 x.f1 (evL29 x.f2) := by
  cases x; rw [ev29]; unfold combO; rfl
theorem evL29_drop (xs : List S29) (i : Nat) (h : i < xs.length) : evL29 (xs.drop i) = if (ev29 xs[i]).2 = true then (evL29 (xs.drop (i + 1))).map (fun ys => (ev29 xs[i]).1 :: ys) else none := by
  rw [drop_cons xs i h, evL29]
/-- The values so far, with those that come. -/
def accO (acc : List Int) (o : Option (List Int)) : Option (List Int) := o.map (fun ys => acc ++ ys)
theorem lim30 : lim 30 = 102945566047324 := by rfl
def inL (v : Int) : Prop := -102945566047324 ≤ v ∧ v ≤ 102945566047324
theorem fits_inL {v : Int} (h : fitsB v 30 = true) : inL v := by
  unfold fitsB at h; rw [lim30] at h; simpa [inL] using h
theorem resV_ok (v : Int) (h : (resV v).2 = true) : inL (resV v).1 := fits_inL h
theorem comb_form (a b : Int) (xs : List Int) : (∃ v, comb a b xs = resV v) ∨ comb a b xs = (0, false) := by
  unfold comb
  repeat' split
  all_goals first | exact .inl ⟨_, rfl⟩ | exact .inr rfl
theorem comb_ok (a b : Int) (xs : List Int) (h : (comb a b xs).2 = true) : inL (comb a b xs).1 := by
  rcases comb_form a b xs with ⟨v, e⟩ | e
  · rw [e] at h ⊢; exact resV_ok _ h
  · rw [e] at h; simp at h
theorem ev29_ok (x : S29) (h : (ev29 x).2 = true) : inL (ev29 x).1 := by
  rw [ev29_eq] at h ⊢
  unfold combO at h ⊢
  split
  · rename_i e; rw [e] at h; simp at h
  · rename_i e; rw [e] at h; exact comb_ok _ _ _ h
theorem mul_le_of_tdiv (x y : Int) (hx : inL x) (hy : inL y) (h0 : x ≠ 0) (h : ¬ absI y > Int.tdiv (lim 30) (absI x)) : inL (x * y) := by
  rw [lim30] at h
  have hp : 0 < absI x := by unfold absI; split <;> omega
  rw [Int.tdiv_eq_ediv_of_nonneg (by omega)] at h
  have h1 : absI y * absI x ≤ 102945566047324 := (Int.le_ediv_iff_mul_le hp).1 (by omega)
  have h2 : x * y = absI y * absI x ∨ x * y = -(absI y * absI x) := by
    unfold absI
    split <;> split
    · left; rw [Int.neg_mul_neg, Int.mul_comm]
    · right; rw [Int.neg_mul, Int.neg_neg, Int.mul_comm]
    · right; rw [Int.mul_neg, Int.neg_neg, Int.mul_comm]
    · left; rw [Int.mul_comm]
  have h3 : 0 ≤ absI y * absI x := Int.mul_nonneg (by unfold absI; split <;> omega) (by omega)
  unfold inL
  rcases h2 with e | e <;> rw [e] <;> omega
theorem tdiv_inL {a d : Int} (ha : inL a) (hd : inL d) : -400000000000000 ≤ Int.tdiv (a - divr a d) d ∧ Int.tdiv (a - divr a d) d ≤ 400000000000000 := by
  have h := Int.natAbs_tdiv_le_natAbs (a - divr a d) d
  have : -205891132094648 ≤ divr a d ∧ divr a d ≤ 205891132094648 := by
    have e := divr_eq a d _ _ rfl rfl
    unfold inL at ha hd
    by_cases h0 : d = 0
    · subst h0; simp at e; omega
    · have hs1 : 0 < (if d < 0 then -d else d) := by split <;> omega
      have h1 := Int.tmod_lt_of_pos a hs1
      have h2 : -(if d < 0 then -d else d) < Int.tmod a (if d < 0 then -d else d) := by
        have := Int.tmod_lt_of_pos (-a) hs1
        rw [Int.neg_tmod] at this; omega
      rw [e]
      generalize Int.tmod a (if d < 0 then -d else d) = r at *
      split at h1 <;> split <;> (try split) <;> omega
  unfold inL at ha
  omega
theorem lenV (v : Int) : Ev (fun k => (spec_LengthOf.f k v).bind fun t => some (v, decide (t > 0))) (resV v) := by
  refine Ev.bind (spec_LengthOf_ev v) (Ev.ret ?_)
  rw [lenOf_fits]; rfl
theorem rd01 (xs : List Int) (h : ∀ v ∈ xs, inL v) (i : Int) (h0 : 0 ≤ i) (h1 : i < xs.length) : inL (rd xs i) := h _ (rd_mem h0 h1)
theorem shpL29_mem {l : List S29} (h : shpL29 l = true) {y : S29} (hy : y ∈ l) : shp29 y = true := by
  induction l with
  | nil => simp at hy
  | cons x xs ih =>
    rw [shpL29, Bool.and_eq_true] at h
    rcases List.mem_cons.1 hy with rfl | hy
    · exact h.1
    · exact ih h.2 hy
theorem spec_l10Value_l (l l' : List S29) (a b : Int) (ha : (1 ≤ a ∧ a ≤ 8) ∧ (l.length : Int) = arity a) (hl : l.length ≤ 1048576) (ih : ∀ y ∈ l, Ev (fun k => spec_l10Value.f k y.f0 y.f1 y.f2) (ev29 y)) :
    ∀ (d i : Nat) (acc : List Int), i + d = l.length → acc.length = i → (∀ v ∈ acc, inL v) → Ev (fun k => spec_l10Value.l0 k acc l (l.length : Int) i a b l') (combO a b (accO acc (evL29 (l.drop i)))) := by
  intro d
  induction d with
  | zero =>
    intro i acc hi hacc hv
    apply Ev.succ
    simp only [spec_l10Value.l0.eq_2]
    refine Ev.neg (by omega) ?_
    rw [List.drop_of_length_le (by omega)]
    have e : combO a b (accO acc (evL29 [])) = comb a b acc := by simp [evL29, accO, combO]
    rw [e]
    have r0 : 1 ≤ acc.length → inL (rd acc 0) := fun h => rd01 acc hv 0 (by omega) (by omega)
    have r1 : 2 ≤ acc.length → inL (rd acc 1) := fun h => rd01 acc hv 1 (by omega) (by omega)
    have hal : (acc.length : Int) = arity a := by omega
    unfold comb
    obtain ⟨x, hX⟩ : ∃ x, rd acc 0 = x := ⟨_, rfl⟩
    obtain ⟨y, hY⟩ : ∃ y, rd acc 1 = y := ⟨_, rfl⟩
    simp only [hX, hY] at r0 r1 ⊢
    obtain ⟨h18, _⟩ := ha
    unfold arity at hal
    refine Ev.ite (fun c => ?_) (fun c2 => ?_)
    · rw [if_pos c, if_neg (by omega), if_pos (by omega)] at *
      exact Ev.pos (by omega) (lenV x)
    · rw [if_neg c2]
      refine Ev.ite (fun c => ?_) (fun c3 => ?_)
      · rw [if_pos c]
        rw [if_neg (by omega), if_pos (by omega)] at hal
        have := r0 (by omega)
        unfold inL at this
        rw [w64 (by omega) (by omega)]
        exact Ev.pos (by omega) (lenV _)
      · rw [if_neg c3]
        rw [if_neg (by omega : ¬ (a = 2 ∨ a = 3))] at hal
        by_cases ca : a = 1
        · rw [if_pos ca] at hal
          refine Ev.neg (by omega) (Ev.neg (by omega) (Ev.neg (by omega) (Ev.neg (by omega) ?_)))
          rw [if_neg (by omega), if_neg (by omega), if_neg (by omega), if_neg (by omega)]
          apply Ev.succ
          simp only [spec_l10Value.j1.eq_2]
          exact Ev.neg (by simp; omega) (lenV b)
        · rw [if_neg ca] at hal
          have h0 := r0 (by omega)
          have h1 := r1 (by omega)
          have hx := h0
          have hy := h1
          unfold inL at h0 h1
          refine Ev.ite (fun c => ?_) (fun c4 => ?_)
          · rw [if_pos c]
            rw [w64 (by omega) (by omega)]
            exact Ev.pos (by omega) (Ev.pos (by omega) (lenV _))
          · rw [if_neg c4]
            refine Ev.ite (fun c => ?_) (fun c5 => ?_)
            · rw [if_pos c]
              rw [w64 (by omega) (by omega)]
              exact Ev.pos (by omega) (Ev.pos (by omega) (lenV _))
            · rw [if_neg c5]
              refine Ev.ite (fun c => ?_) (fun c6 => ?_)
              · rw [if_pos c]
                refine Ev.pos (by omega) (Ev.ite (fun cx => ?_) (fun cx => ?_))
                · rw [if_pos cx, cx, Int.zero_mul, w64 (by omega) (by omega)]
                  exact Ev.pos (by omega) (lenV _)
                · rw [if_neg cx]
                  refine Ev.pos (by omega) (Ev.bindc (spec_l4Abs_eq y (by omega) (by omega)) (Ev.bind (spec_LimitOf_ev 30) (Ev.bindc (spec_l4Abs_eq x (by omega) (by omega)) ?_)))
                  have hax : (if x < 0 then -x else x) ≠ 0 := by split <;> omega
                  refine Ev.neg hax ?_
                  have hw : wrap64 (Int.tdiv (lim 30) (if x < 0 then -x else x)) = Int.tdiv (lim 30) (absI x) := by
                    have := Int.natAbs_tdiv_le_natAbs (lim 30) (absI x)
                    rw [lim30] at *
                    exact w64 (by unfold absI at this; omega) (by unfold absI at this; omega)
                  rw [hw]
                  refine Ev.ite (fun cy => ?_) (fun cy => ?_)
                  · rw [if_pos (show absI y > _ from cy)]; exact Ev.now _
                  · rw [if_neg (show ¬ absI y > _ from cy)]
                    have := mul_le_of_tdiv x y hx hy cx cy
                    unfold inL at this
                    rw [w64 (by omega) (by omega)]
                    exact lenV _
              · rw [if_neg c6]
                have h78 : a = 7 ∨ a = 8 := by omega
                rw [if_pos h78]
                have j1 : Ev (fun k => spec_l10Value.j1 k acc b true a b l') (if y = 0 then (0, false) else if a = 8 then resV (divr x y) else resV (Int.tdiv (x - divr x y) y)) := by
                  apply Ev.succ
                  simp only [spec_l10Value.j1.eq_2, hX, hY]
                  refine Ev.pos trivial (Ev.pos (by omega) (Ev.ite (fun cy => ?_) (fun cy => ?_)))
                  · rw [if_pos cy]; exact Ev.now _
                  · rw [if_neg cy]
                    refine Ev.pos (by omega) (Ev.bind (spec_l4Divide_ev x y (by omega) (by omega) cy) ?_)
                    refine Ev.ite (fun c8 => ?_) (fun c8 => ?_)
                    · rw [if_pos c8]; exact lenV _
                    · rw [if_neg c8]; exact lenV _
                refine Ev.ite (fun c => ?_) (fun c7 => ?_)
                · rw [show (a == 7) = true by simp [c]]; exact j1
                · rw [show (a == 8) = true by simp; omega]; exact j1
  | succ d ihd =>
    intro i acc hi hacc hv
    have hlt : i < l.length := by omega
    apply Ev.succ
    simp only [spec_l10Value.l0.eq_2]
    refine Ev.pos (by omega) (Ev.pos (by omega) (Ev.pos (by omega) ?_))
    rw [rd29_get l i hlt, w64 (by omega) (by omega), evL29_drop l i hlt]
    refine Ev.bind (ih _ (List.getElem_mem hlt)) ?_
    refine Ev.ite (fun h => ?_) (fun h => ?_)
    · rw [if_pos h]
      refine Ev.pos (by omega) ?_
      refine evTo (ihd (i + 1) (acc ++ [(ev29 l[i]).1]) (by omega) (by simp [hacc]) ?_) ?_
      · intro v hv'
        rw [List.mem_append, List.mem_singleton] at hv'
        rcases hv' with h' | rfl
        · exact hv v h'
        · exact ev29_ok _ h
      · cases evL29 (l.drop (i + 1)) <;> simp [accO]
    · rw [if_neg h]; exact Ev.now _
theorem spec_l10Value_ev : ∀ (x : S29), sub29 x ≤ 1048576 → shp29 x = true → Ev (fun k => spec_l10Value.f k x.f0 x.f1 x.f2) (ev29 x) := by
  intro x
  induction x using S29.ind with
  | h x ih =>
  intro hs hsh
  have hl := subL29_len x.f2
  rw [sub29_eq] at hs
  rw [shp29_eq, Bool.and_eq_true] at hsh
  obtain ⟨hn, hk⟩ := hsh
  unfold nodeOk at hn
  rw [decide_eq_true_eq] at hn
  apply Ev.succ
  simp only [spec_l10Value.f.eq_2]
  refine evTo (spec_l10Value_l x.f2 x.f2 x.f0 x.f1 ⟨hn.1, hn.2.1⟩ (by omega) (fun y hy => ih y hy (by have := subL29_mem hy; omega) (shpL29_mem hk hy)) x.f2.length 0 [] (by omega) rfl (by simp)) ?_
  rw [ev29_eq, List.drop_zero]
  cases evL29 x.f2 <;> simp [accO]

/-- What both say of an expression. -/
def evE (x : S29) : Int × Bool := if isE x = true then (if (ev29 x).2 = true then ((ev29 x).1, true) else (0, false)) else (0, false)
theorem isE_shp {x : S29} (h : isE x = true) : shp29 x = true := by
  unfold isE at h; rw [Bool.and_eq_true] at h; exact h.2
theorem spec_EvalExpr_ev (x : S29) (hs : sub29 x ≤ 1048576) : Ev (fun k => spec_EvalExpr.f k x.f0 x.f1 x.f2) (evE x) := by
  simp only [spec_EvalExpr.f]
  refine Ev.bind (spec_IsExpr_ev x hs) ?_
  unfold evE
  refine Ev.ite (fun h => ?_) (fun h => ?_)
  · rw [if_pos h]
    refine Ev.bind (spec_l10Value_ev x hs (isE_shp h)) ?_
    refine Ev.ite (fun h' => Ev.ret (by rw [if_pos h'])) (fun h' => Ev.ret (by rw [if_neg h']))
  · exact Ev.ret (by rw [if_neg h])

def kids (a : Int) : Int := if a = 1 then 0 else if a = 2 ∨ a = 3 then 1 else if 4 ≤ a ∧ a ≤ 8 then 2 else -1
theorem impl_kids_ev (a : Int) : Ev (fun k => impl_kids.f k a) (kids a) := by
  have j0 : ∀ b : Bool, Ev (fun k => impl_kids.j0 k a b) (if b = true then 1 else if 4 ≤ a ∧ a ≤ 8 then 2 else -1) := by
    intro b
    apply Ev.succ
    simp only [impl_kids.j0.eq_2]
    refine Ev.ite (fun h => Ev.ret (by rw [if_pos h])) (fun h => ?_)
    rw [if_neg h]
    refine Ev.ite (fun _ => Ev.ret (by rw [if_pos (by omega)])) (fun _ => Ev.ite (fun _ => Ev.ret (by rw [if_pos (by omega)])) (fun _ => Ev.ite (fun _ => Ev.ret (by rw [if_pos (by omega)])) (fun _ => Ev.ite (fun _ => Ev.ret (by rw [if_pos (by omega)])) (fun _ => Ev.ite (fun _ => Ev.ret (by rw [if_pos (by omega)])) (fun _ => Ev.ret (by rw [if_neg (by omega)]))))))
  simp only [impl_kids.f]
  unfold kids
  refine Ev.ite (fun h => Ev.ret (by rw [if_pos h])) (fun h => ?_)
  rw [if_neg h]
  refine Ev.ite (fun h' => evTo (j0 _) ?_) (fun h' => evTo (j0 _) ?_)
  · simp [h']
  · simp [h']

theorem impl_power_l (n : Nat) (hn : n ≤ 30) : ∀ (d i : Nat), i + d = n → Ev (fun k => impl_power.l0 k ((3 : Int) ^ i) n i) ((3 : Int) ^ n) := by
  intro d
  induction d with
  | zero =>
    intro i hi
    apply Ev.succ
    simp only [impl_power.l0.eq_2]
    refine Ev.neg (by omega) (Ev.ret ?_)
    rw [← hi]; rfl
  | succ d ih =>
    intro i hi
    apply Ev.succ
    simp only [impl_power.l0.eq_2]
    have h1 := pow3_30 (i := i + 1) (by omega)
    have h2 := pow3_pos i
    rw [pow3_succ] at h1
    refine Ev.pos (by omega) ?_
    rw [w64 (by omega) (by omega), w64 (by omega) (by omega), Int.mul_comm, ← pow3_succ]
    exact ih (i + 1) (by omega)
theorem impl_power_ev (n : Int) (h0 : 0 ≤ n) (hn : n ≤ 30) : Ev (fun k => impl_power.f k n) ((3 : Int) ^ n.toNat) := by
  obtain ⟨m, rfl⟩ : ∃ m : Nat, n = m := ⟨n.toNat, by omega⟩
  exact impl_power_l m (by omega) m 0 (by omega)

theorem impl_LimitOf_ev (k : Int) : Ev (fun n => impl_LimitOf.f n k) (lim k) := by
  simp only [impl_LimitOf.f]
  unfold lim
  refine Ev.ite (fun h => Ev.ret (by rw [if_neg (by omega)])) (fun h => Ev.ite (fun h1 => Ev.ret (by rw [if_neg (by omega)])) (fun h1 => ?_))
  rw [if_pos (by omega)]
  refine Ev.bind (impl_power_ev k (by omega) (by omega)) (Ev.ret ?_)
  have h2 := pow3_30 (i := k.toNat) (by omega)
  have h3 := pow3_pos k.toNat
  rw [w64 (n := _ - 1) (by omega) (by omega), Int.tdiv_eq_ediv_of_nonneg (by omega), w64 (by omega) (by omega)]

/-- What 'nodes' leaves of a rest. -/
def left (ok : Bool) (b : Int) (n m : Nat) (d : Int) : Int := if ok = true ∧ (n : Int) ≤ b ∧ (m : Int) ≤ d then b - n else -1
theorem impl_nodes_l (l : List S29) (hl : l.length ≤ 1048576) (ih : ∀ y ∈ l, ∀ b d : Int, 0 ≤ b → b ≤ 60 → 0 ≤ d → d ≤ 12 → Ev (fun k => impl_nodes.f k y.f0 y.f1 y.f2 b d) (left (shp29 y) b (1 + sub29 y) (dep29 y) d)) :
    ∀ (d i : Nat) (b e : Int), i + d = l.length → 0 ≤ b → b ≤ 60 → 1 ≤ e → e ≤ 12 → Ev (fun k => impl_nodes.l0 k b e l (l.length : Int) i) (left (shpL29 (l.drop i)) b (subL29 (l.drop i)) (depL29 (l.drop i)) (e - 1)) := by
  intro d
  induction d with
  | zero =>
    intro i b e hi h0 h1 h2 h3
    apply Ev.succ
    simp only [impl_nodes.l0.eq_2]
    refine Ev.neg (by omega) (Ev.ret ?_)
    rw [List.drop_of_length_le (by omega)]
    simp only [left, shpL29, subL29, depL29]
    rw [if_pos ⟨trivial, by omega, by omega⟩]; omega
  | succ d ihd =>
    intro i b e hi h0 h1 h2 h3
    have hlt : i < l.length := by omega
    apply Ev.succ
    simp only [impl_nodes.l0.eq_2]
    refine Ev.pos (by omega) (Ev.pos (by omega) (Ev.pos (by omega) ?_))
    rw [rd29_get l i hlt, w64 (by omega) (by omega), w64 (by omega) (by omega), subL29_drop l i hlt, depL29_drop l i hlt, shpL29_drop l i hlt]
    refine Ev.bind (ih _ (List.getElem_mem hlt) b (e - 1) h0 h1 (by omega) (by omega)) ?_
    by_cases hc : shp29 l[i] = true ∧ ((1 + sub29 l[i] : Nat) : Int) ≤ b ∧ (dep29 l[i] : Int) ≤ e - 1
    · have e1 : left (shp29 l[i]) b (1 + sub29 l[i]) (dep29 l[i]) (e - 1) = b - ((1 + sub29 l[i] : Nat) : Int) := if_pos hc
      rw [e1]
      refine Ev.neg (by omega) (evTo (ihd (i + 1) _ e (by omega) (by omega) (by omega) h2 h3) ?_)
      unfold left
      rw [hc.1, Bool.true_and]
      by_cases hs : shpL29 (l.drop (i + 1)) = true
      · rw [hs]; simp only [true_and]
        split
        · rw [if_pos (by omega)]; omega
        · rw [if_neg (by omega)]
      · rw [if_neg (by simp [hs]), if_neg (by simp [hs])]
    · have e1 : left (shp29 l[i]) b (1 + sub29 l[i]) (dep29 l[i]) (e - 1) = -1 := if_neg hc
      rw [e1]
      refine Ev.pos (by omega) (Ev.ret ?_)
      unfold left
      rw [if_neg]
      intro hh
      apply hc
      rw [Bool.and_eq_true] at hh
      exact ⟨hh.1.1, by omega, by omega⟩
theorem impl_nodes_ev : ∀ (x : S29), sub29 x ≤ 1048576 → ∀ b d : Int, 0 ≤ b → b ≤ 60 → 0 ≤ d → d ≤ 12 → Ev (fun k => impl_nodes.f k x.f0 x.f1 x.f2 b d) (left (shp29 x) b (1 + sub29 x) (dep29 x) d) := by
  intro x
  induction x using S29.ind with
  | h x ih =>
  intro hs b d h0 h1 h2 h3
  have hl := subL29_len x.f2
  rw [sub29_eq] at hs
  have hL : ∀ b e : Int, 0 ≤ b → b ≤ 60 → 1 ≤ e → e ≤ 12 → Ev (fun k => impl_nodes.l0 k b e x.f2 (x.f2.length : Int) 0) (left (shpL29 x.f2) b (subL29 x.f2) (depL29 x.f2) (e - 1)) := by
    intro b e g0 g1 g2 g3
    have := impl_nodes_l x.f2 (by omega) (fun y hy => ih y hy (by have := subL29_mem hy; omega)) x.f2.length 0 b e (by omega) g0 g1 g2 g3
    simpa using this
  have bad : ∀ z : Int, Ev (fun k => impl_nodes.j0 k z d true x.f0 x.f1 x.f2) (-1) := by
    intro z
    apply Ev.succ
    simp only [impl_nodes.j0.eq_2]
    exact Ev.pos trivial (Ev.now _)
  have good : 0 ≤ b - 1 → 1 ≤ d → Ev (fun k => impl_nodes.j0 k (b - 1) d false x.f0 x.f1 x.f2) (left (shpL29 x.f2) (b - 1) (subL29 x.f2) (depL29 x.f2) (d - 1)) := by
    intro g0 g1
    apply Ev.succ
    simp only [impl_nodes.j0.eq_2]
    exact Ev.neg (by simp) (hL _ _ g0 (by omega) g1 h3)
  have no : ∀ z : Int, (¬ (nodeOk x.f0 x.f1 x.f2.length = true ∧ 1 ≤ b ∧ 1 ≤ d)) → Ev (fun k => impl_nodes.j0 k z d true x.f0 x.f1 x.f2) (left (shp29 x) b (1 + sub29 x) (dep29 x) d) := by
    intro z hz
    refine evTo (bad z) ?_
    unfold left
    rw [if_neg]
    rw [shp29_eq, dep29_eq, Bool.and_eq_true]
    intro hh
    exact hz ⟨hh.1.1, by omega, by omega⟩
  have yes : ∀ c : Bool, 0 ≤ b - 1 → 1 ≤ d → (c = false ↔ nodeOk x.f0 x.f1 x.f2.length = true) → Ev (fun k => impl_nodes.j0 k (b - 1) d c x.f0 x.f1 x.f2) (left (shp29 x) b (1 + sub29 x) (dep29 x) d) := by
    intro c g0 g1 hc
    cases c
    · refine evTo (good g0 g1) ?_
      unfold left
      rw [shp29_eq, hc.1 rfl, Bool.true_and, sub29_eq, dep29_eq]
      by_cases hs : shpL29 x.f2 = true
      · rw [hs]; simp only [true_and]
        split
        · rw [if_pos (by omega)]; omega
        · rw [if_neg (by omega)]
      · rw [if_neg (by simp [hs]), if_neg (by simp [hs])]
    · refine no _ (fun hh => ?_)
      have := hc.2 hh.1
      simp at this
  have hk : (x.f2.length : Int) = kids x.f0 ↔ ((1 ≤ x.f0 ∧ x.f0 ≤ 8) ∧ (x.f2.length : Int) = arity x.f0) := by
    unfold kids arity
    split
    · omega
    · split
      · omega
      · split <;> omega
  apply Ev.succ
  simp only [impl_nodes.f.eq_2]
  rw [w64 (by omega) (by omega)]
  refine Ev.ite (fun c1 => no _ (by omega)) (fun c1 => Ev.ite (fun c2 => no _ (by omega)) (fun c2 => ?_))
  refine Ev.bind (impl_kids_ev _) ?_
  refine Ev.ite (fun c3 => ?_) (fun c3 => no _ ?_)
  · rw [hk] at c3
    have fin : (x.f0 = 1 ∨ x.f1 = 0) → Ev (fun k => if x.f1 < 0 then impl_nodes.j0 k (b - 1) d true x.f0 x.f1 x.f2 else (impl_LimitOf.f k 30).bind fun t149 => impl_nodes.j0 k (b - 1) d (decide (x.f1 > t149)) x.f0 x.f1 x.f2) (left (shp29 x) b (1 + sub29 x) (dep29 x) d) := by
      intro h5
      refine Ev.ite (fun c5 => no _ ?_) (fun c5 => ?_)
      · simp only [nodeOk, decide_eq_true_eq]; omega
      · refine Ev.bind (impl_LimitOf_ev 30) (yes _ (by omega) (by omega) ?_)
        simp only [nodeOk, decide_eq_true_eq, decide_eq_false_iff_not]
        omega
    refine Ev.ite (fun c4 => fin (.inr c4)) (fun c4 => Ev.ite (fun c6 => fin (.inl c6)) (fun c6 => no _ ?_))
    simp only [nodeOk, decide_eq_true_eq]; omega
  · rw [hk] at c3
    simp only [nodeOk, decide_eq_true_eq]
    intro hh; exact c3 ⟨hh.1.1, hh.1.2.1⟩

theorem impl_IsExpr_ev (x : S29) (hs : sub29 x ≤ 1048576) : Ev (fun k => impl_IsExpr.f k x.f0 x.f1 x.f2) (isE x) := by
  simp only [impl_IsExpr.f]
  refine Ev.bind (impl_nodes_ev x hs 60 12 (by omega) (by omega) (by omega) (by omega)) (Ev.ret ?_)
  unfold left isE
  by_cases hc : shp29 x = true ∧ ((1 + sub29 x : Nat) : Int) ≤ 60 ∧ (dep29 x : Int) ≤ 12
  · rw [if_pos hc, hc.1, decide_eq_true (by omega), decide_eq_true (by omega)]; rfl
  · rw [if_neg hc]
    by_cases h : shp29 x = true
    · rw [decide_eq_false (by omega), decide_eq_false (by intro hh; exact hc ⟨h, by omega, by omega⟩), Bool.false_and]
    · simp [h]

theorem impl_size_eq (d : Int) (h0 : -1000000000000000000 ≤ d) (h1 : d ≤ 1000000000000000000) : impl_size.f d = some (if d < 0 then -d else d) := by
  unfold impl_size.f mx
  rw [w64 (by omega) (by omega)]
  refine congrArg some ?_
  split <;> split <;> omega

theorem impl_product_ev (x y : Int) (hx : inL x) (hy : inL y) : Ev (fun k => impl_product.f k x y) (if x = 0 then (x * y, true) else if absI y > Int.tdiv (lim 30) (absI x) then (0, false) else (x * y, true)) := by
  simp only [impl_product.f]
  have h0 := hx
  have h1 := hy
  unfold inL at h0 h1
  refine Ev.bind (impl_LimitOf_ev 30) ?_
  refine Ev.ite (fun c => ?_) (fun c => ?_)
  · rw [if_pos c, c, Int.zero_mul, w64 (by omega) (by omega)]; exact Ev.now _
  · rw [if_neg c]
    refine Ev.bindc (impl_size_eq y (by omega) (by omega)) (Ev.bindc (impl_size_eq x (by omega) (by omega)) ?_)
    have hax : (if x < 0 then -x else x) ≠ 0 := by split <;> omega
    refine Ev.neg hax ?_
    have hw : wrap64 (Int.tdiv (lim 30) (if x < 0 then -x else x)) = Int.tdiv (lim 30) (absI x) := by
      have := Int.natAbs_tdiv_le_natAbs (lim 30) (absI x)
      rw [lim30] at *
      exact w64 (by unfold absI at this; omega) (by unfold absI at this; omega)
    rw [hw]
    refine Ev.ite (fun cy => ?_) (fun cy => ?_)
    · rw [if_pos (show absI y > _ from cy)]; exact Ev.now _
    · rw [if_neg (show ¬ absI y > _ from cy)]
      have := mul_le_of_tdiv x y hx hy c cy
      unfold inL at this
      rw [w64 (by omega) (by omega)]
      exact Ev.now _

theorem impl_divided_eq (a d : Int) (ha : -1000000000000000000 ≤ a ∧ a ≤ 1000000000000000000) (hd : -1000000000000000000 ≤ d ∧ d ≤ 1000000000000000000) (h0 : d ≠ 0) : impl_divided.f a d = some (Int.tdiv (a - divr a d) d, divr a d) := by
  have hs : impl_size.f d = some (if d < 0 then -d else d) := by
    unfold impl_size.f mx
    rw [w64 (by omega) (by omega)]
    refine congrArg some ?_
    split <;> split <;> omega
  unfold impl_divided.f
  rw [hs]
  simp only [Option.bind_some]
  rw [divr_eq a d _ _ rfl rfl]
  generalize hS : (if d < 0 then -d else d) = s
  have hs1 : 0 < s := by split at hS <;> omega
  have hs2 : s ≤ 1000000000000000000 := by split at hS <;> omega
  have h1 := Int.tmod_lt_of_pos a hs1
  have h2 : -s < Int.tmod a s := by
    have := Int.tmod_lt_of_pos (-a) hs1
    rw [Int.neg_tmod] at this; omega
  generalize hR : Int.tmod a s = r at *
  have key : ∀ b : Int, -2000000000000000000 ≤ b → b ≤ 2000000000000000000 → wrap64 (Int.tdiv b d) = Int.tdiv b d := by
    intro b hb0 hb1
    have := Int.natAbs_tdiv_le_natAbs b d
    exact w64 (by omega) (by omega)
  rw [if_neg (by omega), w64 (n := 2 * r) (by omega) (by omega), w64 (n := -s) (by omega) (by omega)]
  by_cases c1 : 2 * r > s
  · rw [if_pos c1, if_neg h0]
    rw [if_pos c1, w64 (n := r - s) (by omega) (by omega), w64 (n := a - (r - s)) (by omega) (by omega), key _ (by omega) (by omega)]
  · rw [if_neg c1]
    by_cases c2 : 2 * r ≤ -s
    · rw [if_pos c2, if_neg h0]
      rw [if_neg c1, if_pos c2, w64 (n := r + s) (by omega) (by omega), w64 (n := a - (r + s)) (by omega) (by omega), key _ (by omega) (by omega)]
    · rw [if_neg c2, if_neg h0]
      rw [if_neg c1, if_neg c2, w64 (n := a - r) (by omega) (by omega), key _ (by omega) (by omega)]

theorem impl_fits_ev (n k : Int) : Ev (fun m => impl_fits.f m n k) (fitsB n k) := by
  simp only [impl_fits.f]
  have h1 := lim_nonneg k
  have h2 := lim_le k
  refine Ev.bind (impl_LimitOf_ev k) ?_
  rw [w64 (by omega) (by omega)]
  refine Ev.ite (fun h => Ev.bind (impl_LimitOf_ev k) (Ev.ret ?_)) (fun h => Ev.ret ?_)
  · unfold fitsB; exact decide_eq_decide.2 (by omega)
  · unfold fitsB; rw [decide_eq_false]; omega

theorem fitV (v : Int) : Ev (fun k => (impl_fits.f k v 30).bind fun t => some (v, t)) (resV v) :=
  Ev.bind (impl_fits_ev v 30) (Ev.ret rfl)
theorem impl_evaluated_l (l l' : List S29) (a b : Int) (ha : (1 ≤ a ∧ a ≤ 8) ∧ (l.length : Int) = arity a) (hl : l.length ≤ 1048576) (ih : ∀ y ∈ l, Ev (fun k => impl_evaluated.f k y.f0 y.f1 y.f2) (ev29 y)) :
    ∀ (d i : Nat) (acc : List Int), i + d = l.length → acc.length = i → (∀ v ∈ acc, inL v) → Ev (fun k => impl_evaluated.l0 k acc l (l.length : Int) i a b l') (combO a b (accO acc (evL29 (l.drop i)))) := by
  intro d
  induction d with
  | zero =>
    intro i acc hi hacc hv
    apply Ev.succ
    simp only [impl_evaluated.l0.eq_2]
    refine Ev.neg (by omega) ?_
    rw [List.drop_of_length_le (by omega)]
    have e : combO a b (accO acc (evL29 [])) = comb a b acc := by simp [evL29, accO, combO]
    rw [e]
    have r0 : 1 ≤ acc.length → inL (rd acc 0) := fun h => rd01 acc hv 0 (by omega) (by omega)
    have r1 : 2 ≤ acc.length → inL (rd acc 1) := fun h => rd01 acc hv 1 (by omega) (by omega)
    have hal : (acc.length : Int) = arity a := by omega
    unfold comb
    obtain ⟨x, hX⟩ : ∃ x, rd acc 0 = x := ⟨_, rfl⟩
    obtain ⟨y, hY⟩ : ∃ y, rd acc 1 = y := ⟨_, rfl⟩
    simp only [hX, hY] at r0 r1 ⊢
    obtain ⟨h18, _⟩ := ha
    unfold arity at hal
    refine Ev.ite (fun c => ?_) (fun c2 => ?_)
    · rw [if_pos c, if_neg (by omega), if_pos (by omega)] at *
      exact Ev.pos (by omega) (fitV x)
    · rw [if_neg c2]
      refine Ev.ite (fun c => ?_) (fun c3 => ?_)
      · rw [if_pos c]
        rw [if_neg (by omega), if_pos (by omega)] at hal
        have := r0 (by omega)
        unfold inL at this
        rw [w64 (by omega) (by omega)]
        exact Ev.pos (by omega) (fitV _)
      · rw [if_neg c3]
        rw [if_neg (by omega : ¬ (a = 2 ∨ a = 3))] at hal
        by_cases ca : a = 1
        · rw [if_pos ca] at hal
          refine Ev.neg (by omega) (Ev.neg (by omega) (Ev.neg (by omega) (Ev.neg (by omega) ?_)))
          rw [if_neg (by omega), if_neg (by omega), if_neg (by omega), if_neg (by omega)]
          apply Ev.succ
          simp only [impl_evaluated.j1.eq_2]
          exact Ev.neg (by simp; omega) (Ev.pos trivial (fitV b))
        · rw [if_neg ca] at hal
          have h0 := r0 (by omega)
          have h1 := r1 (by omega)
          have hx := h0
          have hy := h1
          unfold inL at h0 h1
          refine Ev.ite (fun c => ?_) (fun c4 => ?_)
          · rw [if_pos c]
            rw [w64 (by omega) (by omega)]
            exact Ev.pos (by omega) (Ev.pos (by omega) (fitV _))
          · rw [if_neg c4]
            refine Ev.ite (fun c => ?_) (fun c5 => ?_)
            · rw [if_pos c]
              rw [w64 (by omega) (by omega)]
              exact Ev.pos (by omega) (Ev.pos (by omega) (fitV _))
            · rw [if_neg c5]
              refine Ev.ite (fun c => ?_) (fun c6 => ?_)
              · rw [if_pos c]
                refine Ev.pos (by omega) (Ev.pos (by omega) ?_)
                refine Ev.bind (impl_product_ev x y hx hy) ?_
                by_cases cx : x = 0
                · rw [if_pos cx, if_pos cx]
                  exact Ev.pos rfl (fitV _)
                · rw [if_neg cx, if_neg cx]
                  by_cases cy : absI y > Int.tdiv (lim 30) (absI x)
                  · rw [if_pos cy, if_pos cy]
                    exact Ev.neg (by simp) (Ev.now _)
                  · rw [if_neg cy, if_neg cy]
                    exact Ev.pos rfl (fitV _)
              · rw [if_neg c6]
                have h78 : a = 7 ∨ a = 8 := by omega
                rw [if_pos h78]
                have j1 : Ev (fun k => impl_evaluated.j1 k acc b true true a b l') (if y = 0 then (0, false) else if a = 8 then resV (divr x y) else resV (Int.tdiv (x - divr x y) y)) := by
                  apply Ev.succ
                  simp only [impl_evaluated.j1.eq_2, hX, hY]
                  refine Ev.pos trivial (Ev.pos (by omega) (Ev.ite (fun cy => ?_) (fun cy => ?_)))
                  · rw [if_pos cy]; exact Ev.now _
                  · rw [if_neg cy]
                    refine Ev.pos (by omega) (Ev.bindc (impl_divided_eq x y (by omega) (by omega) cy) ?_)
                    refine Ev.ite (fun c8 => ?_) (fun c8 => ?_)
                    · rw [if_pos c8]; exact Ev.pos trivial (fitV _)
                    · rw [if_neg c8]; exact Ev.pos trivial (fitV _)
                refine Ev.ite (fun c => ?_) (fun c7 => ?_)
                · rw [show (a == 7) = true by simp [c]]; exact j1
                · rw [show (a == 8) = true by simp; omega]; exact j1
  | succ d ihd =>
    intro i acc hi hacc hv
    have hlt : i < l.length := by omega
    apply Ev.succ
    simp only [impl_evaluated.l0.eq_2]
    refine Ev.pos (by omega) (Ev.pos (by omega) (Ev.pos (by omega) ?_))
    rw [rd29_get l i hlt, w64 (by omega) (by omega), evL29_drop l i hlt]
    refine Ev.bind (ih _ (List.getElem_mem hlt)) ?_
    refine Ev.ite (fun h => ?_) (fun h => ?_)
    · rw [if_pos h]
      refine Ev.pos (by omega) ?_
      refine evTo (ihd (i + 1) (acc ++ [(ev29 l[i]).1]) (by omega) (by simp [hacc]) ?_) ?_
      · intro v hv'
        rw [List.mem_append, List.mem_singleton] at hv'
        rcases hv' with h' | rfl
        · exact hv v h'
        · exact ev29_ok _ h
      · cases evL29 (l.drop (i + 1)) <;> simp [accO]
    · rw [if_neg h]; exact Ev.now _
theorem impl_evaluated_ev : ∀ (x : S29), sub29 x ≤ 1048576 → shp29 x = true → Ev (fun k => impl_evaluated.f k x.f0 x.f1 x.f2) (ev29 x) := by
  intro x
  induction x using S29.ind with
  | h x ih =>
  intro hs hsh
  have hl := subL29_len x.f2
  rw [sub29_eq] at hs
  rw [shp29_eq, Bool.and_eq_true] at hsh
  obtain ⟨hn, hk⟩ := hsh
  unfold nodeOk at hn
  rw [decide_eq_true_eq] at hn
  apply Ev.succ
  simp only [impl_evaluated.f.eq_2]
  refine evTo (impl_evaluated_l x.f2 x.f2 x.f0 x.f1 ⟨hn.1, hn.2.1⟩ (by omega) (fun y hy => ih y hy (by have := subL29_mem hy; omega) (shpL29_mem hk hy)) x.f2.length 0 [] (by omega) rfl (by simp)) ?_
  rw [ev29_eq, List.drop_zero]
  cases evL29 x.f2 <;> simp [accO]

theorem impl_EvalExpr_ev (x : S29) (hs : sub29 x ≤ 1048576) : Ev (fun k => impl_EvalExpr.f k x.f0 x.f1 x.f2) (evE x) := by
  simp only [impl_EvalExpr.f]
  refine Ev.bind (impl_IsExpr_ev x hs) ?_
  unfold evE
  refine Ev.ite (fun h => ?_) (fun h => ?_)
  · rw [if_pos h]
    refine Ev.bind (impl_evaluated_ev x hs (isE_shp h)) ?_
    refine Ev.ite (fun h' => Ev.ret (by rw [if_pos h'])) (fun h' => Ev.ret (by rw [if_neg h']))
  · exact Ev.ret (by rw [if_neg h])

end Go.Proofs.Ytkeojccgfehkkaa.LemFnExactEvalExpr
