/- Lemmas: what each function that this statement reaches computes. -/
import Derived.Test.YtjfgcipbbcplmaaDoorHOpFnExprs
import Derived.Test.YtjfgcipbbcplmaaDoorBase
import Derived.Test.YtjfgcipbbcplmaaDoorDivM
import Derived.Test.YtjfgcipbbcplmaaDoorWordM
set_option linter.unusedVariables false
set_option linter.unusedSimpArgs false
namespace Go.Proofs.YtjfgcipbbcplmaaDoor.LemFnExprs
open Go.RowKit Go.Proofs.YtjfgcipbbcplmaaDoorW.PrintWords Go.Proofs.YtjfgcipbbcplmaaDoorW.PrintLast Go.Proofs.YtjfgcipbbcplmaaDoorW.PrintMore Go.Proofs.YtjfgcipbbcplmaaDoor.HFnExprs Go.Proofs.YtjfgcipbbcplmaaDoor.Base

theorem S25.ind {P : S25 → Prop} (h : ∀ x : S25, (∀ y ∈ x.f2, P y) → P x) (x : S25) : P x :=
 S25.rec (motive_1 := P) (motive_2 := fun l => ∀ y ∈ l, P y) (fun a b l hl => h ⟨a, b, l⟩ hl) (by simp) (fun y ys h1 h2 => by simp; exact ⟨h1, h2⟩) x
theorem rd25_get (xs : List S25) (i : Nat) (h : i < xs.length) : rd_T25 xs (i : Int) = xs[i] := by
 simp [rd_T25, List.getD_eq_getElem?_getD, List.getElem?_eq_getElem h]
mutual
def sub25 : S25 → Nat
 | ⟨_, _, l⟩ => subL25 l
def subL25 : List S25 → Nat
 | [] => 0
 | x :: xs => 1 + sub25 x + subL25 xs
end
theorem sub25_eq (x : S25) : sub25 x = subL25 x.f2 := by cases x; rfl
theorem subL25_len (l : List S25) : l.length ≤ subL25 l := by
 induction l with
 | nil => simp
 | cons x xs ih => simp only [List.length_cons, subL25]; omega
theorem subL25_mem {l : List S25} {y : S25} (h : y ∈ l) : 1 + sub25 y ≤ subL25 l := by
 induction l with
 | nil => simp at h
 | cons x xs ih =>
  simp only [subL25]
  rcases List.mem_cons.1 h with rfl | h
  ·omega
  ·have := ih h; omega
theorem subL25_drop (xs : List S25) (i : Nat) (h : i < xs.length) : subL25 (xs.drop i) = 1 + sub25 xs[i] + subL25 (xs.drop (i + 1)) := by
 rw [drop_cons xs i h, subL25]
theorem eta25 (x : S25) : (⟨x.f0, x.f1, x.f2⟩ : S25) = x := by cases x; rfl


mutual
/-- How deep an expression is. -/
def dep25 : S25 → Nat
 | ⟨_, _, l⟩ => depL25 l + 1
def depL25 : List S25 → Nat
 | [] => 0
 | x :: xs => max (dep25 x) (depL25 xs)
end
theorem dep25_eq (x : S25) : dep25 x = depL25 x.f2 + 1 := by cases x; rfl
theorem dep25_le (x : S25) : dep25 x ≤ 1 + sub25 x := by
 induction x using S25.ind with
 | h x ih =>
 rw [dep25_eq, sub25_eq]
 generalize x.f2 = l at ih
 suffices h : depL25 l ≤ subL25 l by omega
 induction l with
 | nil => simp [depL25]
 | cons y ys ihy =>
  have h1 := ih y List.mem_cons_self
  have h2 := ihy (fun z hz => ih z (List.mem_cons_of_mem _ hz))
  simp only [depL25, subL25]
  omega
theorem depL25_drop (xs : List S25) (i : Nat) (h : i < xs.length) : depL25 (xs.drop i) = max (dep25 xs[i]) (depL25 (xs.drop (i + 1))) := by
 rw [drop_cons xs i h, depL25]
theorem spec_l10Size_l (l : List S25) (hl : l.length ≤ 1048576) (ih : ∀ y ∈ l, Ev (fun k => spec_l10Size.f k y.f0 y.f1 y.f2) (((1 + sub25 y : Nat) : Int), ((dep25 y : Nat) : Int))) :
  ∀ (d i n m : Nat), i + d = l.length → n + subL25 (l.drop i) ≤ 2097152 → m ≤ 2097152 → (∀ y ∈ l, dep25 y ≤ 2097152) → Ev (fun k => spec_l10Size.l0 k n m l (l.length : Int) i) (((n + subL25 (l.drop i) : Nat) : Int), ((max m (depL25 (l.drop i)) + 1 : Nat) : Int)) := by
 intro d
 induction d with
 | zero =>
  intro i n m hi hn hm hd
  apply Ev.succ
  simp only [spec_l10Size.l0.eq_2]
  refine Ev.neg (by omega) (Ev.ret ?_)
  rw [List.drop_of_length_le (by omega), w64 (by omega) (by omega)]
  simp [subL25, depL25]
 | succ d ihd =>
  intro i n m hi hn hm hd
  have hlt : i < l.length := by omega
  apply Ev.succ
  simp only [spec_l10Size.l0.eq_2]
  refine Ev.pos (by omega) (Ev.pos (by omega) (Ev.pos (by omega) ?_))
  rw [rd25_get l i hlt]
  refine Ev.bind (ih _ (List.getElem_mem hlt)) ?_
  rw [subL25_drop l i hlt] at hn ⊢
  rw [depL25_drop l i hlt]
  have h1 := hd _ (List.getElem_mem hlt)
  rw [w64 (n := (i : Int) + 1) (by omega) (by omega), w64 (by omega) (by omega)]
  have e1 : (n : Int) + ((1 + sub25 l[i] : Nat) : Int) = ((n + (1 + sub25 l[i]) : Nat) : Int) := by omega
  have e2 : mx (m : Int) (dep25 l[i]) = ((max m (dep25 l[i]) : Nat) : Int) := by simp only [mx]; split <;> omega
  simp only [e1, e2]
  refine evTo (ihd (i + 1) _ _ (by omega) (by omega) (by omega) hd) ?_
  rw [Nat.max_assoc, Nat.add_assoc]
theorem spec_l10Size_ev : ∀ (x : S25), sub25 x ≤ 1048576 → Ev (fun k => spec_l10Size.f k x.f0 x.f1 x.f2) (((1 + sub25 x : Nat) : Int), ((dep25 x : Nat) : Int)) := by
 intro x
 induction x using S25.ind with
 | h x ih =>
 intro hs
 have hl := subL25_len x.f2
 rw [sub25_eq] at hs ⊢
 rw [dep25_eq]
 apply Ev.succ
 simp only [spec_l10Size.f.eq_2]
 have := spec_l10Size_l x.f2 (by omega) (fun y hy => ih y hy (by have := subL25_mem hy; omega)) x.f2.length 0 1 0 (by omega) (by simp only [List.drop_zero]; omega) (by omega) (fun y hy => by have := subL25_mem hy; have := dep25_le y; omega)
 simpa using this

theorem spec_l1In_eq (a b c : Int) : spec_l1In.f a b c = some (decide (b ≤ a ∧ a ≤ c)) := by
 unfold spec_l1In.f
 by_cases h : b ≤ a
 ·rw [if_pos (by omega)]; simp [h]
 ·rw [if_neg (by omega)]; simp [h]

theorem spec_LimitOf_l (n : Nat) (hn : n ≤ 30) : ∀ (d i : Nat), i + d = n → Ev (fun k => spec_LimitOf.l0 k n (((3 : Int) ^ i - 1) / 2) i) (((3 : Int) ^ n - 1) / 2) := by
 intro d
 induction d with
 | zero =>
  intro i hi
  apply Ev.succ
  simp only [spec_LimitOf.l0.eq_2]
  refine Ev.neg (by omega) (Ev.ret ?_)
  rw [← hi]; rfl
 | succ d ih =>
  intro i hi
  apply Ev.succ
  simp only [spec_LimitOf.l0.eq_2]
  have h1 := pow3_30 (i := i + 1) (by omega)
  have h2 := pow3_pos i
  have h3 := pow3_lim i
  have h4 := pow3_lim (i + 1)
  rw [pow3_succ] at h1 h4
  refine Ev.pos (by omega) ?_
  rw [w64 (n := _ * _) (by omega) (by omega), w64 (by omega) (by omega), w64 (by omega) (by omega)]
  refine (ih (i + 1) (by omega)).congr (fun k => ?_)
  refine congrArg (fun z => spec_LimitOf.l0 k n z _) ?_
  rw [pow3_succ]; omega
theorem spec_LimitOf_ev (n : Int) : Ev (fun k => spec_LimitOf.f k n) (lim n) := by
 simp only [spec_LimitOf.f, spec_l1In_eq, Option.bind_some, decide_eq_true_eq]
 unfold lim
 refine Ev.ite (fun h => ?_) (fun h => Ev.ret (by rw [if_neg h]))
 obtain ⟨m, rfl⟩ : ∃ m : Nat, n = m := ⟨n.toNat, by omega⟩
 rw [if_pos h]
 exact spec_LimitOf_l m (by omega) m 0 (by omega)

/-- How many parts an operation takes. -/
def arity (a : Int) : Int := if a = 1 then 0 else if a = 2 ∨ a = 3 then 1 else 2
def nodeOk (a b : Int) (n : Nat) : Bool := decide ((1 ≤ a ∧ a ≤ 8) ∧ (n : Int) = arity a ∧ (a = 1 ∨ b = 0) ∧ 0 ≤ b ∧ b ≤ lim 30)
mutual
/-- An expression's shape is right. -/
def shp25 : S25 → Bool
 | ⟨a, b, l⟩ => nodeOk a b l.length && shpL25 l
def shpL25 : List S25 → Bool
 | [] => true
 | x :: xs => shp25 x && shpL25 xs
end
theorem shp25_eq (x : S25) : shp25 x = (nodeOk x.f0 x.f1 x.f2.length && shpL25 x.f2) := by cases x; rfl
theorem shpL25_drop (xs : List S25) (i : Nat) (h : i < xs.length) : shpL25 (xs.drop i) = (shp25 xs[i] && shpL25 (xs.drop (i + 1))) := by
 rw [drop_cons xs i h, shpL25]
theorem spec_l10Shape_l (l : List S25) (hl : l.length ≤ 1048576) (ih : ∀ y ∈ l, Ev (fun k => spec_l10Shape.f k y.f0 y.f1 y.f2) (shp25 y)) :
  ∀ (d i : Nat), i + d = l.length → Ev (fun k => spec_l10Shape.l0 k l (l.length : Int) i) (shpL25 (l.drop i)) := by
 intro d
 induction d with
 | zero =>
  intro i hi
  apply Ev.succ
  simp only [spec_l10Shape.l0.eq_2]
  refine Ev.neg (by omega) (Ev.ret ?_)
  rw [List.drop_of_length_le (by omega)]; rfl
 | succ d ihd =>
  intro i hi
  have hlt : i < l.length := by omega
  apply Ev.succ
  simp only [spec_l10Shape.l0.eq_2]
  refine Ev.pos (by omega) (Ev.pos (by omega) (Ev.pos (by omega) ?_))
  rw [rd25_get l i hlt, w64 (by omega) (by omega), shpL25_drop l i hlt]
  refine Ev.bind (ih _ (List.getElem_mem hlt)) ?_
  refine Ev.ite (fun h => ?_) (fun h => Ev.ret ?_)
  ·rw [h, Bool.true_and]; exact ihd (i + 1) (by omega)
  ·simp at h; simp [h]
theorem spec_l10Shape_ev : ∀ (x : S25), sub25 x ≤ 1048576 → Ev (fun k => spec_l10Shape.f k x.f0 x.f1 x.f2) (shp25 x) := by
 intro x
 induction x using S25.ind with
 | h x ih =>
 intro hs
 have hl := subL25_len x.f2
 rw [sub25_eq] at hs
 have hL : Ev (fun k => spec_l10Shape.l0 k x.f2 (x.f2.length : Int) 0) (shpL25 x.f2) := by
  have := spec_l10Shape_l x.f2 (by omega) (fun y hy => ih y hy (by have := subL25_mem hy; omega)) x.f2.length 0 (by omega)
  simpa using this
 have hlim : lim 30 = 102945566047324 := by rfl
 have j1 : ∀ b : Bool, Ev (fun k => spec_l10Shape.j1 k b x.f0 x.f1 x.f2) (!b && shpL25 x.f2) := by
  intro b
  apply Ev.succ
  simp only [spec_l10Shape.j1.eq_2]
  cases b
  ·refine Ev.neg (by simp) ?_; simpa using hL
  ·exact Ev.pos rfl (Ev.ret (by simp))
 have j0 : Ev (fun k => spec_l10Shape.j0 k (arity x.f0) x.f0 x.f1 x.f2) (shp25 x) := by
  apply Ev.succ
  simp only [spec_l10Shape.j0.eq_2]
  simp only [spec_l1In_eq, Option.bind_some, decide_eq_true_eq]
  rw [shp25_eq]
  refine Ev.ite (fun h1 => ?_) (fun h1 => ?_)
  ·refine Ev.ite (fun h2 => ?_) (fun h2 => ?_)
   ·refine Ev.ite (fun h3 => ?_) (fun h3 => ?_)
    ·have h5 : x.f0 ≠ 1 := by intro h; rw [h] at h3; simp [arity] at h3
     refine Ev.ite (fun h4 => ?_) (fun h4 => ?_)
     ·refine Ev.bind (spec_LimitOf_ev 30) (evTo (j1 _) ?_)
      simp [nodeOk, h1, h2, h4]
     ·refine evTo (j1 _) ?_
      simp [nodeOk, h5, h4]
    ·have h5 : x.f0 = 1 := by
      unfold arity at h3
      split at h3
      ·assumption
      ·split at h3 <;> omega
     refine Ev.bind (spec_LimitOf_ev 30) (evTo (j1 _) ?_)
     rw [h5] at h2
     simp [nodeOk, h5, h2]
   ·refine evTo (j1 _) ?_
    simp [nodeOk, h2]
  ·refine evTo (j1 _) ?_
   simp [nodeOk, h1]
 apply Ev.succ
 simp only [spec_l10Shape.f.eq_2]
 refine Ev.ite (fun h => ?_) (fun h => Ev.ite (fun h' => ?_) (fun h' => Ev.ite (fun h'' => ?_) (fun h'' => ?_)))
 ·rw [show arity x.f0 = 0 by simp [arity, h]] at j0; exact j0
 ·rw [show arity x.f0 = 1 by simp [arity, h']] at j0; exact j0
 ·rw [show arity x.f0 = 1 by simp [arity, h'']] at j0; exact j0
 ·rw [show arity x.f0 = 2 by simp [arity, h, h', h'']] at j0; exact j0

/-- An expression that both take. -/
def isE (x : S25) : Bool := decide (1 + sub25 x ≤ 60 ∧ dep25 x ≤ 12) && shp25 x
theorem spec_IsExpr_ev (x : S25) (hs : sub25 x ≤ 1048576) : Ev (fun k => spec_IsExpr.f k x.f0 x.f1 x.f2) (isE x) := by
 simp only [spec_IsExpr.f]
 refine Ev.bind (spec_l10Size_ev x hs) ?_
 unfold isE
 refine Ev.ite (fun h1 => Ev.ite (fun h2 => Ev.bind (spec_l10Shape_ev x hs) (Ev.ret ?_)) (fun h2 => Ev.ret ?_)) (fun h1 => Ev.ret ?_)
 ·rw [decide_eq_true (by omega), Bool.true_and]
 ·rw [decide_eq_false (by omega), Bool.false_and]
 ·rw [decide_eq_false (by omega), Bool.false_and]

theorem isE_shp {x : S25} (h : isE x = true) : shp25 x = true ∧ sub25 x ≤ 60 := by
 unfold isE at h
 rw [Bool.and_eq_true, decide_eq_true_eq] at h
 exact ⟨h.2, by omega⟩
theorem kind_of {x : S25} (h : shp25 x = true) : x.f0 = 1 ∨ x.f0 = 2 ∨ x.f0 = 3 ∨ x.f0 = 4 ∨ x.f0 = 5 ∨ x.f0 = 6 ∨ x.f0 = 7 ∨ x.f0 = 8 := by
 rw [shp25_eq, Bool.and_eq_true] at h
 have := h.1
 simp only [nodeOk, decide_eq_true_eq] at this
 omega
theorem num_of {x : S25} (h : shp25 x = true) : 0 ≤ x.f1 ∧ x.f1 ≤ lim 30 := by
 rw [shp25_eq, Bool.and_eq_true] at h
 have := h.1
 simp only [nodeOk, decide_eq_true_eq] at this
 omega
theorem shp25_arity {x : S25} (h : shp25 x = true) : (x.f2.length : Int) = arity x.f0 ∧ shpL25 x.f2 = true := by
 rw [shp25_eq, Bool.and_eq_true] at h
 refine ⟨?_, h.2⟩
 have := h.1
 simp only [nodeOk, decide_eq_true_eq] at this
 exact this.2.1
/-- What an expression of the right shape is: its kids, by its kind. -/
theorem kids_of {x : S25} (h : shp25 x = true) : ((x.f0 = 2 ∨ x.f0 = 3) → ∃ p, x.f2 = [p] ∧ shp25 p = true) ∧ ((x.f0 = 4 ∨ x.f0 = 5 ∨ x.f0 = 6 ∨ x.f0 = 7 ∨ x.f0 = 8) → ∃ p q, x.f2 = [p, q] ∧ shp25 p = true ∧ shp25 q = true) := by
 obtain ⟨ha, hs⟩ := shp25_arity h
 constructor
 ·intro h0
  have : (x.f2.length : Int) = 1 := by rw [ha]; unfold arity; rw [if_neg (by omega), if_pos (by omega)]
  match hx : x.f2, this with
  | [p], _ =>
   rw [hx] at hs
   simp only [shpL25, Bool.and_eq_true] at hs
   exact ⟨p, rfl, hs.1⟩
 ·intro h0
  have : (x.f2.length : Int) = 2 := by rw [ha]; unfold arity; rw [if_neg (by omega), if_neg (by omega)]
  match hx : x.f2, this with
  | [p, q], _ =>
   rw [hx] at hs
   simp only [shpL25, Bool.and_eq_true] at hs
   exact ⟨p, q, rfl, hs.1, hs.2.1⟩

/-- The decimal text of a number. -/
def numB (n : Int) : ByteArray := ⟨(Lib.itoa n).toArray⟩
theorem nDig_le : ∀ (m u : Nat), u < 10 ^ (m + 1) → Lib.nDigits u ≤ m + 1 := by
 intro m
 induction m with
 | zero => intro u h; rw [Lib.nDigits_small (by simpa using h)]; omega
 | succ m ih =>
  intro u h
  by_cases h10 : u < 10
  ·rw [Lib.nDigits_small h10]; omega
  ·rw [Lib.nDigits_big h10]
   have := ih (u / 10) (Nat.div_lt_of_lt_mul (by rw [Nat.pow_succ, Nat.mul_comm] at h; exact h))
   omega
theorem itoa_len (n : Int) (h0 : -9223372036854775808 ≤ n) (h1 : n ≤ 9223372036854775807) : (Lib.itoa n).length ≤ 21 := by
 have h : ∀ u : Nat, u < 10 ^ 20 → (Lib.decDigits u).length ≤ 20 := fun u hu => by rw [Lib.decDigits_length]; exact nDig_le 19 u hu
 unfold Lib.itoa
 split
 ·have := h n.natAbs (by omega)
  simp only [List.length_cons]; omega
 ·have := h n.toNat (by omega)
  omega
theorem numB_size (n : Int) (h0 : -9223372036854775808 ≤ n) (h1 : n ≤ 9223372036854775807) : (numB n).size ≤ 21 := by
 have := itoa_len n h0 h1
 simpa [numB, ByteArray.size] using this

/-- How strongly a kind holds together. -/
def lev (a : Int) : Int := if a = 4 ∨ a = 5 then 1 else if a = 6 ∨ a = 7 ∨ a = 8 then 2 else 3
/-- A text, in parentheses where it has to be. -/
def wr (l : Int) (p : Int × ByteArray) : ByteArray := if lev p.1 < l then (⟨#[40]⟩ : ByteArray) ++ p.2 ++ (⟨#[41]⟩ : ByteArray) else p.2
theorem wr_size (l : Int) (p : Int × ByteArray) : (wr l p).size ≤ p.2.size + 2 := by
 unfold wr
 split
 ·simp only [ByteArray.size_append', ByteArray.size_mk', List.size_toArray, List.length_cons, List.length_nil]; omega
 ·omega
/-- The sign between two kids. -/
def opS (a : Int) : ByteArray := ⟨#[32, if a = 4 then 43 else if a = 5 then 45 else if a = 6 then 42 else if a = 7 then 47 else 37, 32]⟩
theorem opS_size (a : Int) : (opS a).size = 3 := rfl
/-- The text of a node, out of its kids' kinds and texts. -/
def txC (a b : Int) (l : List (Int × ByteArray)) : ByteArray :=
 if a = 1 then numB b else if a = 2 then (⟨#[43]⟩ : ByteArray) ++ wr 3 (l.getD 0 (0, ByteArray.empty)) else if a = 3 then (⟨#[45]⟩ : ByteArray) ++ wr 3 (l.getD 0 (0, ByteArray.empty))
 else wr (lev a) (l.getD 0 (0, ByteArray.empty)) ++ opS a ++ wr (lev a + 1) (l.getD 1 (0, ByteArray.empty))
mutual
/-- The text of an expression. -/
def tx25 : S25 → ByteArray
 | ⟨a, b, l⟩ => txC a b (txL25 l)
def txL25 : List S25 → List (Int × ByteArray)
 | [] => []
 | x :: xs => (x.f0, tx25 x) :: txL25 xs
end
theorem tx25_eq (x : S25) : tx25 x = txC x.f0 x.f1 (txL25 x.f2) := by cases x; rfl
theorem tx_size (x : S25) : shp25 x = true → (tx25 x).size ≤ 28 + 30 * sub25 x := by
 induction x using S25.ind with
 | h x ih =>
  intro h
  have hk := kind_of h
  obtain ⟨h1, h2⟩ := kids_of h
  have hn := num_of h
  have hl := lim_le 30
  rw [tx25_eq, sub25_eq]
  unfold txC
  by_cases a1 : x.f0 = 1
  ·rw [if_pos a1]
   have := numB_size x.f1 (by omega) (by omega)
   omega
  ·rw [if_neg a1]
   by_cases a2 : x.f0 = 2 ∨ x.f0 = 3
   ·obtain ⟨p, e, hp⟩ := h1 a2
    have ip := ih p (by rw [e]; simp) hp
    rw [e]
    have w := wr_size 3 (p.f0, tx25 p)
    have hs : subL25 [p] = 1 + sub25 p := by simp [subL25]
    simp only [txL25, List.getD_cons_zero]
    dsimp only at w
    split
    ·simp only [ByteArray.size_append', ByteArray.size_mk', List.size_toArray, List.length_cons, List.length_nil]; omega
    ·rw [if_pos (by omega)]
     simp only [ByteArray.size_append', ByteArray.size_mk', List.size_toArray, List.length_cons, List.length_nil]; omega
   ·rw [if_neg (by omega), if_neg (by omega)]
    obtain ⟨p, q, e, hp, hq⟩ := h2 (by omega)
    have ip := ih p (by rw [e]; simp) hp
    have iq := ih q (by rw [e]; simp) hq
    rw [e]
    have w := wr_size (lev x.f0) (p.f0, tx25 p)
    have w' := wr_size (lev x.f0 + 1) (q.f0, tx25 q)
    have hs : subL25 [p, q] = 1 + sub25 p + (1 + sub25 q) := by simp [subL25]
    simp only [txL25, List.getD_cons_zero, List.getD_cons_succ]
    dsimp only at w w'
    simp only [ByteArray.size_append', opS_size]; omega
/-- What both answer. -/
def forT (x : S25) : ByteArray := if isE x = true then tx25 x else ⟨#[]⟩

theorem and_range (x y : Int) (h0 : 0 ≤ y) (h1 : y < 9223372036854775808) : 0 ≤ Go.bits .and .i64 x y ∧ Go.bits .and .i64 x y ≤ y := by
 unfold Go.bits
 have h2 : (BitVec.ofInt 64 x &&& BitVec.ofInt 64 y).toNat ≤ (BitVec.ofInt 64 y).toNat := by
  rw [BitVec.toNat_and]; exact Nat.and_le_right
 have h3 : ((BitVec.ofInt 64 y).toNat : Int) = y := by
  rw [BitVec.toNat_ofInt]
  have : (y % (2 ^ 64 : Nat)) = y := Int.emod_eq_of_lt h0 (by omega)
  omega
 show 0 ≤ IntKind.i64.wrap ((BitVec.ofInt 64 x &&& BitVec.ofInt 64 y).toNat : Int) ∧ IntKind.i64.wrap ((BitVec.ofInt 64 x &&& BitVec.ofInt 64 y).toNat : Int) ≤ y
 have h4 : IntKind.i64.wrap ((BitVec.ofInt 64 x &&& BitVec.ofInt 64 y).toNat : Int) = wrap64 ((BitVec.ofInt 64 x &&& BitVec.ofInt 64 y).toNat : Int) := i64_w _
 rw [h4, w64 (by omega) (by omega)]
 omega
theorem spec_l01Byte_ev (b : List Int) (hb : b.length ≤ 1000000000) (i h : Int) (h0 : 0 ≤ i) : ∃ x j g, spec_l01Byte.f b i h = some (x, j, g) ∧ (0 ≤ x ∧ x ≤ 255) ∧ 0 ≤ j := by
 unfold spec_l01Byte.f
 by_cases c : i < (b.length : Int)
 ·rw [if_pos c, if_pos h0]
  exact ⟨_, _, _, rfl, and_range _ 255 (by omega) (by omega), by rw [w64 (by omega) (by omega)]; omega⟩
 ·rw [if_neg c]
  exact ⟨_, _, _, rfl, and_range _ 255 (by omega) (by omega), h0⟩

theorem spec_l01Below_ev (b : List Int) (hb : b.length ≤ 1000000000) (i h n : Int) (h0 : 0 ≤ i) : ∃ x j g, spec_l01Below.f b i h n = some (x, j, g) ∧ (0 ≤ x ∧ (1 ≤ n → x < n)) ∧ 0 ≤ j := by
 unfold spec_l01Below.f
 by_cases c : n ≤ 0
 ·rw [if_pos c]; exact ⟨_, _, _, rfl, ⟨by omega, by omega⟩, h0⟩
 ·rw [if_neg c]
  obtain ⟨x1, j1, g1, e1, b1, i1⟩ := spec_l01Byte_ev b hb i h h0
  by_cases c2 : n ≤ 256
  ·rw [if_pos c2, e1]
   simp only [Option.bind_some]
   rw [if_neg (by omega), Int.tmod_eq_emod_of_nonneg (by omega)]
   refine ⟨_, _, _, rfl, ⟨Int.emod_nonneg _ (by omega), fun _ => Int.emod_lt_of_pos _ (by omega)⟩, i1⟩
  ·rw [if_neg c2, e1]
   simp only [Option.bind_some]
   obtain ⟨x2, j2, g2, e2, b2, i2⟩ := spec_l01Byte_ev b hb j1 g1 i1
   rw [e2]; simp only [Option.bind_some]
   obtain ⟨x3, j3, g3, e3, b3, i3⟩ := spec_l01Byte_ev b hb j2 g2 i2
   rw [e3]; simp only [Option.bind_some]
   obtain ⟨x4, j4, g4, e4, b4, i4⟩ := spec_l01Byte_ev b hb j3 g3 i3
   rw [e4]; simp only [Option.bind_some]
   rw [if_neg (by omega)]
   rw [w64 (n := x1 * 16777216) (by omega) (by omega), w64 (n := x2 * 65536) (by omega) (by omega), w64 (n := x3 * 256) (by omega) (by omega), w64 (n := x1 * 16777216 + x2 * 65536) (by omega) (by omega), w64 (n := x1 * 16777216 + x2 * 65536 + x3 * 256) (by omega) (by omega), w64 (n := x1 * 16777216 + x2 * 65536 + x3 * 256 + x4) (by omega) (by omega), Int.tmod_eq_emod_of_nonneg (by omega)]
   refine ⟨_, _, _, rfl, ⟨Int.emod_nonneg _ (by omega), fun _ => Int.emod_lt_of_pos _ (by omega)⟩, i4⟩

theorem spec_l01Once_ev (b : List Int) (hb : b.length ≤ 1000000000) (i h n : Int) (h0 : 0 ≤ i) : ∃ x j g, spec_l01Once.f b i h n = some (x, j, g) ∧ 0 ≤ j := by
 unfold spec_l01Once.f
 obtain ⟨x, j, g, e, _, hj⟩ := spec_l01Below_ev b hb i h n h0
 rw [e]
 exact ⟨_, _, _, rfl, hj⟩

theorem spec_l01Int_ev (b : List Int) (hb : b.length ≤ 1000000000) (i h : Int) (h0 : 0 ≤ i) (l : List Int) (hl : 1 ≤ l.length) : ∃ x j g, spec_l01Int.f b i h l = some (x, j, g) ∧ x ∈ l ∧ 0 ≤ j := by
 unfold spec_l01Int.f
 obtain ⟨x, j, g, e, hx, hj⟩ := spec_l01Below_ev b hb i h l.length h0
 rw [e]
 simp only [Option.bind_some]
 have := hx.2 (by omega)
 rw [if_pos hx.1, if_pos this]
 exact ⟨_, _, _, rfl, rd_mem hx.1 this, hj⟩

theorem spec_l01New_l (b : List Int) : ∀ (d i : Nat) (h : Int), i + d = 4000 → ∃ g, Ev (fun k => spec_l01New.l0 k b h i) (b, 0, g) := by
 intro d
 induction d with
 | zero =>
  intro i h hi
  refine ⟨h, ?_⟩
  apply Ev.succ
  simp only [spec_l01New.l0.eq_2]
  refine Ev.ite (fun c => Ev.neg (by omega) (Ev.now _)) (fun c => Ev.now _)
 | succ d ih =>
  intro i h hi
  by_cases c : (i : Int) < (b.length : Int)
  ·obtain ⟨g, hg⟩ := ih (i + 1) (Go.bits .and .i64 (wrap64 ((wrap64 ((wrap64 (h * 1103)) + (wrap64 (rd b i)))) + 7)) 1073741823) (by omega)
   refine ⟨g, ?_⟩
   apply Ev.succ
   simp only [spec_l01New.l0.eq_2]
   refine Ev.pos c (Ev.pos (by omega) (Ev.pos (by omega) ?_))
   rw [w64 (n := (i : Int) + 1) (by omega) (by omega)]
   exact hg
  ·refine ⟨h, ?_⟩
   apply Ev.succ
   simp only [spec_l01New.l0.eq_2]
   exact Ev.neg c (Ev.now _)
theorem spec_l01New_ev (b : List Int) : ∃ g, Ev (fun k => spec_l01New.f k b) (b, 0, g) := by
 simp only [spec_l01New.f]
 exact spec_l01New_l b 4000 0 _ (by omega)


/-- How many nodes, and how many letters, an expression of some depth has at most. -/
def nN : Nat → Nat
 | 0 => 1
 | d + 1 => 2 * nN d + 1
def nT : Nat → Nat
 | 0 => 10
 | d + 1 => 2 * nT d + 7
/-- An expression that was drawn. -/
structure Dr (d : Nat) (x : S25) : Prop where
 shp : shp25 x = true
 dep : dep25 x ≤ d + 1
 sub : 1 + sub25 x ≤ nN d
 size : (tx25 x).size ≤ nT d
theorem Dr.up {d : Nat} {x : S25} (h : Dr d x) : Dr (d + 1) x := by
 obtain ⟨h1, h2, h3, h4⟩ := h
 exact ⟨h1, by omega, by simp only [nN]; omega, by simp only [nT]; omega⟩
theorem Dr.leaf (u : Int) (h0 : 0 ≤ u) (h1 : u ≤ 1000000007) : Dr 0 ⟨1, u, []⟩ := by
 have hl : lim 30 = 102945566047324 := by rfl
 refine ⟨?_, by simp [dep25, depL25], by simp [sub25, subL25, nN], ?_⟩
 ·rw [shp25_eq, Bool.and_eq_true]
  refine ⟨?_, rfl⟩
  simp only [nodeOk, decide_eq_true_eq]
  exact ⟨by omega, by simp [arity], .inl trivial, h0, by omega⟩
 ·rw [tx25_eq]
  unfold txC
  rw [if_pos rfl]
  obtain ⟨n, rfl⟩ : ∃ n : Nat, u = (n : Int) := ⟨u.toNat, by omega⟩
  have : (Lib.decDigits n).length ≤ 10 := by rw [Lib.decDigits_length]; exact nDig_le 9 n (by omega)
  show (numB (n : Int)).size ≤ 10
  have e : (numB (n : Int)).size = (Lib.decDigits n).length := by
   unfold numB
   rw [Lib.itoa_nonneg]
   simp [ByteArray.size]
  omega
theorem Dr.one {d : Nat} {p : S25} (a : Int) (ha : a = 2 ∨ a = 3) (h : Dr d p) : Dr (d + 1) ⟨a, 0, [p]⟩ := by
 obtain ⟨h1, h2, h3, h4⟩ := h
 have hl : (0 : Int) ≤ lim 30 := by rw [show lim 30 = 102945566047324 by rfl]; omega
 refine ⟨?_, ?_, ?_, ?_⟩
 ·rw [shp25_eq, Bool.and_eq_true]
  refine ⟨?_, by simp [shpL25, h1]⟩
  simp only [nodeOk, decide_eq_true_eq]
  refine ⟨by omega, ?_, .inr trivial, by omega, hl⟩
  unfold arity
  rw [if_neg (by omega), if_pos (by omega)]
  rfl
 ·simp only [dep25, depL25]; omega
 ·simp only [sub25, subL25, nN]; omega
 ·rw [tx25_eq]
  unfold txC
  have w := wr_size 3 (p.f0, tx25 p)
  dsimp only at w
  simp only [txL25, List.getD_cons_zero, nT]
  rw [if_neg (by omega)]
  split
  ·simp only [ByteArray.size_append', ByteArray.size_mk', List.size_toArray, List.length_cons, List.length_nil]; omega
  ·rw [if_pos (by omega)]
   simp only [ByteArray.size_append', ByteArray.size_mk', List.size_toArray, List.length_cons, List.length_nil]; omega
theorem Dr.two {d : Nat} {p q : S25} (a : Int) (ha : 4 ≤ a ∧ a ≤ 8) (h : Dr d p) (h' : Dr d q) : Dr (d + 1) ⟨a, 0, [p, q]⟩ := by
 obtain ⟨h1, h2, h3, h4⟩ := h
 obtain ⟨g1, g2, g3, g4⟩ := h'
 have hl : (0 : Int) ≤ lim 30 := by rw [show lim 30 = 102945566047324 by rfl]; omega
 refine ⟨?_, ?_, ?_, ?_⟩
 ·rw [shp25_eq, Bool.and_eq_true]
  refine ⟨?_, by simp [shpL25, h1, g1]⟩
  simp only [nodeOk, decide_eq_true_eq]
  refine ⟨by omega, ?_, .inr trivial, by omega, hl⟩
  unfold arity
  rw [if_neg (by omega), if_neg (by omega)]
  rfl
 ·simp only [dep25, depL25]; omega
 ·simp only [sub25, subL25, nN]; omega
 ·rw [tx25_eq]
  unfold txC
  have w := wr_size (lev a) (p.f0, tx25 p)
  have w' := wr_size (lev a + 1) (q.f0, tx25 q)
  dsimp only at w w'
  simp only [txL25, List.getD_cons_zero, List.getD_cons_succ, nT]
  rw [if_neg (by omega), if_neg (by omega), if_neg (by omega)]
  simp only [ByteArray.size_append', opS_size]; omega
theorem spec_l10Draw_leaf (b : List Int) (hb : b.length ≤ 1000000000) (i h a : Int) (h0 : 0 ≤ i) : ∃ x : S25, ∃ j g, Ev (fun k => spec_l10Draw.j0 k a true b i h) (x.f0, x.f1, x.f2, j, g) ∧ Dr 0 x ∧ 0 ≤ j := by
 obtain ⟨v, j1, g1, e1, hv, hj1⟩ := spec_l01Below_ev b hb i h 100 h0
 obtain ⟨u, j2, g2, e2, hu, hj2⟩ := spec_l01Int_ev b hb j1 g1 hj1 [0, 1, 2, 3, 5, 13, 40, 364, 9841, 9842, v, 1000000007] (by simp)
 have hv2 := hv.2 (by omega)
 have hu2 : 0 ≤ u ∧ u ≤ 1000000007 := by
  simp only [List.mem_cons, List.not_mem_nil, or_false] at hu
  omega
 refine ⟨⟨1, u, []⟩, j2, g2, ?_, Dr.leaf u hu2.1 hu2.2, hj2⟩
 apply Ev.succ
 simp only [spec_l10Draw.j0.eq_2]
 exact Ev.pos (by trivial) (Ev.bindc e1 (Ev.bindc e2 (Ev.now _)))
theorem spec_l10Draw_ev (b : List Int) (hb : b.length ≤ 1000000000) : ∀ (d : Nat) (i h : Int), 0 ≤ i → d ≤ 10 → ∃ x : S25, ∃ j g, Ev (fun k => spec_l10Draw.f k b i h ((d : Int) + 1)) (x.f0, x.f1, x.f2, j, g) ∧ Dr d x ∧ 0 ≤ j := by
 intro d
 induction d with
 | zero =>
  intro i h h0 _
  obtain ⟨x, j, g, e, hx, hj⟩ := spec_l10Draw_leaf b hb i h _ h0
  refine ⟨x, j, g, ?_, hx, hj⟩
  apply Ev.succ
  simp only [spec_l10Draw.f.eq_2]
  exact Ev.pos (by omega) e
 | succ d ih =>
  intro i h h0 hd
  obtain ⟨z, j1, g1, e1, hj1⟩ := spec_l01Once_ev b hb i h 4 h0
  have top : ∀ (x : S25) (j g : Int), Ev (fun k => spec_l10Draw.j0 k (((d + 1 : Nat) : Int) + 1) z b j1 g1) (x.f0, x.f1, x.f2, j, g) → Ev (fun k => spec_l10Draw.f k b i h (((d + 1 : Nat) : Int) + 1)) (x.f0, x.f1, x.f2, j, g) := by
   intro x j g e
   apply Ev.succ
   simp only [spec_l10Draw.f.eq_2]
   exact Ev.neg (by omega) (Ev.bindc e1 e)
  cases z with
  | true =>
   obtain ⟨x, j, g, e, hx, hj⟩ := spec_l10Draw_leaf b hb j1 g1 (((d + 1 : Nat) : Int) + 1) hj1
   refine ⟨x, j, g, top x j g e, ?_, hj⟩
   clear top e ih
   induction d with
   | zero => exact hx.up
   | succ d ihd => exact (ihd (by omega)).up
  | false =>
   obtain ⟨z2, j2, g2, e2, hj2⟩ := spec_l01Once_ev b hb j1 g1 4 hj1
   have ew : wrap64 (((d + 1 : Nat) : Int) + 1 - 1) = (d : Int) + 1 := by rw [w64 (by omega) (by omega)]; omega
   cases z2 with
   | true =>
    obtain ⟨c, j3, g3, e3, hc, hj3⟩ := spec_l01Below_ev b hb j2 g2 2 hj2
    obtain ⟨p, j4, g4, e4, hp, hj4⟩ := ih j3 g3 hj3 (by omega)
    have hc2 := hc.2 (by omega)
    refine ⟨⟨2 + c, 0, [p]⟩, j4, g4, top _ _ _ ?_, Dr.one (2 + c) (by omega) hp, hj4⟩
    apply Ev.succ
    simp only [spec_l10Draw.j0.eq_2, ew]
    refine Ev.neg (by simp) (Ev.bindc e2 (Ev.pos (by trivial) (Ev.bindc e3 (Ev.bind e4 (Ev.ret ?_)))))
    rw [w64 (by omega) (by omega), eta25]
   | false =>
    obtain ⟨c, j3, g3, e3, hc, hj3⟩ := spec_l01Below_ev b hb j2 g2 5 hj2
    obtain ⟨p, j4, g4, e4, hp, hj4⟩ := ih j3 g3 hj3 (by omega)
    obtain ⟨q, j5, g5, e5, hq, hj5⟩ := ih j4 g4 hj4 (by omega)
    have hc2 := hc.2 (by omega)
    refine ⟨⟨4 + c, 0, [p, q]⟩, j5, g5, top _ _ _ ?_, Dr.two (4 + c) (by omega) hp hq, hj5⟩
    apply Ev.succ
    simp only [spec_l10Draw.j0.eq_2, ew]
    refine Ev.neg (by simp) (Ev.bindc e2 (Ev.neg (by simp) (Ev.bindc e3 (Ev.bind e4 (Ev.bind e5 (Ev.ret ?_))))))
    rw [w64 (by omega) (by omega), eta25, eta25]
theorem Dr.good {d : Nat} {x : S25} (h : Dr d x) (hd : d ≤ 4) : isE x = true := by
 have h2 := h.dep
 have h3 := h.sub
 have hn : nN d ≤ 31 := by
  match d, hd with
  | 0, _ => decide
  | 1, _ => decide
  | 2, _ => decide
  | 3, _ => decide
  | 4, _ => decide
 unfold isE
 rw [Bool.and_eq_true, decide_eq_true_eq]
 exact ⟨by omega, h.shp⟩
theorem Dr.text {d : Nat} {x : S25} (h : Dr d x) (hd : d ≤ 4) : (tx25 x).size ≤ 265 := by
 have h3 := h.size
 have hn : nT d ≤ 265 := by
  match d, hd with
  | 0, _ => decide
  | 1, _ => decide
  | 2, _ => decide
  | 3, _ => decide
  | 4, _ => decide
 omega

theorem spec_MakeExpr_ev (b : List Int) (hb : b.length ≤ 1000000000) (m : Nat) (h1 : 1 ≤ m) (h5 : m ≤ 5) : ∃ x : S25, Ev (fun k => spec_MakeExpr.f k b (m : Int)) (x.f0, x.f1, x.f2) ∧ Dr (m - 1) x := by
 obtain ⟨g, e⟩ := spec_l01New_ev b
 obtain ⟨x, j, g2, e2, hx, _⟩ := spec_l10Draw_ev b hb (m - 1) 0 g (by omega) (by omega)
 refine ⟨x, ?_, hx⟩
 simp only [spec_MakeExpr.f]
 have em : mx 1 (mn (m : Int) 5) = ((m - 1 : Nat) : Int) + 1 := by unfold mx mn; split <;> (try split) <;> omega
 rw [em]
 exact Ev.bind e (Ev.bind e2 (Ev.now _))

theorem spec_l10Copy_l (l : List S25) (a b : Int) (hl : l.length ≤ 1048576) (ih : ∀ y ∈ l, Ev (fun k => spec_l10Copy.f k y.f0 y.f1 y.f2) (y.f0, y.f1, y.f2)) :
  ∀ (d i : Nat) (x : List S25), i + d = l.length → x = l.take i → Ev (fun k => spec_l10Copy.l0 k l (l.length : Int) i a b x) (a, b, l) := by
 intro d
 induction d with
 | zero =>
  intro i x hi hx
  subst hx
  apply Ev.succ
  simp only [spec_l10Copy.l0.eq_2]
  refine Ev.neg (by omega) (Ev.ret ?_)
  rw [List.take_of_length_le (by omega)]
 | succ d ihd =>
  intro i x hi hx
  subst hx
  have hlt : i < l.length := by omega
  apply Ev.succ
  simp only [spec_l10Copy.l0.eq_2]
  refine Ev.pos (by omega) (Ev.pos (by omega) (Ev.pos (by omega) ?_))
  rw [rd25_get l i hlt, w64 (by omega) (by omega)]
  refine Ev.bind (ih _ (List.getElem_mem hlt)) (Ev.pos (by simp only [List.length_take]; omega) ?_)
  exact ihd (i + 1) _ (by omega) (by simp only [take_snoc l i hlt, eta25])
theorem spec_l10Copy_ev (x : S25) (hs : sub25 x ≤ 1048576) : Ev (fun k => spec_l10Copy.f k x.f0 x.f1 x.f2) (x.f0, x.f1, x.f2) := by
 induction x using S25.ind with
 | h x ih =>
  have hl := subL25_len x.f2
  rw [sub25_eq] at hs
  apply Ev.succ
  simp only [spec_l10Copy.f.eq_2]
  exact spec_l10Copy_l x.f2 x.f0 x.f1 (by omega) (fun y hy => ih y hy (by have := subL25_mem hy; omega)) x.f2.length 0 _ (by omega) (by simp)

/-- One node of the negated expression, from the negated kids m. -/
def negC (a b : Int) (l m : List S25) : S25 :=
 if a = 2 then ⟨2, 0, [rd_T25 m 0]⟩ else if a = 3 then ⟨2, 0, [rd_T25 l 0]⟩ else if a = 4 ∨ a = 5 then ⟨a, 0, [rd_T25 m 0, rd_T25 m 1]⟩ else if a = 6 then ⟨6, 0, [rd_T25 m 0, rd_T25 l 1]⟩ else ⟨3, 0, [⟨a, b, l⟩]⟩
mutual
def neg25 : S25 → S25
 | ⟨a, b, l⟩ => negC a b l (negL25 l)
def negL25 : List S25 → List S25
 | [] => []
 | x :: xs => neg25 x :: negL25 xs
end
theorem neg25_eq (x : S25) : neg25 x = negC x.f0 x.f1 x.f2 (negL25 x.f2) := by cases x; rfl
/-- What an expression of the right shape is: its kids, by its kind. -/
theorem kids_ofZ74 {x : S25} (h : shp25 x = true) : ((x.f0 = 2 ∨ x.f0 = 3) → ∃ p, x.f2 = [p] ∧ shp25 p = true) ∧ ((x.f0 = 4 ∨ x.f0 = 5 ∨ x.f0 = 6) → ∃ p q, x.f2 = [p, q] ∧ shp25 p = true ∧ shp25 q = true) := by
 obtain ⟨ha, hs⟩ := shp25_arity h
 constructor
 ·intro h0
  have : (x.f2.length : Int) = 1 := by rw [ha]; unfold arity; rw [if_neg (by omega), if_pos (by omega)]
  match hx : x.f2, this with
  | [p], _ =>
   rw [hx] at hs
   simp only [shpL25, Bool.and_eq_true] at hs
   exact ⟨p, rfl, hs.1⟩
 ·intro h0
  have : (x.f2.length : Int) = 2 := by rw [ha]; unfold arity; rw [if_neg (by omega), if_neg (by omega)]
  match hx : x.f2, this with
  | [p, q], _ =>
   rw [hx] at hs
   simp only [shpL25, Bool.and_eq_true] at hs
   exact ⟨p, q, rfl, hs.1, hs.2.1⟩
theorem sub_neg (x : S25) (h : shp25 x = true) : sub25 (neg25 x) ≤ 2 * sub25 x + 1 := by
 induction x using S25.ind with
 | h x ih =>
  obtain ⟨k1, k2⟩ := kids_ofZ74 h
  have e : sub25 x = subL25 x.f2 := sub25_eq x
  rw [neg25_eq, e]
  unfold negC
  split
  ·rename_i h2
   obtain ⟨p, hp, sp⟩ := k1 (.inl h2)
   have := ih p (by rw [hp]; simp) sp
   rw [hp]
   simp only [negL25, rd_T25, sub25, subL25, List.getD_cons_zero, Int.toNat_zero]
   simp
   omega
  ·split
   ·rename_i h2
    obtain ⟨p, hp, sp⟩ := k1 (.inr h2)
    rw [hp]
    simp only [negL25, rd_T25, sub25, subL25, List.getD_cons_zero, Int.toNat_zero]
    simp
    omega
   ·split
    ·rename_i h2
     obtain ⟨p, q, hp, sp, sq⟩ := k2 (by omega)
     have i1 := ih p (by rw [hp]; simp) sp
     have i2 := ih q (by rw [hp]; simp) sq
     rw [hp]
     simp [negL25, rd_T25, sub25, subL25]
     omega
    ·split
     ·rename_i h2
      obtain ⟨p, q, hp, sp, sq⟩ := k2 (by omega)
      have i1 := ih p (by rw [hp]; simp) sp
      rw [hp]
      simp [negL25, rd_T25, sub25, subL25]
      omega
     ·simp [sub25, subL25]
      omega

theorem spec_l10Negate_ev (x : S25) (hs : sub25 x ≤ 1048576) (h : shp25 x = true) : Ev (fun k => spec_l10Negate.f k x.f0 x.f1 x.f2) ((neg25 x).f0, (neg25 x).f1, (neg25 x).f2) := by
 induction x using S25.ind with
 | h x ih =>
  obtain ⟨k1, k2⟩ := kids_of h
  have e : sub25 x = subL25 x.f2 := sub25_eq x
  have cx := spec_l10Copy_ev x hs
  rw [neg25_eq]
  unfold negC
  apply Ev.succ
  simp only [spec_l10Negate.f.eq_2]
  by_cases h2 : x.f0 = 2
  ·obtain ⟨p, hp, sp⟩ := k1 (.inl h2)
   have ip := ih p (by rw [hp]; simp) (by rw [e, hp] at hs; simp only [subL25] at hs; omega) sp
   rw [if_pos h2, hp]
   simp only [negL25, rd_T25]
   exact Ev.pos h2 (Ev.pos (by simp) (Ev.bind ip (Ev.ret (by simp [eta25]))))
  refine Ev.neg h2 ?_
  rw [if_neg h2]
  by_cases h3 : x.f0 = 3
  ·obtain ⟨p, hp, sp⟩ := k1 (.inr h3)
   have ip := spec_l10Copy_ev p (by rw [e, hp] at hs; simp only [subL25] at hs; omega)
   rw [if_pos h3, hp]
   simp only [negL25, rd_T25]
   exact Ev.pos h3 (Ev.pos (by simp) (Ev.bind ip (Ev.ret (by simp [eta25]))))
  refine Ev.neg h3 ?_
  rw [if_neg h3]
  by_cases h4 : x.f0 = 4 ∨ x.f0 = 5
  ·obtain ⟨p, q, hp, sp, sq⟩ := k2 (by omega)
   have ip := ih p (by rw [hp]; simp) (by rw [e, hp] at hs; simp only [subL25] at hs; omega) sp
   have iq := ih q (by rw [hp]; simp) (by rw [e, hp] at hs; simp only [subL25] at hs; omega) sq
   rw [if_pos h4, hp]
   simp only [negL25, rd_T25]
   have j : ∀ t : Bool, t = true → Ev (fun k => spec_l10Negate.j0 k x.f0 t x.f0 x.f1 [p, q]) (x.f0, 0, [neg25 p, neg25 q]) := by
    intro t ht
    apply Ev.succ
    simp only [spec_l10Negate.j0.eq_2, rd_T25]
    exact Ev.pos ht (Ev.pos (by simp) (Ev.bind ip (Ev.pos (by simp) (Ev.bind iq (Ev.ret (by simp [eta25]))))))
   exact Ev.ite (fun g => j _ (by simp [g])) (fun g => j _ (by simp; omega))
  rw [if_neg h4]
  have j : ∀ t : Bool, t = false → Ev (fun k => spec_l10Negate.j0 k x.f0 t x.f0 x.f1 x.f2) ((if x.f0 = 6 then (⟨6, 0, [rd_T25 (negL25 x.f2) 0, rd_T25 x.f2 1]⟩ : S25) else ⟨3, 0, [⟨x.f0, x.f1, x.f2⟩]⟩).f0, (if x.f0 = 6 then (⟨6, 0, [rd_T25 (negL25 x.f2) 0, rd_T25 x.f2 1]⟩ : S25) else ⟨3, 0, [⟨x.f0, x.f1, x.f2⟩]⟩).f1, (if x.f0 = 6 then (⟨6, 0, [rd_T25 (negL25 x.f2) 0, rd_T25 x.f2 1]⟩ : S25) else ⟨3, 0, [⟨x.f0, x.f1, x.f2⟩]⟩).f2) := by
   intro t ht
   apply Ev.succ
   simp only [spec_l10Negate.j0.eq_2]
   refine Ev.neg (by simp [ht]) ?_
   by_cases h6 : x.f0 = 6
   ·obtain ⟨p, q, hp, sp, sq⟩ := k2 (by omega)
    have ip := ih p (by rw [hp]; simp) (by rw [e, hp] at hs; simp only [subL25] at hs; omega) sp
    have iq := spec_l10Copy_ev q (by rw [e, hp] at hs; simp only [subL25] at hs; omega)
    rw [if_pos h6, hp]
    simp only [negL25, rd_T25]
    refine Ev.pos h6 (Ev.pos (by simp) (Ev.bind ip (Ev.pos (by simp) (Ev.bind iq ?_))))
    refine Ev.ret ?_
    simp [h6, eta25]
   ·rw [if_neg h6]
    exact Ev.neg h6 (Ev.bind cx (Ev.ret (by simp [eta25])))
  exact Ev.ite (fun g => absurd g (by omega)) (fun g => j _ (by simp; omega))

/-- What both answer. -/
def negT (x : S25) : S25 × Bool := if isE x = true then (if isE (neg25 x) = true then (neg25 x, true) else (⟨0, 0, []⟩, false)) else (⟨0, 0, []⟩, false)
theorem spec_NegateExpr_ev (x : S25) (hs : sub25 x ≤ 1048576) : Ev (fun k => spec_NegateExpr.f k x.f0 x.f1 x.f2) ((negT x).1.f0, (negT x).1.f1, (negT x).1.f2, (negT x).2) := by
 simp only [spec_NegateExpr.f]
 unfold negT
 refine Ev.bind (spec_IsExpr_ev x hs) ?_
 by_cases h : isE x = true
 ·rw [if_pos h]
  refine Ev.pos h ?_
  obtain ⟨h1, h2⟩ := isE_shp h
  refine Ev.bind (spec_l10Negate_ev x hs h1) (Ev.bind (spec_IsExpr_ev (neg25 x) (by have := sub_neg x h1; omega)) ?_)
  by_cases g : isE (neg25 x) = true
  ·rw [if_pos g, if_pos g]; exact Ev.now _
  ·rw [if_neg g, if_neg g]; exact Ev.now _
 ·rw [if_neg h]; exact Ev.neg h (Ev.now _)
theorem negT_sub (x : S25) : sub25 (negT x).1 ≤ 60 := by
 unfold negT
 split
 ·split
  ·rename_i h; exact (isE_shp h).2
  ·simp [sub25, subL25]
 ·simp [sub25, subL25]

/-- A value that must be one of a word of 30 trits. -/
def resV (v : Int) : Int × Bool := (v, fitsB v 30)
def absI (x : Int) : Int := if x < 0 then -x else x
/-- What an operation makes of its parts' values. -/
def comb (a b : Int) (xs : List Int) : Int × Bool :=
 if a = 2 then resV (rd xs 0) else if a = 3 then resV (-(rd xs 0)) else if a = 4 then resV (rd xs 0 + rd xs 1) else if a = 5 then resV (rd xs 0 - rd xs 1)
 else if a = 6 then (if rd xs 0 = 0 then resV (rd xs 0 * rd xs 1) else if absI (rd xs 1) > Int.tdiv (lim 30) (absI (rd xs 0)) then (0, false) else resV (rd xs 0 * rd xs 1))
 else if a = 7 ∨ a = 8 then (if rd xs 1 = 0 then (0, false) else if a = 8 then resV (divr (rd xs 0) (rd xs 1)) else resV (Int.tdiv (rd xs 0 - divr (rd xs 0) (rd xs 1)) (rd xs 1)))
 else resV b
mutual
/-- An expression's value, and whether it has one. -/
def ev25 : S25 → Int × Bool
 | ⟨a, b, l⟩ => match evL25 l with
  | none => (0, false)
  | some xs => comb a b xs
def evL25 : List S25 → Option (List Int)
 | [] => some []
 | x :: xs => if (ev25 x).2 = true then (evL25 xs).map (fun ys => (ev25 x).1 :: ys) else none
end
def combO (a b : Int) : Option (List Int) → Int × Bool
 | none => (0, false)
 | some xs => comb a b xs
theorem ev25_eq (x : S25) : ev25 x = combO x.f0 x.f1 (evL25 x.f2) := by
 cases x; rw [ev25]; unfold combO; rfl
theorem evL25_drop (xs : List S25) (i : Nat) (h : i < xs.length) : evL25 (xs.drop i) = if (ev25 xs[i]).2 = true then (evL25 (xs.drop (i + 1))).map (fun ys => (ev25 xs[i]).1 :: ys) else none := by
 rw [drop_cons xs i h, evL25]
/-- The values so far, with those that come. -/
def accO (acc : List Int) (o : Option (List Int)) : Option (List Int) := o.map (fun ys => acc ++ ys)
theorem lim30 : lim 30 = 102945566047324 := by rfl
def inL (v : Int) : Prop := -102945566047324 ≤ v ∧ v ≤ 102945566047324
theorem fits_inL {v : Int} (h : fitsB v 30 = true) : inL v := by
 unfold fitsB at h; rw [lim30] at h; simpa [inL] using h
theorem resV_ok (v : Int) (h : (resV v).2 = true) : inL (resV v).1 := fits_inL h
theorem comb_form (a b : Int) (xs : List Int) : (∃ v, comb a b xs = resV v) ∨ comb a b xs = (0, false) := by
 unfold comb
 repeat' split
 all_goals first | exact .inl ⟨_, rfl⟩ | exact .inr rfl
theorem comb_ok (a b : Int) (xs : List Int) (h : (comb a b xs).2 = true) : inL (comb a b xs).1 := by
 rcases comb_form a b xs with ⟨v, e⟩ | e
 ·rw [e] at h ⊢; exact resV_ok _ h
 ·rw [e] at h; simp at h
theorem ev25_ok (x : S25) (h : (ev25 x).2 = true) : inL (ev25 x).1 := by
 rw [ev25_eq] at h ⊢
 unfold combO at h ⊢
 split
 ·rename_i e; rw [e] at h; simp at h
 ·rename_i e; rw [e] at h; exact comb_ok _ _ _ h
theorem mul_le_of_tdiv (x y : Int) (hx : inL x) (hy : inL y) (h0 : x ≠ 0) (h : ¬ absI y > Int.tdiv (lim 30) (absI x)) : inL (x * y) := by
 rw [lim30] at h
 have hp : 0 < absI x := by unfold absI; split <;> omega
 rw [Int.tdiv_eq_ediv_of_nonneg (by omega)] at h
 have h1 : absI y * absI x ≤ 102945566047324 := (Int.le_ediv_iff_mul_le hp).1 (by omega)
 have h2 : x * y = absI y * absI x ∨ x * y = -(absI y * absI x) := by
  unfold absI
  split <;> split
  ·left; rw [Int.neg_mul_neg, Int.mul_comm]
  ·right; rw [Int.neg_mul, Int.neg_neg, Int.mul_comm]
  ·right; rw [Int.mul_neg, Int.neg_neg, Int.mul_comm]
  ·left; rw [Int.mul_comm]
 have h3 : 0 ≤ absI y * absI x := Int.mul_nonneg (by unfold absI; split <;> omega) (by omega)
 unfold inL
 rcases h2 with e | e <;> rw [e] <;> omega
theorem rd01 (xs : List Int) (h : ∀ v ∈ xs, inL v) (i : Int) (h0 : 0 ≤ i) (h1 : i < xs.length) : inL (rd xs i) := h _ (rd_mem h0 h1)
theorem shpL25_mem {l : List S25} (h : shpL25 l = true) {y : S25} (hy : y ∈ l) : shp25 y = true := by
 induction l with
 | nil => simp at hy
 | cons x xs ih =>
  rw [shpL25, Bool.and_eq_true] at h
  rcases List.mem_cons.1 hy with rfl | hy
  ·exact h.1
  ·exact ih h.2 hy
/-- What both say of an expression. -/
def evE (x : S25) : Int × Bool := if isE x = true then (if (ev25 x).2 = true then ((ev25 x).1, true) else (0, false)) else (0, false)

def kids (a : Int) : Int := if a = 1 then 0 else if a = 2 ∨ a = 3 then 1 else if 4 ≤ a ∧ a ≤ 8 then 2 else -1
theorem impl_kids_ev (a : Int) : Ev (fun k => impl_kids.f k a) (kids a) := by
 have j0 : ∀ b : Bool, Ev (fun k => impl_kids.j0 k a b) (if b = true then 1 else if 4 ≤ a ∧ a ≤ 8 then 2 else -1) := by
  intro b
  apply Ev.succ
  simp only [impl_kids.j0.eq_2]
  refine Ev.ite (fun h => Ev.ret (by rw [if_pos h])) (fun h => ?_)
  rw [if_neg h]
  refine Ev.ite (fun _ => Ev.ret (by rw [if_pos (by omega)])) (fun _ => Ev.ite (fun _ => Ev.ret (by rw [if_pos (by omega)])) (fun _ => Ev.ite (fun _ => Ev.ret (by rw [if_pos (by omega)])) (fun _ => Ev.ite (fun _ => Ev.ret (by rw [if_pos (by omega)])) (fun _ => Ev.ite (fun _ => Ev.ret (by rw [if_pos (by omega)])) (fun _ => Ev.ret (by rw [if_neg (by omega)]))))))
 simp only [impl_kids.f]
 unfold kids
 refine Ev.ite (fun h => Ev.ret (by rw [if_pos h])) (fun h => ?_)
 rw [if_neg h]
 refine Ev.ite (fun h' => evTo (j0 _) ?_) (fun h' => evTo (j0 _) ?_)
 ·simp [h']
 ·simp [h']

theorem impl_power_l (n : Nat) (hn : n ≤ 30) : ∀ (d i : Nat), i + d = n → Ev (fun k => impl_power.l0 k ((3 : Int) ^ i) n i) ((3 : Int) ^ n) := by
 intro d
 induction d with
 | zero =>
  intro i hi
  apply Ev.succ
  simp only [impl_power.l0.eq_2]
  refine Ev.neg (by omega) (Ev.ret ?_)
  rw [← hi]; rfl
 | succ d ih =>
  intro i hi
  apply Ev.succ
  simp only [impl_power.l0.eq_2]
  have h1 := pow3_30 (i := i + 1) (by omega)
  have h2 := pow3_pos i
  rw [pow3_succ] at h1
  refine Ev.pos (by omega) ?_
  rw [w64 (by omega) (by omega), w64 (by omega) (by omega), Int.mul_comm, ← pow3_succ]
  exact ih (i + 1) (by omega)
theorem impl_power_ev (n : Int) (h0 : 0 ≤ n) (hn : n ≤ 30) : Ev (fun k => impl_power.f k n) ((3 : Int) ^ n.toNat) := by
 obtain ⟨m, rfl⟩ : ∃ m : Nat, n = m := ⟨n.toNat, by omega⟩
 exact impl_power_l m (by omega) m 0 (by omega)

theorem impl_LimitOf_ev (k : Int) : Ev (fun n => impl_LimitOf.f n k) (lim k) := by
 simp only [impl_LimitOf.f]
 unfold lim
 refine Ev.ite (fun h => Ev.ret (by rw [if_neg (by omega)])) (fun h => Ev.ite (fun h1 => Ev.ret (by rw [if_neg (by omega)])) (fun h1 => ?_))
 rw [if_pos (by omega)]
 refine Ev.bind (impl_power_ev k (by omega) (by omega)) (Ev.ret ?_)
 have h2 := pow3_30 (i := k.toNat) (by omega)
 have h3 := pow3_pos k.toNat
 rw [w64 (n := _ - 1) (by omega) (by omega), Int.tdiv_eq_ediv_of_nonneg (by omega), w64 (by omega) (by omega)]

/-- What 'nodes' leaves of a rest. -/
def left (ok : Bool) (b : Int) (n m : Nat) (d : Int) : Int := if ok = true ∧ (n : Int) ≤ b ∧ (m : Int) ≤ d then b - n else -1
theorem impl_nodes_l (l : List S25) (hl : l.length ≤ 1048576) (ih : ∀ y ∈ l, ∀ b d : Int, 0 ≤ b → b ≤ 60 → 0 ≤ d → d ≤ 12 → Ev (fun k => impl_nodes.f k y.f0 y.f1 y.f2 b d) (left (shp25 y) b (1 + sub25 y) (dep25 y) d)) :
  ∀ (d i : Nat) (b e : Int), i + d = l.length → 0 ≤ b → b ≤ 60 → 1 ≤ e → e ≤ 12 → Ev (fun k => impl_nodes.l0 k b e l (l.length : Int) i) (left (shpL25 (l.drop i)) b (subL25 (l.drop i)) (depL25 (l.drop i)) (e - 1)) := by
 intro d
 induction d with
 | zero =>
  intro i b e hi h0 h1 h2 h3
  apply Ev.succ
  simp only [impl_nodes.l0.eq_2]
  refine Ev.neg (by omega) (Ev.ret ?_)
  rw [List.drop_of_length_le (by omega)]
  simp only [left, shpL25, subL25, depL25]
  rw [if_pos ⟨trivial, by omega, by omega⟩]; omega
 | succ d ihd =>
  intro i b e hi h0 h1 h2 h3
  have hlt : i < l.length := by omega
  apply Ev.succ
  simp only [impl_nodes.l0.eq_2]
  refine Ev.pos (by omega) (Ev.pos (by omega) (Ev.pos (by omega) ?_))
  rw [rd25_get l i hlt, w64 (by omega) (by omega), w64 (by omega) (by omega), subL25_drop l i hlt, depL25_drop l i hlt, shpL25_drop l i hlt]
  refine Ev.bind (ih _ (List.getElem_mem hlt) b (e - 1) h0 h1 (by omega) (by omega)) ?_
  by_cases hc : shp25 l[i] = true ∧ ((1 + sub25 l[i] : Nat) : Int) ≤ b ∧ (dep25 l[i] : Int) ≤ e - 1
  ·have e1 : left (shp25 l[i]) b (1 + sub25 l[i]) (dep25 l[i]) (e - 1) = b - ((1 + sub25 l[i] : Nat) : Int) := if_pos hc
   rw [e1]
   refine Ev.neg (by omega) (evTo (ihd (i + 1) _ e (by omega) (by omega) (by omega) h2 h3) ?_)
   unfold left
   rw [hc.1, Bool.true_and]
   by_cases hs : shpL25 (l.drop (i + 1)) = true
   ·rw [hs]; simp only [true_and]
    split
    ·rw [if_pos (by omega)]; omega
    ·rw [if_neg (by omega)]
   ·rw [if_neg (by simp [hs]), if_neg (by simp [hs])]
  ·have e1 : left (shp25 l[i]) b (1 + sub25 l[i]) (dep25 l[i]) (e - 1) = -1 := if_neg hc
   rw [e1]
   refine Ev.pos (by omega) (Ev.ret ?_)
   unfold left
   rw [if_neg]
   intro hh
   apply hc
   rw [Bool.and_eq_true] at hh
   exact ⟨hh.1.1, by omega, by omega⟩
theorem impl_nodes_ev : ∀ (x : S25), sub25 x ≤ 1048576 → ∀ b d : Int, 0 ≤ b → b ≤ 60 → 0 ≤ d → d ≤ 12 → Ev (fun k => impl_nodes.f k x.f0 x.f1 x.f2 b d) (left (shp25 x) b (1 + sub25 x) (dep25 x) d) := by
 intro x
 induction x using S25.ind with
 | h x ih =>
 intro hs b d h0 h1 h2 h3
 have hl := subL25_len x.f2
 rw [sub25_eq] at hs
 have hL : ∀ b e : Int, 0 ≤ b → b ≤ 60 → 1 ≤ e → e ≤ 12 → Ev (fun k => impl_nodes.l0 k b e x.f2 (x.f2.length : Int) 0) (left (shpL25 x.f2) b (subL25 x.f2) (depL25 x.f2) (e - 1)) := by
  intro b e g0 g1 g2 g3
  have := impl_nodes_l x.f2 (by omega) (fun y hy => ih y hy (by have := subL25_mem hy; omega)) x.f2.length 0 b e (by omega) g0 g1 g2 g3
  simpa using this
 have bad : ∀ z : Int, Ev (fun k => impl_nodes.j0 k z d true x.f0 x.f1 x.f2) (-1) := by
  intro z
  apply Ev.succ
  simp only [impl_nodes.j0.eq_2]
  exact Ev.pos trivial (Ev.now _)
 have good : 0 ≤ b - 1 → 1 ≤ d → Ev (fun k => impl_nodes.j0 k (b - 1) d false x.f0 x.f1 x.f2) (left (shpL25 x.f2) (b - 1) (subL25 x.f2) (depL25 x.f2) (d - 1)) := by
  intro g0 g1
  apply Ev.succ
  simp only [impl_nodes.j0.eq_2]
  exact Ev.neg (by simp) (hL _ _ g0 (by omega) g1 h3)
 have no : ∀ z : Int, (¬ (nodeOk x.f0 x.f1 x.f2.length = true ∧ 1 ≤ b ∧ 1 ≤ d)) → Ev (fun k => impl_nodes.j0 k z d true x.f0 x.f1 x.f2) (left (shp25 x) b (1 + sub25 x) (dep25 x) d) := by
  intro z hz
  refine evTo (bad z) ?_
  unfold left
  rw [if_neg]
  rw [shp25_eq, dep25_eq, Bool.and_eq_true]
  intro hh
  exact hz ⟨hh.1.1, by omega, by omega⟩
 have yes : ∀ c : Bool, 0 ≤ b - 1 → 1 ≤ d → (c = false ↔ nodeOk x.f0 x.f1 x.f2.length = true) → Ev (fun k => impl_nodes.j0 k (b - 1) d c x.f0 x.f1 x.f2) (left (shp25 x) b (1 + sub25 x) (dep25 x) d) := by
  intro c g0 g1 hc
  cases c
  ·refine evTo (good g0 g1) ?_
   unfold left
   rw [shp25_eq, hc.1 rfl, Bool.true_and, sub25_eq, dep25_eq]
   by_cases hs : shpL25 x.f2 = true
   ·rw [hs]; simp only [true_and]
    split
    ·rw [if_pos (by omega)]; omega
    ·rw [if_neg (by omega)]
   ·rw [if_neg (by simp [hs]), if_neg (by simp [hs])]
  ·refine no _ (fun hh => ?_)
   have := hc.2 hh.1
   simp at this
 have hk : (x.f2.length : Int) = kids x.f0 ↔ ((1 ≤ x.f0 ∧ x.f0 ≤ 8) ∧ (x.f2.length : Int) = arity x.f0) := by
  unfold kids arity
  split
  ·omega
  ·split
   ·omega
   ·split <;> omega
 apply Ev.succ
 simp only [impl_nodes.f.eq_2]
 rw [w64 (by omega) (by omega)]
 refine Ev.ite (fun c1 => no _ (by omega)) (fun c1 => Ev.ite (fun c2 => no _ (by omega)) (fun c2 => ?_))
 refine Ev.bind (impl_kids_ev _) ?_
 refine Ev.ite (fun c3 => ?_) (fun c3 => no _ ?_)
 ·rw [hk] at c3
  have fin : (x.f0 = 1 ∨ x.f1 = 0) → Ev (fun k => if x.f1 < 0 then impl_nodes.j0 k (b - 1) d true x.f0 x.f1 x.f2 else (impl_LimitOf.f k 30).bind fun t149 => impl_nodes.j0 k (b - 1) d (decide (x.f1 > t149)) x.f0 x.f1 x.f2) (left (shp25 x) b (1 + sub25 x) (dep25 x) d) := by
   intro h5
   refine Ev.ite (fun c5 => no _ ?_) (fun c5 => ?_)
   ·simp only [nodeOk, decide_eq_true_eq]; omega
   ·refine Ev.bind (impl_LimitOf_ev 30) (yes _ (by omega) (by omega) ?_)
    simp only [nodeOk, decide_eq_true_eq, decide_eq_false_iff_not]
    omega
  refine Ev.ite (fun c4 => fin (.inr c4)) (fun c4 => Ev.ite (fun c6 => fin (.inl c6)) (fun c6 => no _ ?_))
  simp only [nodeOk, decide_eq_true_eq]; omega
 ·rw [hk] at c3
  simp only [nodeOk, decide_eq_true_eq]
  intro hh; exact c3 ⟨hh.1.1, hh.1.2.1⟩

theorem impl_IsExpr_ev (x : S25) (hs : sub25 x ≤ 1048576) : Ev (fun k => impl_IsExpr.f k x.f0 x.f1 x.f2) (isE x) := by
 simp only [impl_IsExpr.f]
 refine Ev.bind (impl_nodes_ev x hs 60 12 (by omega) (by omega) (by omega) (by omega)) (Ev.ret ?_)
 unfold left isE
 by_cases hc : shp25 x = true ∧ ((1 + sub25 x : Nat) : Int) ≤ 60 ∧ (dep25 x : Int) ≤ 12
 ·rw [if_pos hc, hc.1, decide_eq_true (by omega), decide_eq_true (by omega)]; rfl
 ·rw [if_neg hc]
  by_cases h : shp25 x = true
  ·rw [decide_eq_false (by omega), decide_eq_false (by intro hh; exact hc ⟨h, by omega, by omega⟩), Bool.false_and]
  ·simp [h]


theorem strconv_Itoa_eq (n : Int) (h0 : -9223372036854775808 ≤ n) (h1 : n ≤ 9223372036854775807) : strconv_Itoa.f n = some (numB n) := by
 unfold strconv_Itoa.f
 rw [if_pos ⟨h0, h1⟩]
 rfl

theorem impl_isSum_eq (a : Int) : impl_isSum.f a = some (decide (a = 4 ∨ a = 5)) := by
 unfold impl_isSum.f
 by_cases h : a = 4
 ·simp [h]
 ·simp [h]; rfl

theorem impl_isTimes_eq (a : Int) : impl_isTimes.f a = some (decide (a = 6 ∨ a = 7 ∨ a = 8)) := by
 unfold impl_isTimes.f
 by_cases h : a = 6
 ·simp [h]
 ·by_cases h7 : a = 7
  ·simp [h7]
  ·simp [h, h7]; rfl

/-- The level that a kid's place asks for. -/
def asks (a i : Int) : Int := if a = 2 ∨ a = 3 then 3 else if i = 0 then lev a else lev a + 1
theorem impl_kidText_j (a b c d i : Int) (l m : List S25) (s : ByteArray) (hs : s.size ≤ 1000000) (ha : (a = 2 ∨ a = 3) ∧ i = 0 ∨ (4 ≤ a ∧ a ≤ 8) ∧ (i = 0 ∨ i = 1)) (z : Bool) (hz : z = decide (¬ (c = 4 ∨ c = 5) ∧ ¬ (c = 6 ∨ c = 7 ∨ c = 8))) :
  Ev (fun k => impl_kidText.j0 k i s z a b l c d m) (wr (asks a i) (c, s)) := by
 have e1 : 1 + s.size ≤ 9223372036854775807 := by omega
 have e2 : ((⟨#[40]⟩ : ByteArray) ++ s).size + 1 ≤ 9223372036854775807 := by simp only [ByteArray.size_append', ByteArray.size_mk', List.size_toArray, List.length_cons, List.length_nil]; omega
 apply Ev.succ
 simp only [impl_kidText.j0.eq_2, impl_isSum_eq, impl_isTimes_eq, Option.bind_some, decide_eq_true_eq]
 have yes : lev c < asks a i → Ev (fun _ => (if 1 + s.size ≤ 9223372036854775807 then (if ((⟨#[40]⟩ : ByteArray) ++ s).size + 1 ≤ 9223372036854775807 then (some (((⟨#[40]⟩ : ByteArray) ++ s) ++ (⟨#[41]⟩ : ByteArray))) else none) else none : Option ByteArray)) (wr (asks a i) (c, s)) := fun h => Ev.pos e1 (Ev.pos e2 (Ev.ret (by unfold wr; rw [if_pos h])))
 have no : ¬ lev c < asks a i → Ev (fun _ => some s) (wr (asks a i) (c, s)) := fun h => Ev.ret (by unfold wr; rw [if_neg h])
 have lc : (c = 4 ∨ c = 5) ∧ lev c = 1 ∨ (c = 6 ∨ c = 7 ∨ c = 8) ∧ lev c = 2 ∨ (¬ (c = 4 ∨ c = 5) ∧ ¬ (c = 6 ∨ c = 7 ∨ c = 8)) ∧ lev c = 3 := by
  unfold lev
  by_cases h : c = 4 ∨ c = 5
  ·rw [if_pos h]; exact .inl ⟨h, rfl⟩
  ·rw [if_neg h]
   by_cases h2 : c = 6 ∨ c = 7 ∨ c = 8
   ·rw [if_pos h2]; exact .inr (.inl ⟨h2, rfl⟩)
   ·rw [if_neg h2]; exact .inr (.inr ⟨⟨h, h2⟩, rfl⟩)
 have la : (a = 4 ∨ a = 5) → lev a = 1 := fun h => by unfold lev; rw [if_pos h]
 have lb : (a = 6 ∨ a = 7 ∨ a = 8) → lev a = 2 := fun h => by unfold lev; rw [if_neg (by omega), if_pos h]
 have as0 : (a = 2 ∨ a = 3) → asks a i = 3 := fun h => by unfold asks; rw [if_pos h]
 have as1 : ¬ (a = 2 ∨ a = 3) → i = 0 → asks a i = lev a := fun h h' => by unfold asks; rw [if_neg h, if_pos h']
 have as2 : ¬ (a = 2 ∨ a = 3) → ¬ i = 0 → asks a i = lev a + 1 := fun h h' => by unfold asks; rw [if_neg h, if_neg h']
 have hka : kids a = 1 ↔ (a = 2 ∨ a = 3) := by
  unfold kids
  split
  ·omega
  ·split
   ·simp; omega
   ·split
    ·simp; omega
    ·simp; omega
 refine Ev.ite (fun h => no ?_) (fun h => ?_)
 ·rw [hz, decide_eq_true_eq] at h
  have : asks a i ≤ 3 := by
   rcases ha with ⟨h2, _⟩ | ⟨h2, h3⟩
   ·rw [as0 h2]; omega
   ·by_cases hi : i = 0
    ·rw [as1 (by omega) hi]
     by_cases h4 : a = 4 ∨ a = 5
     ·rw [la h4]; omega
     ·rw [lb (by omega)]; omega
    ·rw [as2 (by omega) hi]
     by_cases h4 : a = 4 ∨ a = 5
     ·rw [la h4]; omega
     ·rw [lb (by omega)]; omega
  omega
 ·rw [hz, decide_eq_true_eq] at h
  refine Ev.bind (impl_kids_ev a) (Ev.ite (fun h1 => yes ?_) (fun h1 => ?_))
  ·rw [as0 (hka.1 h1)]; omega
  ·have h23 : ¬ (a = 2 ∨ a = 3) := fun h => h1 (hka.2 h)
   refine Ev.ite (fun ht => ?_) (fun ht => ?_)
   ·have l2 := lb ht
    refine Ev.ite (fun hi => yes ?_) (fun hi => Ev.ite (fun hc => yes ?_) (fun hc => ?_))
    ·rw [as2 h23 (by omega), l2]; omega
    ·rw [as1 h23 (by omega), l2]; omega
    ·have : ¬ lev c < asks a i := by rw [as1 h23 (by omega), l2]; omega
     exact Ev.ite (fun _ => no this) (fun _ => no this)
   ·have h45 : a = 4 ∨ a = 5 := by omega
    have l1 := la h45
    refine Ev.pos h45 (Ev.ite (fun hi => Ev.ite (fun hc => yes ?_) (fun hc => no ?_)) (fun hi => no ?_))
    ·rw [as2 h23 (by omega), l1]; omega
    ·rw [as2 h23 (by omega), l1]; omega
    ·rw [as1 h23 (by omega), l1]; omega
theorem impl_kidText_ev (x : S25) (i : Nat) (hi : i < x.f2.length) (ha : (x.f0 = 2 ∨ x.f0 = 3) ∧ i = 0 ∨ (4 ≤ x.f0 ∧ x.f0 ≤ 8) ∧ (i = 0 ∨ i = 1)) (hz : (tx25 x.f2[i]).size ≤ 1000000)
  (ih : Ev (fun k => impl_exprText.f k x.f2[i].f0 x.f2[i].f1 x.f2[i].f2) (tx25 x.f2[i])) :
  Ev (fun k => impl_kidText.f k x.f0 x.f1 x.f2 i) (wr (asks x.f0 i) (x.f2[i].f0, tx25 x.f2[i])) := by
 apply Ev.succ
 simp only [impl_kidText.f.eq_2, rd25_get _ i hi, impl_isSum_eq, impl_isTimes_eq, Option.bind_some, decide_eq_true_eq]
 have ha' : (x.f0 = 2 ∨ x.f0 = 3) ∧ (i : Int) = 0 ∨ (4 ≤ x.f0 ∧ x.f0 ≤ 8) ∧ ((i : Int) = 0 ∨ (i : Int) = 1) := by omega
 refine Ev.pos (by omega) (Ev.pos (by omega) (Ev.bind ih (Ev.ite (fun h => ?_) (fun h => ?_))))
 ·exact impl_kidText_j _ _ _ _ _ _ _ _ hz ha' _ (by rw [eq_comm, decide_eq_false_iff_not]; omega)
 ·refine impl_kidText_j _ _ _ _ _ _ _ _ hz ha' _ ?_
  by_cases g : x.f2[i].f0 = 6 ∨ x.f2[i].f0 = 7 ∨ x.f2[i].f0 = 8
  ·rw [decide_eq_true g, eq_comm]; simp; omega
  ·rw [decide_eq_false g, eq_comm]; simp; omega
theorem opS_ex (a : Int) (s : ByteArray) (h : a = 4 ∨ a = 5 ∨ a = 6 ∨ a = 7 ∨ a = 8) : ((s ++ (⟨#[32]⟩ : ByteArray)) ++ ((⟨#[43, 45, 42, 47, 37]⟩ : ByteArray).extract (a - 4).toNat (a - 4 + 1).toNat)) ++ (⟨#[32]⟩ : ByteArray) = s ++ opS a := by
 have e : (⟨#[32]⟩ : ByteArray) ++ (((⟨#[43, 45, 42, 47, 37]⟩ : ByteArray).extract (a - 4).toNat (a - 4 + 1).toNat) ++ (⟨#[32]⟩ : ByteArray)) = opS a := by
  rcases h with rfl | rfl | rfl | rfl | rfl <;> decide +kernel
 rw [← e]
 simp only [ByteArray.append_assoc]
theorem impl_exprText_ev (x : S25) : shp25 x = true → sub25 x ≤ 1000 → Ev (fun k => impl_exprText.f k x.f0 x.f1 x.f2) (tx25 x) := by
 induction x using S25.ind with
 | h x ih =>
  intro h hs
  have hk := kind_of h
  obtain ⟨h1, h2⟩ := kids_of h
  have hn := num_of h
  have hl := lim_le 30
  have hz := tx_size x h
  have hb : (28 : Nat) + 30 * sub25 x ≤ 100000 := by omega
  have et := tx25_eq x
  unfold txC at et
  have kid : ∀ (i : Nat) (hi : i < x.f2.length), ((x.f0 = 2 ∨ x.f0 = 3) ∧ i = 0 ∨ (4 ≤ x.f0 ∧ x.f0 ≤ 8) ∧ (i = 0 ∨ i = 1)) → shp25 x.f2[i] = true → Ev (fun k => impl_kidText.f k x.f0 x.f1 x.f2 i) (wr (asks x.f0 i) (x.f2[i].f0, tx25 x.f2[i])) ∧ (tx25 x.f2[i]).size ≤ 100000 := by
   intro i hi ha hp
   have hm := subL25_mem (List.getElem_mem hi)
   have hx := sub25_eq x
   have zi := tx_size _ hp
   have : (28 : Nat) + 30 * sub25 x.f2[i] ≤ 100000 := by omega
   exact ⟨impl_kidText_ev x i hi ha (by omega) (ih _ (List.getElem_mem hi) hp (by omega)), by omega⟩
  apply Ev.succ
  simp only [impl_exprText.f.eq_2]
  by_cases a1 : x.f0 = 1
  ·rw [if_pos a1] at et
   refine Ev.pos a1 (Ev.bindc (strconv_Itoa_eq x.f1 (by omega) (by omega)) (Ev.ret et.symm))
  ·rw [if_neg a1] at et
   refine Ev.neg a1 ?_
   by_cases a2 : x.f0 = 2 ∨ x.f0 = 3
   ·obtain ⟨p, e, hp⟩ := h1 a2
    have k0 := kid 0 (by rw [e]; simp) (.inl ⟨a2, rfl⟩) (by simpa [e] using hp)
    have e0 : x.f2[0]'(by rw [e]; simp) = p := by simp [e]
    rw [e0] at k0
    have q3 : asks x.f0 ((0 : Nat) : Int) = 3 := by unfold asks; rw [if_pos a2]
    rw [q3] at k0
    have w := wr_size 3 (p.f0, tx25 p)
    dsimp only at w
    rw [e] at et
    simp only [txL25, List.getD_cons_zero] at et
    by_cases b2 : x.f0 = 2
    ·rw [if_pos b2] at et
     exact Ev.pos b2 (Ev.bind k0.1 (Ev.pos (by have := k0.2; omega) (Ev.ret et.symm)))
    ·rw [if_neg b2, if_pos (by omega)] at et
     exact Ev.neg b2 (Ev.pos (by omega) (Ev.bind k0.1 (Ev.pos (by have := k0.2; omega) (Ev.ret et.symm))))
   ·rw [if_neg (by omega), if_neg (by omega)] at et
    obtain ⟨p, q, e, hp, hq⟩ := h2 (by omega)
    have k0 := kid 0 (by rw [e]; simp) (.inr ⟨by omega, .inl rfl⟩) (by simpa [e] using hp)
    have k1 := kid 1 (by rw [e]; simp) (.inr ⟨by omega, .inr rfl⟩) (by simpa [e] using hq)
    have e0 : x.f2[0]'(by rw [e]; simp) = p := by simp [e]
    have e1 : x.f2[1]'(by rw [e]; simp) = q := by simp [e]
    rw [e0] at k0
    rw [e1] at k1
    have q0 : asks x.f0 ((0 : Nat) : Int) = lev x.f0 := by unfold asks; rw [if_neg a2, if_pos (show ((0 : Nat) : Int) = 0 from rfl)]
    have q1 : asks x.f0 ((1 : Nat) : Int) = lev x.f0 + 1 := by unfold asks; rw [if_neg a2, if_neg (show ¬ ((1 : Nat) : Int) = 0 by omega)]
    rw [q0] at k0
    rw [q1] at k1
    have w := wr_size (lev x.f0) (p.f0, tx25 p)
    have w' := wr_size (lev x.f0 + 1) (q.f0, tx25 q)
    dsimp only at w w'
    rw [e] at et
    simp only [txL25, List.getD_cons_zero, List.getD_cons_succ] at et
    rw [w64 (n := x.f0 - 4) (by omega) (by omega), w64 (n := x.f0 - 4 + 1) (by omega) (by omega)]
    have z0 := k0.2
    have z1 := k1.2
    refine Ev.neg (by omega) (Ev.neg (by omega) (Ev.bind k0.1 (Ev.pos (by omega) (Ev.pos (by omega) (Ev.pos (by omega) (Ev.pos (by omega) (Ev.pos ?_ (Ev.pos ?_ (Ev.bind k1.1 (Ev.pos ?_ (Ev.ret ?_)))))))))))
    ·simp only [ByteArray.size_append', ByteArray.size_mk', ByteArray.size_extract, List.size_toArray, List.length_cons, List.length_nil]; omega
    ·simp only [ByteArray.size_append', ByteArray.size_mk', ByteArray.size_extract, List.size_toArray, List.length_cons, List.length_nil]; omega
    ·simp only [ByteArray.size_append', ByteArray.size_mk', ByteArray.size_extract, List.size_toArray, List.length_cons, List.length_nil]; omega
    ·rw [opS_ex _ _ (by omega), et]

theorem impl_FormatExpr_ev (x : S25) (hs : sub25 x ≤ 1048576) : Ev (fun k => impl_FormatExpr.f k x.f0 x.f1 x.f2) (forT x) := by
 simp only [impl_FormatExpr.f]
 unfold forT
 refine Ev.bind (impl_IsExpr_ev x hs) (Ev.ite (fun h => ?_) (fun h => Ev.ret (by rw [if_neg h])))
 obtain ⟨h1, h2⟩ := isE_shp h
 refine Ev.bind (impl_exprText_ev x h1 (by omega)) (Ev.ret ?_)
 rw [if_pos h]

/-- From place i on the text is l. -/
def At (s : ByteArray) (i : Nat) (l : List UInt8) : Prop := i ≤ s.size ∧ s.data.toList.drop i = l
theorem At.len {s : ByteArray} {i : Nat} {l : List UInt8} (h : At s i l) : i + l.length = s.size := by
 have h1 := congrArg List.length h.2
 rw [List.length_drop, Array.length_toList] at h1
 have h2 : s.data.size = s.size := rfl
 have := h.1
 omega
theorem At.next {s : ByteArray} {i : Nat} {a l : List UInt8} (h : At s i (a ++ l)) : At s (i + a.length) l := by
 have hl := h.len
 rw [List.length_append] at hl
 refine ⟨by omega, ?_⟩
 rw [← List.drop_drop, h.2, List.drop_left]
theorem At.nil {s : ByteArray} {i : Nat} (h : At s i []) : i = s.size := by have := h.len; simpa using this
theorem At.lt {s : ByteArray} {i : Nat} {c : UInt8} {l : List UInt8} (h : At s i (c :: l)) : i < s.size := by have := h.len; rw [List.length_cons] at this; omega
theorem At.byte {s : ByteArray} {i : Nat} {c : UInt8} {l : List UInt8} (h : At s i (c :: l)) : bt s (i : Int) = (c.toNat : Int) := by
 have hl := h.lt
 have hl2 : i < s.data.toList.length := by rw [Array.length_toList]; exact hl
 have h2 := h.2
 rw [List.drop_eq_getElem_cons hl2] at h2
 injection h2 with h3 _
 unfold bt
 rw [Int.toNat_natCast, dif_pos hl, ← h3]
 simp only [Array.getElem_toList]
 rfl
theorem At.start (s : ByteArray) : At s 0 s.data.toList := ⟨by omega, rfl⟩
/-- Spaces. -/
abbrev sp (n : Nat) : List UInt8 := List.replicate n 32
/-- What stands here is no space. -/
def NoSp (l : List UInt8) : Prop := l = [] ∨ ∃ c r, l = c :: r ∧ c ≠ 32 ∧ c ≠ 0
/-- The byte here; 0 at the end. -/
def hd0 (l : List UInt8) : Int := match l with
 | [] => 0
 | c :: _ => (c.toNat : Int)
/-- Which of the bytes stands here, and how far this goes. -/
def tk (o l : List UInt8) : Int × Nat := match l with
 | [] => (-1, 0)
 | c :: _ => if Lib.indexByte o c < 0 then (-1, 0) else (Lib.indexByte o c, 1)
theorem u8_nat (c : UInt8) : ((c.toNat : Int)).toNat.toUInt8 = c := by
 rw [Int.toNat_natCast]
 exact UInt8.ofNat_toNat


theorem impl_exprReader_see_ev (s : ByteArray) (bad : Bool) (hs : s.size ≤ 1000000) : ∀ (n i : Nat) (l : List UInt8), At s i (sp n ++ l) → NoSp l → Ev (fun k => impl_exprReader_see.f k s i bad) (hd0 l, s, ((i + n : Nat) : Int), bad) := by
 intro n
 induction n with
 | zero =>
  intro i l h hn
  rw [show sp 0 ++ l = l from rfl] at h
  have hl := h.len
  simp only [impl_exprReader_see.f]
  apply Ev.succ
  simp only [impl_exprReader_see.l0.eq_2]
  rcases hn with rfl | ⟨c, r, rfl, h32, h0⟩
  ·have := h.nil
   exact Ev.neg (by omega) (Ev.pos (by omega) (Ev.ret rfl))
  ·have hlt := h.lt
   rw [h.byte]
   refine Ev.pos (by omega) (Ev.pos (by omega) (Ev.neg ?_ (Ev.neg (by omega) (Ev.ret rfl))))
   intro e
   apply h32
   apply UInt8.toNat.inj
   exact Int.ofNat.inj e
 | succ n ih =>
  intro i l h hn
  have h' : At s i ((32 : UInt8) :: (sp n ++ l)) := h
  have hlt := h'.lt
  have := ih (i + 1) l (At.next (a := [32]) h') hn
  simp only [impl_exprReader_see.f] at this ⊢
  apply Ev.succ
  simp only [impl_exprReader_see.l0.eq_2]
  rw [h'.byte]
  refine Ev.pos (by omega) (Ev.pos (by omega) (Ev.pos rfl ?_))
  rw [w64 (by omega) (by omega), show (i : Int) + 1 = ((i + 1 : Nat) : Int) by omega]
  rw [show i + (n + 1) = i + 1 + n by omega]
  exact this

theorem impl_exprReader_take_ev (s : ByteArray) (bad : Bool) (hs : s.size ≤ 1000000) (o : List UInt8) (n i : Nat) (l : List UInt8) (h : At s i (sp n ++ l)) (hn : NoSp l) : Ev (fun k => impl_exprReader_take.f k s i bad ⟨o.toArray⟩) ((tk o l).1, s, ((i + n + (tk o l).2 : Nat) : Int), bad) := by
 simp only [impl_exprReader_take.f]
 have hlen := h.len
 refine Ev.bind (impl_exprReader_see_ev s bad hs n i l h hn) ?_
 unfold strings_IndexByte.f
 refine Ev.bindc rfl ?_
 have eo : (⟨o.toArray⟩ : ByteArray).data.toList = o := by simp
 rcases hn with rfl | ⟨c, r, rfl, h32, h0⟩
 ·exact Ev.pos rfl (Ev.ret rfl)
 ·have hc : ¬ (c.toNat : Int) = 0 := by
   intro e
   apply h0
   apply UInt8.toNat.inj
   have : c.toNat = 0 := by omega
   exact this
  simp only [List.length_append, List.length_cons, List.length_replicate] at hlen
  refine Ev.neg hc ?_
  simp only [hd0, u8_nat, eo, tk]
  refine Ev.ite (fun hi => Ev.ret ?_) (fun hi => Ev.ret ?_)
  ·rw [if_pos hi]; rfl
  ·rw [if_neg hi, w64 (by omega) (by omega)]; rfl

theorem digit_val (d : Nat) (h : d < 10) : Lib.digitVal (UInt8.ofNat (48 + d)) = some d := by
 have e : (UInt8.ofNat (48 + d)).toNat = 48 + d := by simp; omega
 unfold Lib.digitVal
 rw [e, if_pos (by omega)]
 congr 1
 omega
theorem decFrom_append : ∀ (a b : List UInt8) (acc : Nat), Lib.decFrom acc (a ++ b) = (Lib.decFrom acc a).bind fun x => Lib.decFrom x b
 | [], b, acc => by simp [Lib.decFrom]
 | c :: a, b, acc => by
  simp only [List.cons_append, Lib.decFrom]
  cases Lib.digitVal c with
  | none => rfl
  | some d => exact decFrom_append a b _
theorem decFrom_dec (u : Nat) : Lib.decFrom 0 (Lib.decDigits u) = some u := by
 induction u using Nat.strongRecOn with
 | _ u ih =>
  by_cases h : u < 10
  ·rw [Lib.decDigits_one h]
   simp only [Lib.decFrom, digit_val u h, Nat.zero_mul, Nat.zero_add]
  ·rw [Lib.decDigits.eq_1 u, dif_neg h, decFrom_append, ih (u / 10) (by omega)]
   simp only [Option.bind_some, Lib.decFrom, digit_val (u % 10) (by omega)]
   congr 1
   omega
theorem dec_digits (u : Nat) : ∀ c ∈ Lib.decDigits u, 48 ≤ c.toNat ∧ c.toNat ≤ 57 := by
 induction u using Nat.strongRecOn with
 | _ u ih =>
  have hd : ∀ d, d < 10 → 48 ≤ (UInt8.ofNat (48 + d)).toNat ∧ (UInt8.ofNat (48 + d)).toNat ≤ 57 := by intro d h; simp; omega
  intro c hc
  by_cases h : u < 10
  ·rw [Lib.decDigits_one h, List.mem_singleton] at hc
   subst hc
   exact hd u h
  ·rw [Lib.decDigits.eq_1 u, dif_neg h, List.mem_append, List.mem_singleton] at hc
   rcases hc with hc | rfl
   ·exact ih (u / 10) (by omega) c hc
   ·exact hd (u % 10) (by omega)
theorem dec_ne (u : Nat) : Lib.decDigits u ≠ [] := by
 rw [Lib.decDigits.eq_1 u]
 split <;> simp
theorem dec_len (u : Nat) (h : u < 1000000000000000) : (Lib.decDigits u).length ≤ 15 := by
 rw [Lib.decDigits_length]; exact nDig_le 14 u (by omega)
theorem atoi_dec (u : Nat) (h : u < 1000000000000000) : Lib.atoiAll (Lib.decDigits u) = .ok (u : Int) := by
 have hl := dec_len u h
 rw [Lib.atoiAll_short _ (by omega)]
 have hd := dec_digits u
 have hf := decFrom_dec u
 cases hq : Lib.decDigits u with
 | nil => exact absurd hq (dec_ne u)
 | cons c r =>
  rw [hq] at hd hf
  have hc := hd c (by simp)
  have h45 : (c == 45) = false := by rw [beq_eq_false_iff_ne]; intro e; subst e; exact absurd hc (by decide)
  have h43 : (c == 43) = false := by rw [beq_eq_false_iff_ne]; intro e; subst e; exact absurd hc (by decide)
  simp only [Lib.atoi, h45, h43, Lib.decNat, List.isEmpty_cons, hf]
  rfl
theorem impl_number_dec (u : Nat) (h : u < 1000000000000000) : impl_number.f ⟨(Lib.decDigits u).toArray⟩ = some ((u : Int), true) := by
 have hl := dec_len u h
 unfold impl_number.f
 rw [if_pos (by simp [ByteArray.size]; omega)]
 have e : (⟨(Lib.decDigits u).toArray⟩ : ByteArray).data.toList = Lib.decDigits u := by simp
 rw [e]
 unfold numP
 rw [atoi_dec u h]
 have e2 : Lib.itoa (u : Int) = Lib.decDigits u := Lib.itoa_nonneg u
 simp [e2]

theorem impl_exprReader_while_l (s : ByteArray) (bad : Bool) (hs : s.size ≤ 1000000) (o : List UInt8) (i : Nat) (ds r : List UInt8) (h : At s i (ds ++ r)) (hr : r = [] ∨ ∃ c t, r = c :: t ∧ Lib.indexByte o c < 0) (hd : ∀ c ∈ ds, 0 ≤ Lib.indexByte o c) :
  ∀ (b a : List UInt8), a ++ b = ds → Ev (fun k => impl_exprReader_while.l0 k ⟨o.toArray⟩ i s ((i + a.length : Nat) : Int) bad) (⟨ds.toArray⟩, s, ((i + ds.length : Nat) : Int), bad) := by
 have eo : (⟨o.toArray⟩ : ByteArray).data.toList = o := by simp
 have hlen := h.len
 rw [List.length_append] at hlen
 have hex : s.extract i (i + ds.length) = ⟨ds.toArray⟩ := by
  apply ByteArray.ext
  rw [ByteArray.data_extract]
  apply Array.toList_inj.1
  rw [Array.toList_extract, List.extract_eq_take_drop, h.2, show i + ds.length - i = ds.length by omega, List.take_left]
 have fin : Ev (fun _ : Nat => if (0 : Int) ≤ (i : Int) then (if (i : Int) ≤ ((i + ds.length : Nat) : Int) then (if ((i + ds.length : Nat) : Int) ≤ (s.size : Int) then (some (s.extract ((i : Int)).toNat (((i + ds.length : Nat) : Int)).toNat, s, ((i + ds.length : Nat) : Int), bad)) else none) else none) else none) (⟨ds.toArray⟩, s, ((i + ds.length : Nat) : Int), bad) := by
  refine Ev.pos (by omega) (Ev.pos (by omega) (Ev.pos (by omega) (Ev.ret ?_)))
  rw [Int.toNat_natCast, Int.toNat_natCast, hex]
 intro b
 induction b with
 | nil =>
  intro a hab
  rw [List.append_nil] at hab
  subst hab
  have h2 := h.next
  apply Ev.succ
  simp only [impl_exprReader_while.l0.eq_2]
  rcases hr with rfl | ⟨c, t, rfl, hc⟩
  ·have := h2.nil
   exact Ev.neg (by omega) fin
  ·have hlt := h2.lt
   rw [h2.byte]
   unfold strings_IndexByte.f
   refine Ev.pos (by omega) (Ev.pos (by omega) (Ev.bindc rfl ?_))
   rw [u8_nat, eo]
   exact Ev.neg (by omega) fin
 | cons c b ih =>
  intro a hab
  have h2 : At s i (a ++ (c :: b ++ r)) := by rw [← List.append_assoc, hab]; exact h
  replace h2 := h2.next
  rw [List.cons_append] at h2
  have hlt := h2.lt
  apply Ev.succ
  simp only [impl_exprReader_while.l0.eq_2]
  rw [h2.byte]
  unfold strings_IndexByte.f
  refine Ev.pos (by omega) (Ev.pos (by omega) (Ev.bindc rfl ?_))
  rw [u8_nat, eo]
  have hc := hd c (by rw [← hab]; simp)
  have := ih (a ++ [c]) (by rw [List.append_assoc]; exact hab)
  rw [w64 (by omega) (by omega), show ((i + a.length : Nat) : Int) + 1 = ((i + (a ++ [c]).length : Nat) : Int) by simp; omega]
  exact Ev.pos hc this
theorem impl_exprReader_while_ev (s : ByteArray) (bad : Bool) (hs : s.size ≤ 1000000) (o : List UInt8) (i : Nat) (ds r : List UInt8) (h : At s i (ds ++ r)) (hr : r = [] ∨ ∃ c t, r = c :: t ∧ Lib.indexByte o c < 0) (hd : ∀ c ∈ ds, 0 ≤ Lib.indexByte o c) :
  Ev (fun k => impl_exprReader_while.f k s i bad ⟨o.toArray⟩) (⟨ds.toArray⟩, s, ((i + ds.length : Nat) : Int), bad) := by
 simp only [impl_exprReader_while.f]
 exact impl_exprReader_while_l s bad hs o i ds r h hr hd ds [] rfl

/-- What a reader hands back: an expression, and where it stands. -/
def rdR (x : S25) (s : ByteArray) (p : Nat) : Int × Int × List S25 × ByteArray × Int × Bool := (x.f0, x.f1, x.f2, s, (p : Int), false)
theorem rd_sign (s : ByteArray) (hs : s.size ≤ 1000000) (n i p : Nat) (c : UInt8) (r : List UInt8) (x : S25) (h : At s i (sp n ++ c :: r)) (t : Int) (hc : c ≠ 32 ∧ c ≠ 0) (ht : Lib.indexByte [43, 45] c = t) (h0 : 0 ≤ t ∧ t ≤ 1)
  (e : Ev (fun k => impl_exprReader_signed.f k s ((i + n + 1 : Nat) : Int) false) (rdR x s p)) : Ev (fun k => impl_exprReader_signed.f k s i false) (rdR ⟨2 + t, 0, [x]⟩ s p) := by
 apply Ev.succ
 simp only [impl_exprReader_signed.f.eq_2]
 have et := impl_exprReader_take_ev s false hs [43, 45] n i (c :: r) h (.inr ⟨c, r, rfl, hc⟩)
 have ek : tk [43, 45] (c :: r) = (t, 1) := by unfold tk; simp only [ht]; rw [if_neg (by omega)]
 rw [ek] at et
 refine Ev.bind et (Ev.pos h0.1 (Ev.bind e (Ev.ret ?_)))
 rw [w64 (by omega) (by omega)]
 simp only [rdR, eta25]
theorem rd_miss (s : ByteArray) (hs : s.size ≤ 1000000) (n i : Nat) (l : List UInt8) (h : At s i (sp n ++ l)) (hn : NoSp l) (o : List UInt8) (ho : (tk o l) = (-1, 0)) : Ev (fun k => impl_exprReader_take.f k s i false ⟨o.toArray⟩) (-1, s, ((i + n : Nat) : Int), false) := by
 have et := impl_exprReader_take_ev s false hs o n i l h hn
 rw [ho] at et
 exact et
theorem rd_miss0 (s : ByteArray) (hs : s.size ≤ 1000000) (i : Nat) (l : List UInt8) (h : At s i l) (hn : NoSp l) (o : List UInt8) (ho : (tk o l) = (-1, 0)) : Ev (fun k => impl_exprReader_take.f k s i false ⟨o.toArray⟩) (-1, s, (i : Int), false) := rd_miss s hs 0 i l h hn o ho
theorem At.skip {s : ByteArray} {i n : Nat} {l : List UInt8} (h : At s i (sp n ++ l)) : At s (i + n) l := by
 have := h.next
 rwa [List.length_replicate] at this
theorem rd_par (s : ByteArray) (hs : s.size ≤ 1000000) (n m i p : Nat) (r r2 : List UInt8) (x : S25) (h : At s i (sp n ++ (40 : UInt8) :: r)) (h2 : At s p (sp m ++ (41 : UInt8) :: r2))
  (e : Ev (fun k => impl_exprReader_sum.f k s ((i + n + 1 : Nat) : Int) false) (rdR x s p)) : Ev (fun k => impl_exprReader_signed.f k s i false) (rdR x s (p + m + 1)) := by
 apply Ev.succ
 simp only [impl_exprReader_signed.f.eq_2]
 have n40 : NoSp ((40 : UInt8) :: r) := .inr ⟨40, r, rfl, by decide, by decide⟩
 have n41 : NoSp ((41 : UInt8) :: r2) := .inr ⟨41, r2, rfl, by decide, by decide⟩
 refine Ev.bind (rd_miss s hs n i _ h n40 [43, 45] rfl) (Ev.neg (show ¬ ((-1 : Int) ≥ 0) from by decide) ?_)
 have e2 := impl_exprReader_take_ev s false hs [40] 0 (i + n) _ h.skip n40
 refine Ev.bind e2 (Ev.pos (show ((0 : Int) ≥ 0) from by decide) ?_)
 refine Ev.bind e (Ev.neg (by simp [rdR]) ?_)
 have e3 := impl_exprReader_take_ev s false hs [41] m p _ h2 n41
 exact Ev.bind e3 (Ev.ret rfl)
theorem indexDigit (c : UInt8) (h : 48 ≤ c.toNat ∧ c.toNat ≤ 57) : 0 ≤ Lib.indexByte [48, 49, 50, 51, 52, 53, 54, 55, 56, 57] c := by
 have hall : ∀ d : Fin 10, 0 ≤ Lib.indexByte [48, 49, 50, 51, 52, 53, 54, 55, 56, 57] (UInt8.ofNat (48 + d.val)) := by decide +kernel
 have := hall ⟨c.toNat - 48, by omega⟩
 have e : UInt8.ofNat (48 + (c.toNat - 48)) = c := by rw [show 48 + (c.toNat - 48) = c.toNat by omega]; exact UInt8.ofNat_toNat
 simp only [e] at this
 exact this
theorem missDigit (c : UInt8) (h : 48 ≤ c.toNat ∧ c.toNat ≤ 57) : Lib.indexByte [43, 45] c < 0 ∧ Lib.indexByte [40] c < 0 ∧ Lib.indexByte [116] c < 0 ∧ c ≠ 32 ∧ c ≠ 0 := by
 have hall : ∀ d : Fin 10, Lib.indexByte [43, 45] (UInt8.ofNat (48 + d.val)) < 0 ∧ Lib.indexByte [40] (UInt8.ofNat (48 + d.val)) < 0 ∧ Lib.indexByte [116] (UInt8.ofNat (48 + d.val)) < 0 ∧ (UInt8.ofNat (48 + d.val)) ≠ 32 ∧ (UInt8.ofNat (48 + d.val)) ≠ 0 := by decide +kernel
 have := hall ⟨c.toNat - 48, by omega⟩
 have e : UInt8.ofNat (48 + (c.toNat - 48)) = c := by rw [show 48 + (c.toNat - 48) = c.toNat by omega]; exact UInt8.ofNat_toNat
 simp only [e] at this
 exact this
/-- No digit stands here. -/
def NoDig (r : List UInt8) : Prop := r = [] ∨ ∃ c t, r = c :: t ∧ Lib.indexByte [48, 49, 50, 51, 52, 53, 54, 55, 56, 57] c < 0
theorem rd_num (s : ByteArray) (hs : s.size ≤ 1000000) (n i u : Nat) (r : List UInt8) (hu : u < 1000000000000000) (h : At s i (sp n ++ (Lib.decDigits u ++ r))) (hr : NoDig r) : Ev (fun k => impl_exprReader_signed.f k s i false) (rdR ⟨1, (u : Int), []⟩ s (i + n + (Lib.decDigits u).length)) := by
 have hd := dec_digits u
 have hlen := dec_len u hu
 have h1 := h.skip
 have enum := impl_number_dec u hu
 cases hq : Lib.decDigits u with
 | nil => exact absurd hq (dec_ne u)
 | cons c ds =>
  rw [hq] at hd h h1 enum hlen
  have hc := hd c (by simp)
  obtain ⟨m1, m2, m3, m4⟩ := missDigit c hc
  have hn : NoSp (c :: ds ++ r) := .inr ⟨c, ds ++ r, rfl, m4⟩
  have k1 : tk [43, 45] (c :: ds ++ r) = (-1, 0) := by show (if Lib.indexByte [43, 45] c < 0 then _ else _) = _; rw [if_pos m1]
  have k2 : tk [40] (c :: ds ++ r) = (-1, 0) := by show (if Lib.indexByte [40] c < 0 then _ else _) = _; rw [if_pos m2]
  have k3 : tk [116] (c :: ds ++ r) = (-1, 0) := by show (if Lib.indexByte [116] c < 0 then _ else _) = _; rw [if_pos m3]
  apply Ev.succ
  simp only [impl_exprReader_signed.f.eq_2]
  refine Ev.bind (rd_miss s hs n i _ h hn [43, 45] k1) (Ev.neg (show ¬ ((-1 : Int) ≥ 0) from by decide) ?_)
  refine Ev.bind (rd_miss0 s hs (i + n) _ h1 hn [40] k2) (Ev.neg (show ¬ ((-1 : Int) ≥ 0) from by decide) ?_)
  refine Ev.bind (rd_miss0 s hs (i + n) _ h1 hn [116] k3) (Ev.neg (show ¬ ((-1 : Int) ≥ 0) from by decide) ?_)
  refine Ev.bind (impl_exprReader_see_ev s false hs 0 (i + n) _ h1 hn) ?_
  refine Ev.bind (impl_exprReader_while_ev s false hs [48, 49, 50, 51, 52, 53, 54, 55, 56, 57] (i + n) (c :: ds) r h1 hr (fun d hdm => indexDigit d (hd d hdm))) ?_
  refine Ev.bindc enum (Ev.neg (by simp) (Ev.pos rfl (Ev.ret ?_)))
  have : ¬ ((⟨(c :: ds).toArray⟩ : ByteArray).size : Int) > 15 := by simp [ByteArray.size] at hlen ⊢; omega
  rw [decide_eq_false this]
  rfl
theorem rd_times (s : ByteArray) (i p : Nat) (x : S25) (R : Int × Int × List S25 × ByteArray × Int × Bool) (e : Ev (fun k => impl_exprReader_signed.f k s i false) (rdR x s p)) (e2 : Ev (fun k => impl_exprReader_times.l0 k s (p : Int) false x.f0 x.f1 x.f2) R) : Ev (fun k => impl_exprReader_times.f k s i false) R := by
 apply Ev.succ
 simp only [impl_exprReader_times.f.eq_2]
 exact Ev.bind e e2
theorem rd_sum (s : ByteArray) (i p : Nat) (x : S25) (R : Int × Int × List S25 × ByteArray × Int × Bool) (e : Ev (fun k => impl_exprReader_times.f k s i false) (rdR x s p)) (e2 : Ev (fun k => impl_exprReader_sum.l0 k s (p : Int) false x.f0 x.f1 x.f2) R) : Ev (fun k => impl_exprReader_sum.f k s i false) R := by
 apply Ev.succ
 simp only [impl_exprReader_sum.f.eq_2]
 exact Ev.bind e e2
theorem rd_times_end (s : ByteArray) (hs : s.size ≤ 1000000) (p n : Nat) (l : List UInt8) (x : S25) (h : At s p (sp n ++ l)) (hn : NoSp l) (ho : (tk [42, 47, 37] l) = (-1, 0)) : Ev (fun k => impl_exprReader_times.l0 k s (p : Int) false x.f0 x.f1 x.f2) (rdR x s (p + n)) := by
 apply Ev.succ
 simp only [impl_exprReader_times.l0.eq_2]
 exact Ev.neg (by simp) (Ev.bind (rd_miss s hs n p l h hn _ ho) (Ev.pos (show ((-1 : Int) < 0) from by decide) (Ev.ret rfl)))
theorem rd_sum_end (s : ByteArray) (hs : s.size ≤ 1000000) (p n : Nat) (l : List UInt8) (x : S25) (h : At s p (sp n ++ l)) (hn : NoSp l) (ho : (tk [43, 45] l) = (-1, 0)) : Ev (fun k => impl_exprReader_sum.l0 k s (p : Int) false x.f0 x.f1 x.f2) (rdR x s (p + n)) := by
 apply Ev.succ
 simp only [impl_exprReader_sum.l0.eq_2]
 exact Ev.neg (by simp) (Ev.bind (rd_miss s hs n p l h hn _ ho) (Ev.pos (show ((-1 : Int) < 0) from by decide) (Ev.ret rfl)))
theorem rd_times_step (s : ByteArray) (hs : s.size ≤ 1000000) (p n p2 : Nat) (c : UInt8) (r : List UInt8) (x y : S25) (t : Int) (R : Int × Int × List S25 × ByteArray × Int × Bool) (h : At s p (sp n ++ c :: r)) (hc : c ≠ 32 ∧ c ≠ 0) (ht : Lib.indexByte [42, 47, 37] c = t) (h0 : 0 ≤ t ∧ t ≤ 2)
  (e : Ev (fun k => impl_exprReader_signed.f k s ((p + n + 1 : Nat) : Int) false) (rdR y s p2)) (e2 : Ev (fun k => impl_exprReader_times.l0 k s (p2 : Int) false (6 + t) 0 [x, y]) R) : Ev (fun k => impl_exprReader_times.l0 k s (p : Int) false x.f0 x.f1 x.f2) R := by
 apply Ev.succ
 simp only [impl_exprReader_times.l0.eq_2]
 have et := impl_exprReader_take_ev s false hs [42, 47, 37] n p (c :: r) h (.inr ⟨c, r, rfl, hc⟩)
 have ek : tk [42, 47, 37] (c :: r) = (t, 1) := by unfold tk; simp only [ht]; rw [if_neg (by omega)]
 rw [ek] at et
 refine Ev.neg (by simp) (Ev.bind et (Ev.neg (show ¬ (t < 0) from by omega) (Ev.bind e ?_)))
 rw [w64 (by omega) (by omega)]
 simp only [rdR, eta25]
 exact e2
theorem rd_sum_step (s : ByteArray) (hs : s.size ≤ 1000000) (p n p2 : Nat) (c : UInt8) (r : List UInt8) (x y : S25) (t : Int) (R : Int × Int × List S25 × ByteArray × Int × Bool) (h : At s p (sp n ++ c :: r)) (hc : c ≠ 32 ∧ c ≠ 0) (ht : Lib.indexByte [43, 45] c = t) (h0 : 0 ≤ t ∧ t ≤ 1)
  (e : Ev (fun k => impl_exprReader_times.f k s ((p + n + 1 : Nat) : Int) false) (rdR y s p2)) (e2 : Ev (fun k => impl_exprReader_sum.l0 k s (p2 : Int) false (4 + t) 0 [x, y]) R) : Ev (fun k => impl_exprReader_sum.l0 k s (p : Int) false x.f0 x.f1 x.f2) R := by
 apply Ev.succ
 simp only [impl_exprReader_sum.l0.eq_2]
 have et := impl_exprReader_take_ev s false hs [43, 45] n p (c :: r) h (.inr ⟨c, r, rfl, hc⟩)
 have ek : tk [43, 45] (c :: r) = (t, 1) := by unfold tk; simp only [ht]; rw [if_neg (by omega)]
 rw [ek] at et
 refine Ev.neg (by simp) (Ev.bind et (Ev.neg (show ¬ (t < 0) from by omega) (Ev.bind e ?_)))
 rw [w64 (by omega) (by omega)]
 simp only [rdR, eta25]
 exact e2
/-- The bytes of a text. -/
abbrev bs (b : ByteArray) : List UInt8 := b.data.toList
theorem bs_app (a b : ByteArray) : bs (a ++ b) = bs a ++ bs b := by simp [bs, ByteArray.data_append]
theorem bs_len (a : ByteArray) : (bs a).length = a.size := by rw [bs, Array.length_toList]; rfl
theorem bs_num (u : Nat) : bs (numB (u : Int)) = Lib.decDigits u := by simp [bs, numB, Lib.itoa_nonneg]
theorem bs_op (a : Int) : bs (opS a) = [32, if a = 4 then 43 else if a = 5 then 45 else if a = 6 then 42 else if a = 7 then 47 else 37, 32] := rfl
theorem bs_wr (l : Int) (p : Int × ByteArray) : bs (wr l p) = if lev p.1 < l then (40 : UInt8) :: (bs p.2 ++ [41]) else bs p.2 := by
 unfold wr
 split
 ·rw [bs_app, bs_app]; rfl
 ·rfl
/-- Read from its text, an expression is what it was: as a kid of a sign (A), of a product (B), of a sum (C). -/
structure Rd (x : S25) : Prop where
 A : ∀ (s : ByteArray) (i n : Nat) (r : List UInt8), s.size ≤ 1000000 → At s i (sp n ++ (bs (wr 3 (x.f0, tx25 x)) ++ r)) → NoDig r → Ev (fun k => impl_exprReader_signed.f k s i false) (rdR x s (i + n + (bs (wr 3 (x.f0, tx25 x))).length))
 B : ∀ (s : ByteArray) (i n : Nat) (r : List UInt8) R, s.size ≤ 1000000 → At s i (sp n ++ (bs (wr 2 (x.f0, tx25 x)) ++ r)) → NoDig r → Ev (fun k => impl_exprReader_times.l0 k s ((i + n + (bs (wr 2 (x.f0, tx25 x))).length : Nat) : Int) false x.f0 x.f1 x.f2) R → Ev (fun k => impl_exprReader_times.f k s i false) R
 C : ∀ (s : ByteArray) (i n m : Nat) (l : List UInt8) R, s.size ≤ 1000000 → At s i (sp n ++ (bs (wr 1 (x.f0, tx25 x)) ++ (sp m ++ l))) → NoSp l → NoDig (sp m ++ l) → tk [42, 47, 37] l = (-1, 0) → Ev (fun k => impl_exprReader_sum.l0 k s ((i + n + (bs (wr 1 (x.f0, tx25 x))).length + m : Nat) : Int) false x.f0 x.f1 x.f2) R → Ev (fun k => impl_exprReader_sum.f k s i false) R
theorem eta_kids {x : S25} {a b : Int} {l : List S25} (h0 : x.f0 = a) (h1 : x.f1 = b) (h2 : x.f2 = l) : x = ⟨a, b, l⟩ := by cases x; simp_all
theorem zero_of {x : S25} (h : shp25 x = true) (h1 : x.f0 ≠ 1) : x.f1 = 0 := by
 rw [shp25_eq, Bool.and_eq_true] at h
 have := h.1
 simp only [nodeOk, decide_eq_true_eq] at this
 omega
theorem Rd.of (x : S25) : shp25 x = true → Rd x := by
 induction x using S25.ind with
 | h x ih =>
  intro h
  have hk := kind_of h
  obtain ⟨h1, h2⟩ := kids_of h
  have hn := num_of h
  have hl := lim_le 30
  have et := tx25_eq x
  unfold txC at et
  have l1 : (x.f0 = 4 ∨ x.f0 = 5) → lev x.f0 = 1 := fun h => by unfold lev; rw [if_pos h]
  have l2 : (x.f0 = 6 ∨ x.f0 = 7 ∨ x.f0 = 8) → lev x.f0 = 2 := fun h => by unfold lev; rw [if_neg (by omega), if_pos h]
  have l3 : (x.f0 = 1 ∨ x.f0 = 2 ∨ x.f0 = 3) → lev x.f0 = 3 := fun h => by unfold lev; rw [if_neg (by omega), if_neg (by omega)]
  -- a sign or a number
  have A3 : lev x.f0 = 3 → ∀ (s : ByteArray) (i n : Nat) (r : List UInt8), s.size ≤ 1000000 → At s i (sp n ++ (bs (tx25 x) ++ r)) → NoDig r → Ev (fun k => impl_exprReader_signed.f k s i false) (rdR x s (i + n + (bs (tx25 x)).length)) := by
   intro h3 s i n r hs ha hr
   by_cases a1 : x.f0 = 1
   ·rw [if_pos a1] at et
    obtain ⟨u, hu⟩ : ∃ u : Nat, x.f1 = (u : Int) := ⟨x.f1.toNat, by omega⟩
    have hk0 : x.f2 = [] := by
     have := (shp25_arity h).1
     rw [a1] at this
     exact List.length_eq_zero_iff.1 (by simpa [arity] using this)
    rw [et, hu, bs_num] at ha ⊢
    rw [eta_kids a1 hu hk0]
    exact rd_num s hs n i u r (by omega) ha hr
   ·have a2 : x.f0 = 2 ∨ x.f0 = 3 := by
     rcases hk with h' | h' | h' | h' | h' | h' | h' | h'
     ·exact absurd h' a1
     ·exact .inl h'
     ·exact .inr h'
     all_goals (exfalso; rw [h'] at h3; exact absurd h3 (by decide))
    obtain ⟨p, e, hp⟩ := h1 a2
    have ip := ih p (by rw [e]; simp) hp
    have z := zero_of h a1
    rw [if_neg a1] at et
    rw [e] at et
    simp only [txL25, List.getD_cons_zero] at et
    by_cases b2 : x.f0 = 2
    ·rw [if_pos b2] at et
     rw [et, bs_app] at ha ⊢
     have ha1 : At s i (sp n ++ (43 : UInt8) :: (bs (wr 3 (p.f0, tx25 p)) ++ r)) := ha
     have ha2 := At.next (a := [43]) ha1.skip
     have := rd_sign s hs n i _ 43 _ p ha1 0 (by decide) (by decide) (by decide) (ip.A s (i + n + 1) 0 r hs ha2 hr)
     rw [eta_kids b2 z e]
     refine evTo this ?_
     rw [show (bs (⟨#[43]⟩ : ByteArray)) = [43] from rfl, List.length_append, List.length_singleton]
     show rdR _ s _ = rdR _ s _
     congr 1
     omega
    ·rw [if_neg b2, if_pos (by omega)] at et
     rw [et, bs_app] at ha ⊢
     have ha1 : At s i (sp n ++ (45 : UInt8) :: (bs (wr 3 (p.f0, tx25 p)) ++ r)) := ha
     have ha2 := At.next (a := [45]) ha1.skip
     have := rd_sign s hs n i _ 45 _ p ha1 1 (by decide) (by decide) (by decide) (ip.A s (i + n + 1) 0 r hs ha2 hr)
     rw [eta_kids (show x.f0 = 3 by omega) z e]
     refine evTo this ?_
     rw [show (bs (⟨#[45]⟩ : ByteArray)) = [45] from rfl, List.length_append, List.length_singleton]
     show rdR _ s _ = rdR _ s _
     congr 1
     omega
  have bin : (4 ≤ x.f0 ∧ x.f0 ≤ 8) → ∃ p q, x = ⟨x.f0, 0, [p, q]⟩ ∧ Rd p ∧ Rd q ∧ bs (tx25 x) = bs (wr (lev x.f0) (p.f0, tx25 p)) ++ (bs (opS x.f0) ++ bs (wr (lev x.f0 + 1) (q.f0, tx25 q))) := by
   intro h4
   obtain ⟨p, q, e, hp, hq⟩ := h2 (by omega)
   rw [if_neg (by omega), if_neg (by omega), if_neg (by omega), e] at et
   simp only [txL25, List.getD_cons_zero, List.getD_cons_succ] at et
   refine ⟨p, q, eta_kids rfl (zero_of h (by omega)) e, ih p (by rw [e]; simp) hp, ih q (by rw [e]; simp) hq, ?_⟩
   rw [et, bs_app, bs_app, List.append_assoc]
  have B2 : 2 ≤ lev x.f0 → ∀ (s : ByteArray) (i n : Nat) (r : List UInt8) R, s.size ≤ 1000000 → At s i (sp n ++ (bs (tx25 x) ++ r)) → NoDig r → Ev (fun k => impl_exprReader_times.l0 k s ((i + n + (bs (tx25 x)).length : Nat) : Int) false x.f0 x.f1 x.f2) R → Ev (fun k => impl_exprReader_times.f k s i false) R := by
   intro h2l s i n r R hs ha hr eR
   by_cases h3 : x.f0 = 1 ∨ x.f0 = 2 ∨ x.f0 = 3
   ·exact rd_times s i _ x R (A3 (l3 h3) s i n r hs ha hr) eR
   ·have h678 : x.f0 = 6 ∨ x.f0 = 7 ∨ x.f0 = 8 := by
     rcases hk with h' | h' | h' | h' | h' | h' | h' | h'
     ·exact absurd (.inl h') h3
     ·exact absurd (.inr (.inl h')) h3
     ·exact absurd (.inr (.inr h')) h3
     ·exfalso; rw [h'] at h2l; exact absurd h2l (by decide)
     ·exfalso; rw [h'] at h2l; exact absurd h2l (by decide)
     ·exact .inl h'
     ·exact .inr (.inl h')
     ·exact .inr (.inr h')
    obtain ⟨p, q, ex, rp, rq, eb⟩ := bin (by omega)
    rw [l2 h678, bs_op, show (2 : Int) + 1 = 3 from rfl] at eb
    obtain ⟨c, t, hc, hct, ht, h0, hx6⟩ : ∃ (c : UInt8) (t : Int), c = (if x.f0 = 4 then 43 else if x.f0 = 5 then 45 else if x.f0 = 6 then 42 else if x.f0 = 7 then 47 else 37) ∧ (c ≠ 32 ∧ c ≠ 0) ∧ Lib.indexByte [42, 47, 37] c = t ∧ (0 ≤ t ∧ t ≤ 2) ∧ x.f0 = 6 + t := by
     rcases h678 with h' | h' | h'
     ·exact ⟨42, 0, by rw [h']; rfl, by decide, by decide, by decide, h'⟩
     ·exact ⟨47, 1, by rw [h']; rfl, by decide, by decide, by decide, h'⟩
     ·exact ⟨37, 2, by rw [h']; rfl, by decide, by decide, by decide, h'⟩
    rw [← hc] at eb
    rw [eb, List.append_assoc, List.append_assoc] at ha
    have ha1 : At s i (sp n ++ (bs (wr 2 (p.f0, tx25 p)) ++ (sp 1 ++ c :: (sp 1 ++ (bs (wr 3 (q.f0, tx25 q)) ++ r))))) := ha
    refine rp.B s i n _ R hs ha1 (.inr ⟨32, _, rfl, by decide⟩) ?_
    have ha2 := ha1.skip.next
    have ha3 : At s (i + n + (bs (wr 2 (p.f0, tx25 p))).length + 1 + [c].length) (sp 1 ++ (bs (wr 3 (q.f0, tx25 q)) ++ r)) := At.next (a := [c]) ha2.skip
    have eq := rq.A s _ 1 r hs ha3 hr
    refine rd_times_step s hs _ 1 _ c _ p q t R ha2 hct ht h0 eq ?_
    rw [← hx6]
    have e1 : x.f1 = 0 := zero_of h (by omega)
    have e2 : x.f2 = [p, q] := by rw [ex]
    rw [e1, e2] at eR
    have el : i + n + (bs (wr 2 (p.f0, tx25 p))).length + 1 + [c].length + 1 + (bs (wr 3 (q.f0, tx25 q))).length = i + n + (bs (tx25 x)).length := by
     rw [eb]; simp only [List.length_append, List.length_cons, List.length_nil]; omega
    rw [el]
    exact eR
  have C1 : ∀ (s : ByteArray) (i n m : Nat) (l : List UInt8) R, s.size ≤ 1000000 → At s i (sp n ++ (bs (tx25 x) ++ (sp m ++ l))) → NoSp l → NoDig (sp m ++ l) → tk [42, 47, 37] l = (-1, 0) → Ev (fun k => impl_exprReader_sum.l0 k s ((i + n + (bs (tx25 x)).length + m : Nat) : Int) false x.f0 x.f1 x.f2) R → Ev (fun k => impl_exprReader_sum.f k s i false) R := by
   intro s i n m l R hs ha hns hnd ho eR
   by_cases h45 : x.f0 = 4 ∨ x.f0 = 5
   ·obtain ⟨p, q, ex, rp, rq, eb⟩ := bin (by omega)
    rw [l1 h45, bs_op, show (1 : Int) + 1 = 2 from rfl] at eb
    obtain ⟨c, t, hc, hct, ht, h0, hx4, hmiss⟩ : ∃ (c : UInt8) (t : Int), c = (if x.f0 = 4 then 43 else if x.f0 = 5 then 45 else if x.f0 = 6 then 42 else if x.f0 = 7 then 47 else 37) ∧ (c ≠ 32 ∧ c ≠ 0) ∧ Lib.indexByte [43, 45] c = t ∧ (0 ≤ t ∧ t ≤ 1) ∧ x.f0 = 4 + t ∧ Lib.indexByte [42, 47, 37] c < 0 := by
     rcases h45 with h' | h'
     ·exact ⟨43, 0, by rw [h']; rfl, by decide, by decide, by decide, h', by decide⟩
     ·exact ⟨45, 1, by rw [h']; rfl, by decide, by decide, by decide, h', by decide⟩
    rw [← hc] at eb
    rw [eb, List.append_assoc, List.append_assoc] at ha
    have ha1 : At s i (sp n ++ (bs (wr 1 (p.f0, tx25 p)) ++ (sp 1 ++ c :: (sp 1 ++ (bs (wr 2 (q.f0, tx25 q)) ++ (sp m ++ l)))))) := ha
    have hno : NoSp (c :: (sp 1 ++ (bs (wr 2 (q.f0, tx25 q)) ++ (sp m ++ l)))) := .inr ⟨c, _, rfl, hct⟩
    refine rp.C s i n 1 _ R hs ha1 hno (.inr ⟨32, _, rfl, by decide⟩) (by show (if Lib.indexByte [42, 47, 37] c < 0 then _ else _) = _; rw [if_pos hmiss]) ?_
    have ha2 := ha1.skip.next.skip
    have ha3 : At s (i + n + (bs (wr 1 (p.f0, tx25 p))).length + 1 + [c].length) (sp 1 ++ (bs (wr 2 (q.f0, tx25 q)) ++ (sp m ++ l))) := At.next (a := [c]) ha2
    have e3 := rd_times_end s hs _ m l q (ha3.skip.next) hns ho
    have eq := rq.B s _ 1 _ _ hs ha3 hnd e3
    refine rd_sum_step s hs _ 0 _ c _ p q t R ha2 hct ht h0 eq ?_
    rw [← hx4]
    have e1 : x.f1 = 0 := zero_of h (by omega)
    have e2 : x.f2 = [p, q] := by rw [ex]
    rw [e1, e2] at eR
    have el : i + n + (bs (wr 1 (p.f0, tx25 p))).length + 1 + [c].length + 1 + (bs (wr 2 (q.f0, tx25 q))).length + m = i + n + (bs (tx25 x)).length + m := by
     rw [eb]; simp only [List.length_append, List.length_cons, List.length_nil]; omega
    rw [el]
    exact eR
   ·have h2l : 2 ≤ lev x.f0 := by
     unfold lev
     rw [if_neg h45]
     split <;> omega
    have e3 := rd_times_end s hs _ m l x ha.skip.next hns ho
    exact rd_sum s i _ x R (B2 h2l s i n _ _ hs ha hnd e3) eR
  have A : ∀ (s : ByteArray) (i n : Nat) (r : List UInt8), s.size ≤ 1000000 → At s i (sp n ++ (bs (wr 3 (x.f0, tx25 x)) ++ r)) → NoDig r → Ev (fun k => impl_exprReader_signed.f k s i false) (rdR x s (i + n + (bs (wr 3 (x.f0, tx25 x))).length)) := by
   intro s i n r hs ha hr
   rw [bs_wr] at ha ⊢
   by_cases hw : lev x.f0 < 3
   ·simp only [if_pos hw] at ha ⊢
    have ha1 : At s i (sp n ++ (40 : UInt8) :: (bs (tx25 x) ++ (sp 0 ++ (41 : UInt8) :: r))) := by
     rw [List.cons_append, List.append_assoc] at ha; exact ha
    have ha2 : At s (i + n + 1) (sp 0 ++ (bs (tx25 x) ++ (sp 0 ++ (41 : UInt8) :: r))) := At.next (a := [40]) ha1.skip
    have ha3 : At s (i + n + 1 + (bs (tx25 x)).length) ((41 : UInt8) :: r) := ha2.skip.next
    have n41 : NoSp ((41 : UInt8) :: r) := .inr ⟨41, r, rfl, by decide, by decide⟩
    have e := C1 s (i + n + 1) 0 0 ((41 : UInt8) :: r) _ hs ha2 n41 (.inr ⟨41, r, rfl, by decide⟩) rfl (rd_sum_end s hs _ 0 _ x ha3 n41 rfl)
    have := rd_par s hs n 0 i _ _ r x ha1 ha3 e
    refine evTo this ?_
    show rdR x s _ = rdR x s _
    congr 1
    simp only [List.length_cons, List.length_append, List.length_nil]
    omega
   ·simp only [if_neg hw] at ha ⊢
    refine A3 ?_ s i n r hs ha hr
    unfold lev at hw ⊢
    split at hw
    ·omega
    ·split at hw
     ·omega
     ·rename_i g1 g2; rw [if_neg g1, if_neg g2]
  refine ⟨A, ?_, ?_⟩
  ·intro s i n r R hs ha hr eR
   by_cases hw : lev x.f0 < 2
   ·have hw3 : wr 2 (x.f0, tx25 x) = wr 3 (x.f0, tx25 x) := by unfold wr; rw [if_pos hw, if_pos (show lev x.f0 < 3 by omega)]
    rw [hw3] at ha eR
    exact rd_times s i _ x R (A s i n r hs ha hr) eR
   ·have hw0 : wr 2 (x.f0, tx25 x) = tx25 x := by unfold wr; rw [if_neg hw]
    rw [hw0] at ha eR
    exact B2 (by omega) s i n r R hs ha hr eR
  ·intro s i n m l R hs ha hns hnd ho eR
   have hw0 : wr 1 (x.f0, tx25 x) = tx25 x := by
    unfold wr
    rw [if_neg]
    unfold lev
    split
    ·omega
    ·split <;> omega
   rw [hw0] at ha eR
   exact C1 s i n m l R hs ha hns hnd ho eR

theorem impl_ParseExpr_ev (s : ByteArray) (x : S25) (n : Nat) (hs : s.size ≤ 400) (hx : isE x = true) (e : Ev (fun k => impl_exprReader_sum.f k s 0 false) (rdR x s s.size)) : Ev (fun k => impl_ParseExpr.f k s) (x.f0, x.f1, x.f2, true) := by
 simp only [impl_ParseExpr.f]
 have ha : At s s.size (sp 0 ++ []) := ⟨by omega, by
  show s.data.toList.drop s.size = []
  rw [List.drop_eq_nil_iff, Array.length_toList]; exact Nat.le_refl _⟩
 refine Ev.neg (by omega) (Ev.bind e (Ev.bind (impl_exprReader_see_ev s false (by omega) 0 s.size [] ha (.inl rfl)) (Ev.neg (by simp) (Ev.neg (by simp) ?_))))
 refine Ev.bind (impl_IsExpr_ev x (by have := (isE_shp hx).2; omega)) ?_
 rw [hx]
 exact Ev.pos rfl (Ev.ret rfl)
/-- An expression's text is read back as the expression. -/
theorem impl_ParseExpr_text (x : S25) (hx : isE x = true) (hz : (tx25 x).size ≤ 400) : Ev (fun k => impl_ParseExpr.f k (tx25 x)) (x.f0, x.f1, x.f2, true) := by
 have hsh := (isE_shp hx).1
 refine impl_ParseExpr_ev (tx25 x) x 0 hz hx ?_
 have hw0 : wr 1 (x.f0, tx25 x) = tx25 x := by
  unfold wr
  rw [if_neg]
  unfold lev
  split
  ·omega
  ·split <;> omega
 have ha : At (tx25 x) 0 (sp 0 ++ (bs (wr 1 (x.f0, tx25 x)) ++ (sp 0 ++ []))) := by
  rw [hw0]
  have := At.start (tx25 x)
  simpa [sp] using this
 have hb : At (tx25 x) (tx25 x).size (sp 0 ++ []) := by
  have := ha.skip.next
  rw [hw0, bs_len] at this
  simpa using this
 have := (Rd.of x hsh).C (tx25 x) 0 0 0 [] (rdR x (tx25 x) (tx25 x).size) (by omega) ha (.inl rfl) (.inl rfl) rfl
 refine this ?_
 rw [hw0, bs_len]
 have e := rd_sum_end (tx25 x) (by omega) (tx25 x).size 0 [] x hb (.inl rfl) rfl
 simpa using e

/-- An expression's text inside two pairs of parentheses. -/
theorem impl_ParseExpr_wide (x : S25) (hx : isE x = true) (hz : (tx25 x).size ≤ 392) : Ev (fun k => impl_ParseExpr.f k (((⟨#[32, 32, 40, 40]⟩ : ByteArray) ++ tx25 x) ++ (⟨#[32, 41, 32, 41]⟩ : ByteArray))) (x.f0, x.f1, x.f2, true) := by
 have hsh := (isE_shp hx).1
 have hw0 : wr 1 (x.f0, tx25 x) = tx25 x := by
  unfold wr
  rw [if_neg]
  unfold lev
  split
  ·omega
  ·split <;> omega
 have hsz : (((⟨#[32, 32, 40, 40]⟩ : ByteArray) ++ tx25 x) ++ (⟨#[32, 41, 32, 41]⟩ : ByteArray)).size = 4 + (tx25 x).size + 4 := by
  simp only [ByteArray.size_append', ByteArray.size_mk', List.size_toArray, List.length_cons, List.length_nil]
 have hst : At (((⟨#[32, 32, 40, 40]⟩ : ByteArray) ++ tx25 x) ++ (⟨#[32, 41, 32, 41]⟩ : ByteArray)) 0 (sp 2 ++ (40 : UInt8) :: (sp 0 ++ (40 : UInt8) :: (sp 0 ++ (bs (wr 1 (x.f0, tx25 x)) ++ (sp 1 ++ [41, 32, 41]))))) := by
  rw [hw0]
  have := At.start (((⟨#[32, 32, 40, 40]⟩ : ByteArray) ++ tx25 x) ++ (⟨#[32, 41, 32, 41]⟩ : ByteArray))
  have e : bs (((⟨#[32, 32, 40, 40]⟩ : ByteArray) ++ tx25 x) ++ (⟨#[32, 41, 32, 41]⟩ : ByteArray)) = [32, 32, 40, 40] ++ bs (tx25 x) ++ [32, 41, 32, 41] := by
   rw [bs_app, bs_app]
  unfold bs at e
  rw [e] at this
  simpa [sp, List.replicate] using this
 generalize (((⟨#[32, 32, 40, 40]⟩ : ByteArray) ++ tx25 x) ++ (⟨#[32, 41, 32, 41]⟩ : ByteArray)) = s at *
 have hs : s.size ≤ 1000000 := by omega
 have h3 : At s 3 (sp 0 ++ (40 : UInt8) :: (sp 0 ++ (bs (wr 1 (x.f0, tx25 x)) ++ (sp 1 ++ [41, 32, 41])))) := (At.skip hst).next (a := [40])
 have h4 : At s 4 (sp 0 ++ (bs (wr 1 (x.f0, tx25 x)) ++ (sp 1 ++ [41, 32, 41]))) := (At.skip h3).next (a := [40])
 have hq : At s (4 + (tx25 x).size) (sp 1 ++ [41, 32, 41]) := by
  have := (At.skip h4).next
  rw [hw0, bs_len] at this
  exact this
 have h5 : At s (4 + (tx25 x).size + 1) (sp 0 ++ ([41, 32, 41] : List UInt8)) := At.skip hq
 have h6 : At s (4 + (tx25 x).size + 2) (sp 1 ++ ([41] : List UInt8)) := (At.skip h5).next (a := [41])
 have h7 : At s (4 + (tx25 x).size + 3) (sp 0 ++ ([41] : List UInt8)) := At.skip (n := 1) h6
 have h8 : At s (4 + (tx25 x).size + 4) (sp 0 ++ ([] : List UInt8)) := (At.skip h7).next (a := [41])
 have n41 : ∀ l : List UInt8, NoSp ((41 : UInt8) :: l) := fun l => .inr ⟨41, l, rfl, by decide, by decide⟩
 have e1 : Ev (fun k => impl_exprReader_sum.f k s ((3 + 0 + 1 : Nat) : Int) false) (rdR x s (4 + (tx25 x).size + 1)) := by
  have := (Rd.of x hsh).C s 4 0 1 [41, 32, 41] (rdR x s (4 + (tx25 x).size + 1)) hs h4 (n41 _) (.inr ⟨32, _, rfl, by decide⟩) rfl
  refine this ?_
  rw [hw0, bs_len]
  exact rd_sum_end s hs (4 + (tx25 x).size + 1) 0 _ x h5 (n41 _) rfl
 have e2 := rd_par s hs 0 0 3 (4 + (tx25 x).size + 1) _ _ x h3 h5 e1
 have e3 := rd_times s 3 _ x _ e2 (rd_times_end s hs (4 + (tx25 x).size + 2) 1 [41] x h6 (n41 _) rfl)
 have e4 := rd_sum s 3 _ x _ e3 (rd_sum_end s hs (4 + (tx25 x).size + 3) 0 [41] x h7 (n41 _) rfl)
 have e5 := rd_par s hs 2 0 0 (4 + (tx25 x).size + 3) _ _ x hst h7 e4
 have e6 := rd_times s 0 _ x _ e5 (rd_times_end s hs (4 + (tx25 x).size + 4) 0 [] x h8 (.inl rfl) rfl)
 have e7 := rd_sum s 0 _ x _ e6 (rd_sum_end s hs (4 + (tx25 x).size + 4) 0 [] x h8 (.inl rfl) rfl)
 refine impl_ParseExpr_ev s x 0 (by omega) hx ?_
 rw [hsz]
 exact e7

theorem impl_copyExpr_l (l : List S25) (a b : Int) (hl : l.length ≤ 1048576) (ih : ∀ y ∈ l, Ev (fun k => impl_copyExpr.f k y.f0 y.f1 y.f2) (y.f0, y.f1, y.f2)) :
  ∀ (d i : Nat) (x : List S25), i + d = l.length → x = l.take i → Ev (fun k => impl_copyExpr.l0 k l (l.length : Int) i a b x) (a, b, l) := by
 intro d
 induction d with
 | zero =>
  intro i x hi hx
  subst hx
  apply Ev.succ
  simp only [impl_copyExpr.l0.eq_2]
  refine Ev.neg (by omega) (Ev.ret ?_)
  rw [List.take_of_length_le (by omega)]
 | succ d ihd =>
  intro i x hi hx
  subst hx
  have hlt : i < l.length := by omega
  apply Ev.succ
  simp only [impl_copyExpr.l0.eq_2]
  refine Ev.pos (by omega) (Ev.pos (by omega) (Ev.pos (by omega) ?_))
  rw [rd25_get l i hlt, w64 (by omega) (by omega)]
  refine Ev.bind (ih _ (List.getElem_mem hlt)) (Ev.pos (by simp only [List.length_take]; omega) ?_)
  exact ihd (i + 1) _ (by omega) (by simp only [take_snoc l i hlt, eta25])
theorem impl_copyExpr_ev (x : S25) (hs : sub25 x ≤ 1048576) : Ev (fun k => impl_copyExpr.f k x.f0 x.f1 x.f2) (x.f0, x.f1, x.f2) := by
 induction x using S25.ind with
 | h x ih =>
  have hl := subL25_len x.f2
  rw [sub25_eq] at hs
  apply Ev.succ
  simp only [impl_copyExpr.f.eq_2]
  exact impl_copyExpr_l x.f2 x.f0 x.f1 (by omega) (fun y hy => ih y hy (by have := subL25_mem hy; omega)) x.f2.length 0 _ (by omega) (by simp)

theorem impl_negative_ev (x : S25) (h : shp25 x = true) : Ev (fun k => impl_negative.f k x.f0 x.f1 x.f2) ((neg25 x).f0, (neg25 x).f1, (neg25 x).f2) := by
 induction x using S25.ind with
 | h x ih =>
  obtain ⟨k1, k2⟩ := kids_of h
  rw [neg25_eq]
  unfold negC
  apply Ev.succ
  simp only [impl_negative.f]
  by_cases h2 : x.f0 = 2
  ·obtain ⟨p, hp, sp⟩ := k1 (.inl h2)
   have ip := ih p (by rw [hp]; simp) sp
   rw [if_pos h2, hp]
   simp only [negL25, rd_T25]
   exact Ev.pos h2 (Ev.pos (by simp) (Ev.bind ip (Ev.ret (by simp [eta25]))))
  refine Ev.neg h2 ?_
  rw [if_neg h2]
  by_cases h3 : x.f0 = 3
  ·obtain ⟨p, hp, sp⟩ := k1 (.inr h3)
   rw [if_pos h3, hp]
   simp only [negL25, rd_T25]
   exact Ev.pos h3 (Ev.pos (by simp) (Ev.ret (by simp [eta25])))
  refine Ev.neg h3 ?_
  rw [if_neg h3]
  by_cases h4 : x.f0 = 4 ∨ x.f0 = 5
  ·obtain ⟨p, q, hp, sp, sq⟩ := k2 (by omega)
   have ip := ih p (by rw [hp]; simp) sp
   have iq := ih q (by rw [hp]; simp) sq
   rw [if_pos h4, hp]
   simp only [negL25, rd_T25]
   exact Ev.pos h4 (Ev.pos (by simp) (Ev.bind ip (Ev.bind iq (Ev.ret (by simp [eta25])))))
  refine Ev.neg h4 ?_
  rw [if_neg h4]
  by_cases h6 : x.f0 = 6
  ·obtain ⟨p, q, hp, sp, sq⟩ := k2 (by omega)
   have ip := ih p (by rw [hp]; simp) sp
   rw [if_pos h6, hp]
   simp only [negL25, rd_T25]
   exact Ev.pos h6 (Ev.pos (by simp) (Ev.bind ip (Ev.ret (by simp [eta25]))))
  ·rw [if_neg h6]
   exact Ev.neg h6 (Ev.ret (by simp [eta25]))

theorem impl_NegateExpr_ev (x : S25) (hs : sub25 x ≤ 1048576) : Ev (fun k => impl_NegateExpr.f k x.f0 x.f1 x.f2) ((negT x).1.f0, (negT x).1.f1, (negT x).1.f2, (negT x).2) := by
 simp only [impl_NegateExpr.f]
 unfold negT
 refine Ev.bind (impl_IsExpr_ev x hs) ?_
 by_cases h : isE x = true
 ·rw [if_pos h]
  refine Ev.pos h ?_
  obtain ⟨h1, h2⟩ := isE_shp h
  have hn : sub25 (neg25 x) ≤ 1048576 := by have := sub_neg x h1; omega
  refine Ev.bind (impl_negative_ev x h1) (Ev.bind (impl_copyExpr_ev (neg25 x) hn) (Ev.bind (impl_IsExpr_ev (neg25 x) hn) ?_))
  by_cases g : isE (neg25 x) = true
  ·rw [if_pos g, if_pos g]; exact Ev.now _
  ·rw [if_neg g, if_neg g]; exact Ev.now _
 ·rw [if_neg h]; exact Ev.neg h (Ev.now _)

theorem impl_size_eq (d : Int) (h0 : -1000000000000000000 ≤ d) (h1 : d ≤ 1000000000000000000) : impl_size.f d = some (if d < 0 then -d else d) := by
 unfold impl_size.f mx
 rw [w64 (by omega) (by omega)]
 refine congrArg some ?_
 split <;> split <;> omega

theorem impl_product_ev (x y : Int) (hx : inL x) (hy : inL y) : Ev (fun k => impl_product.f k x y) (if x = 0 then (x * y, true) else if absI y > Int.tdiv (lim 30) (absI x) then (0, false) else (x * y, true)) := by
 simp only [impl_product.f]
 have h0 := hx
 have h1 := hy
 unfold inL at h0 h1
 refine Ev.bind (impl_LimitOf_ev 30) ?_
 refine Ev.ite (fun c => ?_) (fun c => ?_)
 ·rw [if_pos c, c, Int.zero_mul, w64 (by omega) (by omega)]; exact Ev.now _
 ·rw [if_neg c]
  refine Ev.bindc (impl_size_eq y (by omega) (by omega)) (Ev.bindc (impl_size_eq x (by omega) (by omega)) ?_)
  have hax : (if x < 0 then -x else x) ≠ 0 := by split <;> omega
  refine Ev.neg hax ?_
  have hw : wrap64 (Int.tdiv (lim 30) (if x < 0 then -x else x)) = Int.tdiv (lim 30) (absI x) := by
   have := Int.natAbs_tdiv_le_natAbs (lim 30) (absI x)
   rw [lim30] at *
   exact w64 (by unfold absI at this; omega) (by unfold absI at this; omega)
  rw [hw]
  refine Ev.ite (fun cy => ?_) (fun cy => ?_)
  ·rw [if_pos (show absI y > _ from cy)]; exact Ev.now _
  ·rw [if_neg (show ¬ absI y > _ from cy)]
   have := mul_le_of_tdiv x y hx hy c cy
   unfold inL at this
   rw [w64 (by omega) (by omega)]
   exact Ev.now _

theorem impl_divided_eq (a d : Int) (ha : -1000000000000000000 ≤ a ∧ a ≤ 1000000000000000000) (hd : -1000000000000000000 ≤ d ∧ d ≤ 1000000000000000000) (h0 : d ≠ 0) : impl_divided.f a d = some (Int.tdiv (a - divr a d) d, divr a d) := by
 have hs : impl_size.f d = some (if d < 0 then -d else d) := by
  unfold impl_size.f mx
  rw [w64 (by omega) (by omega)]
  refine congrArg some ?_
  split <;> split <;> omega
 unfold impl_divided.f
 rw [hs]
 simp only [Option.bind_some]
 rw [divr_eq a d _ _ rfl rfl]
 generalize hS : (if d < 0 then -d else d) = s
 have hs1 : 0 < s := by split at hS <;> omega
 have hs2 : s ≤ 1000000000000000000 := by split at hS <;> omega
 have h1 := Int.tmod_lt_of_pos a hs1
 have h2 : -s < Int.tmod a s := by
  have := Int.tmod_lt_of_pos (-a) hs1
  rw [Int.neg_tmod] at this; omega
 generalize hR : Int.tmod a s = r at *
 have key : ∀ b : Int, -2000000000000000000 ≤ b → b ≤ 2000000000000000000 → wrap64 (Int.tdiv b d) = Int.tdiv b d := by
  intro b hb0 hb1
  have := Int.natAbs_tdiv_le_natAbs b d
  exact w64 (by omega) (by omega)
 rw [if_neg (by omega), w64 (n := 2 * r) (by omega) (by omega), w64 (n := -s) (by omega) (by omega)]
 by_cases c1 : 2 * r > s
 ·rw [if_pos c1, if_neg h0]
  rw [if_pos c1, w64 (n := r - s) (by omega) (by omega), w64 (n := a - (r - s)) (by omega) (by omega), key _ (by omega) (by omega)]
 ·rw [if_neg c1]
  by_cases c2 : 2 * r ≤ -s
  ·rw [if_pos c2, if_neg h0]
   rw [if_neg c1, if_pos c2, w64 (n := r + s) (by omega) (by omega), w64 (n := a - (r + s)) (by omega) (by omega), key _ (by omega) (by omega)]
  ·rw [if_neg c2, if_neg h0]
   rw [if_neg c1, if_neg c2, w64 (n := a - r) (by omega) (by omega), key _ (by omega) (by omega)]

theorem impl_fits_ev (n k : Int) : Ev (fun m => impl_fits.f m n k) (fitsB n k) := by
 simp only [impl_fits.f]
 have h1 := lim_nonneg k
 have h2 := lim_le k
 refine Ev.bind (impl_LimitOf_ev k) ?_
 rw [w64 (by omega) (by omega)]
 refine Ev.ite (fun h => Ev.bind (impl_LimitOf_ev k) (Ev.ret ?_)) (fun h => Ev.ret ?_)
 ·unfold fitsB; exact decide_eq_decide.2 (by omega)
 ·unfold fitsB; rw [decide_eq_false]; omega

theorem fitV (v : Int) : Ev (fun k => (impl_fits.f k v 30).bind fun t => some (v, t)) (resV v) :=
 Ev.bind (impl_fits_ev v 30) (Ev.ret rfl)
theorem impl_evaluated_l (l l' : List S25) (a b : Int) (ha : (1 ≤ a ∧ a ≤ 8) ∧ (l.length : Int) = arity a) (hl : l.length ≤ 1048576) (ih : ∀ y ∈ l, Ev (fun k => impl_evaluated.f k y.f0 y.f1 y.f2) (ev25 y)) :
  ∀ (d i : Nat) (acc : List Int), i + d = l.length → acc.length = i → (∀ v ∈ acc, inL v) → Ev (fun k => impl_evaluated.l0 k acc l (l.length : Int) i a b l') (combO a b (accO acc (evL25 (l.drop i)))) := by
 intro d
 induction d with
 | zero =>
  intro i acc hi hacc hv
  apply Ev.succ
  simp only [impl_evaluated.l0.eq_2]
  refine Ev.neg (by omega) ?_
  rw [List.drop_of_length_le (by omega)]
  have e : combO a b (accO acc (evL25 [])) = comb a b acc := by simp [evL25, accO, combO]
  rw [e]
  have r0 : 1 ≤ acc.length → inL (rd acc 0) := fun h => rd01 acc hv 0 (by omega) (by omega)
  have r1 : 2 ≤ acc.length → inL (rd acc 1) := fun h => rd01 acc hv 1 (by omega) (by omega)
  have hal : (acc.length : Int) = arity a := by omega
  unfold comb
  obtain ⟨x, hX⟩ : ∃ x, rd acc 0 = x := ⟨_, rfl⟩
  obtain ⟨y, hY⟩ : ∃ y, rd acc 1 = y := ⟨_, rfl⟩
  simp only [hX, hY] at r0 r1 ⊢
  obtain ⟨h18, _⟩ := ha
  unfold arity at hal
  refine Ev.ite (fun c => ?_) (fun c2 => ?_)
  ·rw [if_pos c, if_neg (by omega), if_pos (by omega)] at *
   exact Ev.pos (by omega) (fitV x)
  ·rw [if_neg c2]
   refine Ev.ite (fun c => ?_) (fun c3 => ?_)
   ·rw [if_pos c]
    rw [if_neg (by omega), if_pos (by omega)] at hal
    have := r0 (by omega)
    unfold inL at this
    rw [w64 (by omega) (by omega)]
    exact Ev.pos (by omega) (fitV _)
   ·rw [if_neg c3]
    rw [if_neg (by omega : ¬ (a = 2 ∨ a = 3))] at hal
    by_cases ca : a = 1
    ·rw [if_pos ca] at hal
     refine Ev.neg (by omega) (Ev.neg (by omega) (Ev.neg (by omega) (Ev.neg (by omega) ?_)))
     rw [if_neg (by omega), if_neg (by omega), if_neg (by omega), if_neg (by omega)]
     apply Ev.succ
     simp only [impl_evaluated.j1.eq_2]
     exact Ev.neg (by simp; omega) (Ev.pos trivial (fitV b))
    ·rw [if_neg ca] at hal
     have h0 := r0 (by omega)
     have h1 := r1 (by omega)
     have hx := h0
     have hy := h1
     unfold inL at h0 h1
     refine Ev.ite (fun c => ?_) (fun c4 => ?_)
     ·rw [if_pos c]
      rw [w64 (by omega) (by omega)]
      exact Ev.pos (by omega) (Ev.pos (by omega) (fitV _))
     ·rw [if_neg c4]
      refine Ev.ite (fun c => ?_) (fun c5 => ?_)
      ·rw [if_pos c]
       rw [w64 (by omega) (by omega)]
       exact Ev.pos (by omega) (Ev.pos (by omega) (fitV _))
      ·rw [if_neg c5]
       refine Ev.ite (fun c => ?_) (fun c6 => ?_)
       ·rw [if_pos c]
        refine Ev.pos (by omega) (Ev.pos (by omega) ?_)
        refine Ev.bind (impl_product_ev x y hx hy) ?_
        by_cases cx : x = 0
        ·rw [if_pos cx, if_pos cx]
         exact Ev.pos rfl (fitV _)
        ·rw [if_neg cx, if_neg cx]
         by_cases cy : absI y > Int.tdiv (lim 30) (absI x)
         ·rw [if_pos cy, if_pos cy]
          exact Ev.neg (by simp) (Ev.now _)
         ·rw [if_neg cy, if_neg cy]
          exact Ev.pos rfl (fitV _)
       ·rw [if_neg c6]
        have h78 : a = 7 ∨ a = 8 := by omega
        rw [if_pos h78]
        have j1 : Ev (fun k => impl_evaluated.j1 k acc b true true a b l') (if y = 0 then (0, false) else if a = 8 then resV (divr x y) else resV (Int.tdiv (x - divr x y) y)) := by
         apply Ev.succ
         simp only [impl_evaluated.j1.eq_2, hX, hY]
         refine Ev.pos trivial (Ev.pos (by omega) (Ev.ite (fun cy => ?_) (fun cy => ?_)))
         ·rw [if_pos cy]; exact Ev.now _
         ·rw [if_neg cy]
          refine Ev.pos (by omega) (Ev.bindc (impl_divided_eq x y (by omega) (by omega) cy) ?_)
          refine Ev.ite (fun c8 => ?_) (fun c8 => ?_)
          ·rw [if_pos c8]; exact Ev.pos trivial (fitV _)
          ·rw [if_neg c8]; exact Ev.pos trivial (fitV _)
        refine Ev.ite (fun c => ?_) (fun c7 => ?_)
        ·rw [show (a == 7) = true by simp [c]]; exact j1
        ·rw [show (a == 8) = true by simp; omega]; exact j1
 | succ d ihd =>
  intro i acc hi hacc hv
  have hlt : i < l.length := by omega
  apply Ev.succ
  simp only [impl_evaluated.l0.eq_2]
  refine Ev.pos (by omega) (Ev.pos (by omega) (Ev.pos (by omega) ?_))
  rw [rd25_get l i hlt, w64 (by omega) (by omega), evL25_drop l i hlt]
  refine Ev.bind (ih _ (List.getElem_mem hlt)) ?_
  refine Ev.ite (fun h => ?_) (fun h => ?_)
  ·rw [if_pos h]
   refine Ev.pos (by omega) ?_
   refine evTo (ihd (i + 1) (acc ++ [(ev25 l[i]).1]) (by omega) (by simp [hacc]) ?_) ?_
   ·intro v hv'
    rw [List.mem_append, List.mem_singleton] at hv'
    rcases hv' with h' | rfl
    ·exact hv v h'
    ·exact ev25_ok _ h
   ·cases evL25 (l.drop (i + 1)) <;> simp [accO]
  ·rw [if_neg h]; exact Ev.now _
theorem impl_evaluated_ev : ∀ (x : S25), sub25 x ≤ 1048576 → shp25 x = true → Ev (fun k => impl_evaluated.f k x.f0 x.f1 x.f2) (ev25 x) := by
 intro x
 induction x using S25.ind with
 | h x ih =>
 intro hs hsh
 have hl := subL25_len x.f2
 rw [sub25_eq] at hs
 rw [shp25_eq, Bool.and_eq_true] at hsh
 obtain ⟨hn, hk⟩ := hsh
 unfold nodeOk at hn
 rw [decide_eq_true_eq] at hn
 apply Ev.succ
 simp only [impl_evaluated.f.eq_2]
 refine evTo (impl_evaluated_l x.f2 x.f2 x.f0 x.f1 ⟨hn.1, hn.2.1⟩ (by omega) (fun y hy => ih y hy (by have := subL25_mem hy; omega) (shpL25_mem hk hy)) x.f2.length 0 [] (by omega) rfl (by simp)) ?_
 rw [ev25_eq, List.drop_zero]
 cases evL25 x.f2 <;> simp [accO]

theorem impl_EvalExpr_ev (x : S25) (hs : sub25 x ≤ 1048576) : Ev (fun k => impl_EvalExpr.f k x.f0 x.f1 x.f2) (evE x) := by
 simp only [impl_EvalExpr.f]
 refine Ev.bind (impl_IsExpr_ev x hs) ?_
 unfold evE
 refine Ev.ite (fun h => ?_) (fun h => ?_)
 ·rw [if_pos h]
  refine Ev.bind (impl_evaluated_ev x hs (by have g := isE_shp h; first | exact g | exact g.1)) ?_
  refine Ev.ite (fun h' => Ev.ret (by rw [if_pos h'])) (fun h' => Ev.ret (by rw [if_neg h']))
 ·exact Ev.ret (by rw [if_neg h])

theorem ev_one (a b : Int) (p : S25) : ev25 ⟨a, b, [p]⟩ = if (ev25 p).2 = true then comb a b [(ev25 p).1] else (0, false) := by
 rw [ev25_eq]
 simp only [evL25]
 split <;> rfl
theorem ev_two (a b : Int) (p q : S25) : ev25 ⟨a, b, [p, q]⟩ = if (ev25 p).2 = true then (if (ev25 q).2 = true then comb a b [(ev25 p).1, (ev25 q).1] else (0, false)) else (0, false) := by
 rw [ev25_eq]
 simp only [evL25]
 split
 ·split <;> rfl
 ·rfl
theorem fits_neg (v : Int) : fitsB (-v) 30 = fitsB v 30 := by
 unfold fitsB
 rw [lim30, Bool.eq_iff_iff]
 simp
 omega
theorem absI_neg (v : Int) : absI (-v) = absI v := by unfold absI; split <;> split <;> omega
theorem rd1 (v : Int) (l : List Int) : rd (v :: l) 0 = v := rfl
theorem comb4 (v u : Int) : comb 4 0 [v, u] = resV (v + u) := rfl
theorem comb5 (v u : Int) : comb 5 0 [v, u] = resV (v - u) := rfl
theorem comb6 (v u : Int) : comb 6 0 [v, u] = if v = 0 then resV (v * u) else if absI u > Int.tdiv (lim 30) (absI v) then (0, false) else resV (v * u) := rfl
/-- The negative of an expression has the negative value. -/
theorem ev_neg (x : S25) (h : shp25 x = true) : (ev25 (neg25 x)).2 = (ev25 x).2 ∧ ((ev25 x).2 = true → (ev25 (neg25 x)).1 = -(ev25 x).1) := by
 induction x using S25.ind with
 | h x ih =>
  have hk := kind_of h
  obtain ⟨h1, h2⟩ := kids_of h
  have neg : neg25 x = ⟨3, 0, [⟨x.f0, x.f1, x.f2⟩]⟩ → (ev25 (neg25 x)).2 = (ev25 x).2 ∧ ((ev25 x).2 = true → (ev25 (neg25 x)).1 = -(ev25 x).1) := by
   intro e
   rw [e, eta25, ev_one]
   by_cases hx : (ev25 x).2 = true
   ·rw [if_pos hx, hx]
    have hi := ev25_ok x hx
    unfold inL at hi
    have hf : fitsB (-(ev25 x).1) 30 = true := by unfold fitsB; rw [lim30, decide_eq_true_eq]; omega
    refine ⟨?_, fun _ => ?_⟩
    ·show (comb 3 0 [(ev25 x).1]).2 = true
     unfold comb
     rw [if_neg (by omega), if_pos rfl, rd1]
     exact hf
    ·show (comb 3 0 [(ev25 x).1]).1 = _
     unfold comb
     rw [if_neg (by omega), if_pos rfl, rd1]
     rfl
   ·rw [if_neg hx]
    refine ⟨?_, fun h => absurd h hx⟩
    rw [Bool.not_eq_true] at hx
    exact hx.symm
  by_cases a2 : x.f0 = 2 ∨ x.f0 = 3
  ·obtain ⟨p, e, hp⟩ := h1 a2
   obtain ⟨i1, i2⟩ := ih p (by rw [e]; simp) hp
   have z := zero_of h (by omega)
   by_cases b2 : x.f0 = 2
   ·rw [eta_kids b2 z e]
    show (ev25 ⟨2, 0, [neg25 p]⟩).2 = _ ∧ (_ → (ev25 ⟨2, 0, [neg25 p]⟩).1 = _)
    rw [ev_one, ev_one, i1]
    by_cases hp2 : (ev25 p).2 = true
    ·rw [if_pos hp2, if_pos hp2, i2 hp2]
     unfold comb
     rw [if_pos rfl, if_pos rfl, rd1, rd1]
     exact ⟨fits_neg _, fun _ => rfl⟩
    ·rw [if_neg hp2, if_neg hp2]
     exact ⟨rfl, fun h => by simp at h⟩
   ·rw [eta_kids (show x.f0 = 3 by omega) z e]
    show (ev25 ⟨2, 0, [p]⟩).2 = _ ∧ (_ → (ev25 ⟨2, 0, [p]⟩).1 = _)
    rw [ev_one, ev_one]
    by_cases hp2 : (ev25 p).2 = true
    ·rw [if_pos hp2, if_pos hp2]
     unfold comb
     rw [if_pos rfl, if_neg (by omega), if_pos rfl, rd1]
     refine ⟨(fits_neg _).symm, fun _ => ?_⟩
     show (ev25 p).1 = - -(ev25 p).1
     omega
    ·rw [if_neg hp2, if_neg hp2]
     exact ⟨rfl, fun h => by simp at h⟩
  ·by_cases a4 : x.f0 = 4 ∨ x.f0 = 5 ∨ x.f0 = 6
   ·obtain ⟨p, q, e, hp, hq⟩ := h2 (by omega)
    obtain ⟨i1, i2⟩ := ih p (by rw [e]; simp) hp
    obtain ⟨j1, j2⟩ := ih q (by rw [e]; simp) hq
    have z := zero_of h (by omega)
    by_cases b6 : x.f0 = 6
    ·rw [eta_kids b6 z e]
     show (ev25 ⟨6, 0, [neg25 p, q]⟩).2 = _ ∧ (_ → (ev25 ⟨6, 0, [neg25 p, q]⟩).1 = _)
     rw [ev_two, ev_two, i1]
     by_cases hp2 : (ev25 p).2 = true
     ·rw [if_pos hp2, if_pos hp2, i2 hp2]
      by_cases hq2 : (ev25 q).2 = true
      ·rw [if_pos hq2, if_pos hq2]
       generalize (ev25 p).1 = v
       generalize (ev25 q).1 = u
       have hm : -v * u = -(v * u) := Int.neg_mul v u
       rw [comb6, comb6, absI_neg, hm]
       by_cases hv : v = 0
       ·rw [if_pos hv, if_pos (show -v = 0 by omega)]
        exact ⟨fits_neg _, fun _ => rfl⟩
       ·rw [if_neg hv, if_neg (show ¬ -v = 0 by omega)]
        split
        ·exact ⟨rfl, fun h => by simp at h⟩
        ·exact ⟨fits_neg _, fun _ => rfl⟩
      ·rw [if_neg hq2, if_neg hq2]
       exact ⟨rfl, fun h => by simp at h⟩
     ·rw [if_neg hp2, if_neg hp2]
      exact ⟨rfl, fun h => by simp at h⟩
    ·have h45 : x.f0 = 4 ∨ x.f0 = 5 := by omega
     rw [eta_kids rfl z e]
     have en : neg25 (⟨x.f0, 0, [p, q]⟩ : S25) = ⟨x.f0, 0, [neg25 p, neg25 q]⟩ := by
      rw [neg25_eq]
      unfold negC
      rw [if_neg (by show ¬ x.f0 = 2; omega), if_neg (by show ¬ x.f0 = 3; omega), if_pos (by exact h45)]
      rfl
     rw [en, ev_two, ev_two, i1, j1]
     by_cases hp2 : (ev25 p).2 = true
     ·rw [if_pos hp2, if_pos hp2, i2 hp2]
      by_cases hq2 : (ev25 q).2 = true
      ·rw [if_pos hq2, if_pos hq2, j2 hq2]
       generalize (ev25 p).1 = v
       generalize (ev25 q).1 = u
       rcases h45 with h4 | h4
       ·rw [h4, comb4, comb4, show -v + -u = -(v + u) by omega]
        exact ⟨fits_neg _, fun _ => rfl⟩
       ·rw [h4, comb5, comb5, show -v - -u = -(v - u) by omega]
        exact ⟨fits_neg _, fun _ => rfl⟩
      ·rw [if_neg hq2, if_neg hq2]
       exact ⟨rfl, fun h => by simp at h⟩
     ·rw [if_neg hp2, if_neg hp2]
      exact ⟨rfl, fun h => by simp at h⟩
   ·apply neg
    rw [neg25_eq]
    unfold negC
    rw [if_neg (by omega), if_neg (by omega), if_neg (by omega), if_neg (by omega)]
theorem eq_refl25 (x : S25) : impl_EqualExprs.t x x = true := by
 induction x using S25.ind with
 | h x ih =>
  rw [impl_EqualExprs.t_eq]
  have hl : ∀ l : List S25, (∀ y ∈ l, impl_EqualExprs.t y y = true) → impl_EqualExprs.tl l l = true := by
   intro l
   induction l with
   | nil => intro _; rfl
   | cons y ys ihl =>
    intro h
    rw [impl_EqualExprs.tl, h y (by simp), ihl (fun z hz => h z (List.mem_cons_of_mem _ hz))]
    rfl
  rw [hl x.f2 ih]
  simp

end Go.Proofs.YtjfgcipbbcplmaaDoor.LemFnExprs
