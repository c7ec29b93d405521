/- Lemmas: what each function that this statement reaches computes. -/
import Derived.Test.YtjfgcipbbcplmaaDoorHOpFnExactFormatExpr
import Derived.Test.YtjfgcipbbcplmaaDoorBase
import Derived.Test.YtjfgcipbbcplmaaDoorWordM
set_option linter.unusedVariables false
set_option linter.unusedSimpArgs false
namespace Go.Proofs.YtjfgcipbbcplmaaDoor.LemFnExactFormatExpr
open Go.RowKit Go.Proofs.YtjfgcipbbcplmaaDoorW.PrintWords Go.Proofs.YtjfgcipbbcplmaaDoorW.PrintLast Go.Proofs.YtjfgcipbbcplmaaDoorW.PrintMore Go.Proofs.YtjfgcipbbcplmaaDoor.HFnExactFormatExpr Go.Proofs.YtjfgcipbbcplmaaDoor.Base

theorem S25.ind {P : S25 → Prop} (h : ∀ x : S25, (∀ y ∈ x.f2, P y) → P x) (x : S25) : P x :=
 S25.rec (motive_1 := P) (motive_2 := fun l => ∀ y ∈ l, P y) (fun a b l hl => h ⟨a, b, l⟩ hl) (by simp) (fun y ys h1 h2 => by simp; exact ⟨h1, h2⟩) x
theorem rd25_get (xs : List S25) (i : Nat) (h : i < xs.length) : rd_T25 xs (i : Int) = xs[i] := by
 simp [rd_T25, List.getD_eq_getElem?_getD, List.getElem?_eq_getElem h]
mutual
def sub25 : S25 → Nat
 | ⟨_, _, l⟩ => subL25 l
def subL25 : List S25 → Nat
 | [] => 0
 | x :: xs => 1 + sub25 x + subL25 xs
end
theorem sub25_eq (x : S25) : sub25 x = subL25 x.f2 := by cases x; rfl
theorem subL25_len (l : List S25) : l.length ≤ subL25 l := by
 induction l with
 | nil => simp
 | cons x xs ih => simp only [List.length_cons, subL25]; omega
theorem subL25_mem {l : List S25} {y : S25} (h : y ∈ l) : 1 + sub25 y ≤ subL25 l := by
 induction l with
 | nil => simp at h
 | cons x xs ih =>
  simp only [subL25]
  rcases List.mem_cons.1 h with rfl | h
  ·omega
  ·have := ih h; omega
theorem subL25_drop (xs : List S25) (i : Nat) (h : i < xs.length) : subL25 (xs.drop i) = 1 + sub25 xs[i] + subL25 (xs.drop (i + 1)) := by
 rw [drop_cons xs i h, subL25]
theorem eta25 (x : S25) : (⟨x.f0, x.f1, x.f2⟩ : S25) = x := by cases x; rfl

mutual
/-- How deep an expression is. -/
def dep25 : S25 → Nat
 | ⟨_, _, l⟩ => depL25 l + 1
def depL25 : List S25 → Nat
 | [] => 0
 | x :: xs => max (dep25 x) (depL25 xs)
end
theorem dep25_eq (x : S25) : dep25 x = depL25 x.f2 + 1 := by cases x; rfl
theorem dep25_le (x : S25) : dep25 x ≤ 1 + sub25 x := by
 induction x using S25.ind with
 | h x ih =>
 rw [dep25_eq, sub25_eq]
 generalize x.f2 = l at ih
 suffices h : depL25 l ≤ subL25 l by omega
 induction l with
 | nil => simp [depL25]
 | cons y ys ihy =>
  have h1 := ih y List.mem_cons_self
  have h2 := ihy (fun z hz => ih z (List.mem_cons_of_mem _ hz))
  simp only [depL25, subL25]
  omega
theorem depL25_drop (xs : List S25) (i : Nat) (h : i < xs.length) : depL25 (xs.drop i) = max (dep25 xs[i]) (depL25 (xs.drop (i + 1))) := by
 rw [drop_cons xs i h, depL25]
theorem spec_l10Size_l (l : List S25) (hl : l.length ≤ 1048576) (ih : ∀ y ∈ l, Ev (fun k => spec_l10Size.f k y.f0 y.f1 y.f2) (((1 + sub25 y : Nat) : Int), ((dep25 y : Nat) : Int))) :
  ∀ (d i n m : Nat), i + d = l.length → n + subL25 (l.drop i) ≤ 2097152 → m ≤ 2097152 → (∀ y ∈ l, dep25 y ≤ 2097152) → Ev (fun k => spec_l10Size.l0 k n m l (l.length : Int) i) (((n + subL25 (l.drop i) : Nat) : Int), ((max m (depL25 (l.drop i)) + 1 : Nat) : Int)) := by
 intro d
 induction d with
 | zero =>
  intro i n m hi hn hm hd
  apply Ev.succ
  simp only [spec_l10Size.l0.eq_2]
  refine Ev.neg (by omega) (Ev.ret ?_)
  rw [List.drop_of_length_le (by omega), w64 (by omega) (by omega)]
  simp [subL25, depL25]
 | succ d ihd =>
  intro i n m hi hn hm hd
  have hlt : i < l.length := by omega
  apply Ev.succ
  simp only [spec_l10Size.l0.eq_2]
  refine Ev.pos (by omega) (Ev.pos (by omega) (Ev.pos (by omega) ?_))
  rw [rd25_get l i hlt]
  refine Ev.bind (ih _ (List.getElem_mem hlt)) ?_
  rw [subL25_drop l i hlt] at hn ⊢
  rw [depL25_drop l i hlt]
  have h1 := hd _ (List.getElem_mem hlt)
  rw [w64 (n := (i : Int) + 1) (by omega) (by omega), w64 (by omega) (by omega)]
  have e1 : (n : Int) + ((1 + sub25 l[i] : Nat) : Int) = ((n + (1 + sub25 l[i]) : Nat) : Int) := by omega
  have e2 : mx (m : Int) (dep25 l[i]) = ((max m (dep25 l[i]) : Nat) : Int) := by simp only [mx]; split <;> omega
  simp only [e1, e2]
  refine evTo (ihd (i + 1) _ _ (by omega) (by omega) (by omega) hd) ?_
  rw [Nat.max_assoc, Nat.add_assoc]
theorem spec_l10Size_ev : ∀ (x : S25), sub25 x ≤ 1048576 → Ev (fun k => spec_l10Size.f k x.f0 x.f1 x.f2) (((1 + sub25 x : Nat) : Int), ((dep25 x : Nat) : Int)) := by
 intro x
 induction x using S25.ind with
 | h x ih =>
 intro hs
 have hl := subL25_len x.f2
 rw [sub25_eq] at hs ⊢
 rw [dep25_eq]
 apply Ev.succ
 simp only [spec_l10Size.f.eq_2]
 have := spec_l10Size_l x.f2 (by omega) (fun y hy => ih y hy (by have := subL25_mem hy; omega)) x.f2.length 0 1 0 (by omega) (by simp only [List.drop_zero]; omega) (by omega) (fun y hy => by have := subL25_mem hy; have := dep25_le y; omega)
 simpa using this

theorem spec_l1In_eq (a b c : Int) : spec_l1In.f a b c = some (decide (b ≤ a ∧ a ≤ c)) := by
 unfold spec_l1In.f
 by_cases h : b ≤ a
 ·rw [if_pos (by omega)]; simp [h]
 ·rw [if_neg (by omega)]; simp [h]

theorem spec_LimitOf_l (n : Nat) (hn : n ≤ 30) : ∀ (d i : Nat), i + d = n → Ev (fun k => spec_LimitOf.l0 k n (((3 : Int) ^ i - 1) / 2) i) (((3 : Int) ^ n - 1) / 2) := by
 intro d
 induction d with
 | zero =>
  intro i hi
  apply Ev.succ
  simp only [spec_LimitOf.l0.eq_2]
  refine Ev.neg (by omega) (Ev.ret ?_)
  rw [← hi]; rfl
 | succ d ih =>
  intro i hi
  apply Ev.succ
  simp only [spec_LimitOf.l0.eq_2]
  have h1 := pow3_30 (i := i + 1) (by omega)
  have h2 := pow3_pos i
  have h3 := pow3_lim i
  have h4 := pow3_lim (i + 1)
  rw [pow3_succ] at h1 h4
  refine Ev.pos (by omega) ?_
  rw [w64 (n := _ * _) (by omega) (by omega), w64 (by omega) (by omega), w64 (by omega) (by omega)]
  refine (ih (i + 1) (by omega)).congr (fun k => ?_)
  refine congrArg (fun z => spec_LimitOf.l0 k n z _) ?_
  rw [pow3_succ]; omega
theorem spec_LimitOf_ev (n : Int) : Ev (fun k => spec_LimitOf.f k n) (lim n) := by
 simp only [spec_LimitOf.f, spec_l1In_eq, Option.bind_some, decide_eq_true_eq]
 unfold lim
 refine Ev.ite (fun h => ?_) (fun h => Ev.ret (by rw [if_neg h]))
 obtain ⟨m, rfl⟩ : ∃ m : Nat, n = m := ⟨n.toNat, by omega⟩
 rw [if_pos h]
 exact spec_LimitOf_l m (by omega) m 0 (by omega)

/-- How many parts an operation takes. -/
def arity (a : Int) : Int := if a = 1 then 0 else if a = 2 ∨ a = 3 then 1 else 2
def nodeOk (a b : Int) (n : Nat) : Bool := decide ((1 ≤ a ∧ a ≤ 8) ∧ (n : Int) = arity a ∧ (a = 1 ∨ b = 0) ∧ 0 ≤ b ∧ b ≤ lim 30)
mutual
/-- An expression's shape is right. -/
def shp25 : S25 → Bool
 | ⟨a, b, l⟩ => nodeOk a b l.length && shpL25 l
def shpL25 : List S25 → Bool
 | [] => true
 | x :: xs => shp25 x && shpL25 xs
end
theorem shp25_eq (x : S25) : shp25 x = (nodeOk x.f0 x.f1 x.f2.length && shpL25 x.f2) := by cases x; rfl
theorem shpL25_drop (xs : List S25) (i : Nat) (h : i < xs.length) : shpL25 (xs.drop i) = (shp25 xs[i] && shpL25 (xs.drop (i + 1))) := by
 rw [drop_cons xs i h, shpL25]
theorem spec_l10Shape_l (l : List S25) (hl : l.length ≤ 1048576) (ih : ∀ y ∈ l, Ev (fun k => spec_l10Shape.f k y.f0 y.f1 y.f2) (shp25 y)) :
  ∀ (d i : Nat), i + d = l.length → Ev (fun k => spec_l10Shape.l0 k l (l.length : Int) i) (shpL25 (l.drop i)) := by
 intro d
 induction d with
 | zero =>
  intro i hi
  apply Ev.succ
  simp only [spec_l10Shape.l0.eq_2]
  refine Ev.neg (by omega) (Ev.ret ?_)
  rw [List.drop_of_length_le (by omega)]; rfl
 | succ d ihd =>
  intro i hi
  have hlt : i < l.length := by omega
  apply Ev.succ
  simp only [spec_l10Shape.l0.eq_2]
  refine Ev.pos (by omega) (Ev.pos (by omega) (Ev.pos (by omega) ?_))
  rw [rd25_get l i hlt, w64 (by omega) (by omega), shpL25_drop l i hlt]
  refine Ev.bind (ih _ (List.getElem_mem hlt)) ?_
  refine Ev.ite (fun h => ?_) (fun h => Ev.ret ?_)
  ·rw [h, Bool.true_and]; exact ihd (i + 1) (by omega)
  ·simp at h; simp [h]
theorem spec_l10Shape_ev : ∀ (x : S25), sub25 x ≤ 1048576 → Ev (fun k => spec_l10Shape.f k x.f0 x.f1 x.f2) (shp25 x) := by
 intro x
 induction x using S25.ind with
 | h x ih =>
 intro hs
 have hl := subL25_len x.f2
 rw [sub25_eq] at hs
 have hL : Ev (fun k => spec_l10Shape.l0 k x.f2 (x.f2.length : Int) 0) (shpL25 x.f2) := by
  have := spec_l10Shape_l x.f2 (by omega) (fun y hy => ih y hy (by have := subL25_mem hy; omega)) x.f2.length 0 (by omega)
  simpa using this
 have hlim : lim 30 = 102945566047324 := by rfl
 have j1 : ∀ b : Bool, Ev (fun k => spec_l10Shape.j1 k b x.f0 x.f1 x.f2) (!b && shpL25 x.f2) := by
  intro b
  apply Ev.succ
  simp only [spec_l10Shape.j1.eq_2]
  cases b
  ·refine Ev.neg (by simp) ?_; simpa using hL
  ·exact Ev.pos rfl (Ev.ret (by simp))
 have j0 : Ev (fun k => spec_l10Shape.j0 k (arity x.f0) x.f0 x.f1 x.f2) (shp25 x) := by
  apply Ev.succ
  simp only [spec_l10Shape.j0.eq_2]
  simp only [spec_l1In_eq, Option.bind_some, decide_eq_true_eq]
  rw [shp25_eq]
  refine Ev.ite (fun h1 => ?_) (fun h1 => ?_)
  ·refine Ev.ite (fun h2 => ?_) (fun h2 => ?_)
   ·refine Ev.ite (fun h3 => ?_) (fun h3 => ?_)
    ·have h5 : x.f0 ≠ 1 := by intro h; rw [h] at h3; simp [arity] at h3
     refine Ev.ite (fun h4 => ?_) (fun h4 => ?_)
     ·refine Ev.bind (spec_LimitOf_ev 30) (evTo (j1 _) ?_)
      simp [nodeOk, h1, h2, h4]
     ·refine evTo (j1 _) ?_
      simp [nodeOk, h5, h4]
    ·have h5 : x.f0 = 1 := by
      unfold arity at h3
      split at h3
      ·assumption
      ·split at h3 <;> omega
     refine Ev.bind (spec_LimitOf_ev 30) (evTo (j1 _) ?_)
     rw [h5] at h2
     simp [nodeOk, h5, h2]
   ·refine evTo (j1 _) ?_
    simp [nodeOk, h2]
  ·refine evTo (j1 _) ?_
   simp [nodeOk, h1]
 apply Ev.succ
 simp only [spec_l10Shape.f.eq_2]
 refine Ev.ite (fun h => ?_) (fun h => Ev.ite (fun h' => ?_) (fun h' => Ev.ite (fun h'' => ?_) (fun h'' => ?_)))
 ·rw [show arity x.f0 = 0 by simp [arity, h]] at j0; exact j0
 ·rw [show arity x.f0 = 1 by simp [arity, h']] at j0; exact j0
 ·rw [show arity x.f0 = 1 by simp [arity, h'']] at j0; exact j0
 ·rw [show arity x.f0 = 2 by simp [arity, h, h', h'']] at j0; exact j0

/-- An expression that both take. -/
def isE (x : S25) : Bool := decide (1 + sub25 x ≤ 60 ∧ dep25 x ≤ 12) && shp25 x
theorem spec_IsExpr_ev (x : S25) (hs : sub25 x ≤ 1048576) : Ev (fun k => spec_IsExpr.f k x.f0 x.f1 x.f2) (isE x) := by
 simp only [spec_IsExpr.f]
 refine Ev.bind (spec_l10Size_ev x hs) ?_
 unfold isE
 refine Ev.ite (fun h1 => Ev.ite (fun h2 => Ev.bind (spec_l10Shape_ev x hs) (Ev.ret ?_)) (fun h2 => Ev.ret ?_)) (fun h1 => Ev.ret ?_)
 ·rw [decide_eq_true (by omega), Bool.true_and]
 ·rw [decide_eq_false (by omega), Bool.false_and]
 ·rw [decide_eq_false (by omega), Bool.false_and]

/-- The decimal text of a number. -/
def numB (n : Int) : ByteArray := ⟨(Lib.itoa n).toArray⟩
theorem nDig_le : ∀ (m u : Nat), u < 10 ^ (m + 1) → Lib.nDigits u ≤ m + 1 := by
 intro m
 induction m with
 | zero => intro u h; rw [Lib.nDigits_small (by simpa using h)]; omega
 | succ m ih =>
  intro u h
  by_cases h10 : u < 10
  ·rw [Lib.nDigits_small h10]; omega
  ·rw [Lib.nDigits_big h10]
   have := ih (u / 10) (Nat.div_lt_of_lt_mul (by rw [Nat.pow_succ, Nat.mul_comm] at h; exact h))
   omega
theorem itoa_len (n : Int) (h0 : -9223372036854775808 ≤ n) (h1 : n ≤ 9223372036854775807) : (Lib.itoa n).length ≤ 21 := by
 have h : ∀ u : Nat, u < 10 ^ 20 → (Lib.decDigits u).length ≤ 20 := fun u hu => by rw [Lib.decDigits_length]; exact nDig_le 19 u hu
 unfold Lib.itoa
 split
 ·have := h n.natAbs (by omega)
  simp only [List.length_cons]; omega
 ·have := h n.toNat (by omega)
  omega
theorem numB_size (n : Int) (h0 : -9223372036854775808 ≤ n) (h1 : n ≤ 9223372036854775807) : (numB n).size ≤ 21 := by
 have := itoa_len n h0 h1
 simpa [numB, ByteArray.size] using this

theorem l5_digit (u : Nat) (h : u < 9223372036854775808) : strOfNums [(wrap64 (48 + (Int.tmod (u : Int) 10))) % 256] = ⟨#[UInt8.ofNat (48 + u % 10)]⟩ := by
 have e : Int.tmod (u : Int) 10 = ((u % 10 : Nat) : Int) := by
  rw [show (10 : Int) = ((10 : Nat) : Int) from rfl, Int.ofNat_tmod]
 have h9 : u % 10 < 10 := Nat.mod_lt _ (by omega)
 rw [e, w64 (by omega) (by omega)]
 unfold strOfNums
 simp only [List.map_cons, List.map_nil]
 rw [show ((48 + ((u % 10 : Nat) : Int)) % 256).toNat = 48 + u % 10 by omega]
theorem l5_div (u : Nat) (h : u < 9223372036854775808) : wrap64 (Int.tdiv (u : Int) 10) = ((u / 10 : Nat) : Int) := by
 have e : Int.tdiv (u : Int) 10 = ((u / 10 : Nat) : Int) := by
  rw [show (10 : Int) = ((10 : Nat) : Int) from rfl, Int.ofNat_tdiv]
 rw [e, w64 (by omega) (by omega)]
theorem mk_app (x y : List UInt8) : (ByteArray.mk x.toArray ++ ByteArray.mk y.toArray) = ByteArray.mk (x ++ y).toArray := ByteArray.mk_append_mk x y
theorem spec_l5Number_l : ∀ (u : Nat) (a : List UInt8), u < 9223372036854775808 → a.length + u ≤ 18446744073709551616 → a.length + Lib.nDigits u ≤ 1000 → Ev (fun k => spec_l5Number.l0 k u ⟨a.toArray⟩) ⟨((if u = 0 then [] else Lib.decDigits u) ++ a).toArray⟩ := by
 intro u
 induction u using Nat.strongRecOn with
 | _ u ih =>
  intro a hu _ hd
  apply Ev.succ
  simp only [spec_l5Number.l0.eq_2, Option.bind_some]
  by_cases h0 : u = 0
  ·subst h0
   refine Ev.neg (by omega) (Ev.ret ?_)
   simp
  ·refine Ev.pos (by omega) ?_
   rw [l5_digit u hu, l5_div u hu]
   have e : (⟨#[UInt8.ofNat (48 + u % 10)]⟩ : ByteArray) ++ ⟨a.toArray⟩ = ⟨((UInt8.ofNat (48 + u % 10)) :: a).toArray⟩ := mk_app [UInt8.ofNat (48 + u % 10)] a
   rw [e]
   have hdg : Lib.nDigits (u / 10) ≤ Lib.nDigits u ∧ (10 ≤ u → Lib.nDigits u = Lib.nDigits (u / 10) + 1) := by
    by_cases h10 : u < 10
    ·rw [Lib.nDigits_small h10, Lib.nDigits_small (by omega)]; omega
    ·rw [Lib.nDigits_big h10]; omega
   have h1 : 1 ≤ Lib.nDigits (u / 10) := by
    by_cases h10 : u / 10 < 10
    ·rw [Lib.nDigits_small h10]; omega
    ·rw [Lib.nDigits_big h10]; omega
   by_cases h10 : u < 10
   ·have hz : u / 10 = 0 := by omega
    refine Ev.pos (by simp [ByteArray.size]; omega) ?_
    rw [hz]
    apply Ev.succ
    simp only [spec_l5Number.l0.eq_2]
    refine Ev.neg (by omega) (Ev.ret ?_)
    rw [if_neg h0, Lib.decDigits_one h10, show u % 10 = u by omega]
    simp
   ·refine Ev.pos (by simp [ByteArray.size]; omega) ?_
    refine evTo (ih (u / 10) (by omega) (UInt8.ofNat (48 + u % 10) :: a) (by omega) (by simp only [List.length_cons]; omega) (by simp only [List.length_cons]; omega)) ?_
    rw [if_neg (by omega), if_neg h0, Lib.decDigits.eq_1 u, dif_neg h10]
    simp
theorem spec_l5Number_pos (u : Nat) (hu : u < 9223372036854775808) : Ev (fun k => spec_l5Number.f k u) ⟨(Lib.decDigits u).toArray⟩ := by
 apply Ev.succ
 simp only [spec_l5Number.f.eq_2]
 refine Ev.neg (by omega) ?_
 rw [l5_digit u hu, l5_div u hu]
 have hd := nDig_le 19 (u / 10) (by omega)
 have h := spec_l5Number_l (u / 10) [UInt8.ofNat (48 + u % 10)] (by omega) (by simp; omega) (by simp; omega)
 refine evTo h ?_
 by_cases h10 : u < 10
 ·rw [if_pos (by omega), Lib.decDigits_one h10, show u % 10 = u by omega]; rfl
 ·rw [if_neg (by omega), Lib.decDigits.eq_1 u, dif_neg h10]
theorem spec_l5Number_ev (n : Int) (h0 : -9223372036854775808 < n) (h1 : n ≤ 9223372036854775807) : Ev (fun k => spec_l5Number.f k n) (numB n) := by
 by_cases hn : n < 0
 ·apply Ev.succ
  simp only [spec_l5Number.f.eq_2]
  refine Ev.pos hn ?_
  obtain ⟨u, rfl⟩ : ∃ u : Nat, n = -(u : Int) := ⟨n.natAbs, by omega⟩
  rw [w64 (by omega) (by omega), show -(-(u : Int)) = (u : Int) by omega]
  refine Ev.bind (spec_l5Number_pos u (by omega)) ?_
  have hd : (Lib.decDigits u).length ≤ 20 := by rw [Lib.decDigits_length]; exact nDig_le 19 u (by omega)
  refine Ev.pos (by simp [ByteArray.size]; omega) (Ev.ret ?_)
  have e : numB (-(u : Int)) = ⟨(45 :: Lib.decDigits u).toArray⟩ := by
   unfold numB Lib.itoa
   rw [if_pos hn]
   simp
  rw [e]
  exact mk_app [45] (Lib.decDigits u)
 ·obtain ⟨u, rfl⟩ : ∃ u : Nat, n = (u : Int) := ⟨n.toNat, by omega⟩
  refine evTo (spec_l5Number_pos u (by omega)) ?_
  unfold numB Lib.itoa
  rw [if_neg hn]
  simp

theorem isE_shp {x : S25} (h : isE x = true) : shp25 x = true ∧ sub25 x ≤ 60 := by
 unfold isE at h
 rw [Bool.and_eq_true, decide_eq_true_eq] at h
 exact ⟨h.2, by omega⟩
theorem kind_of {x : S25} (h : shp25 x = true) : x.f0 = 1 ∨ x.f0 = 2 ∨ x.f0 = 3 ∨ x.f0 = 4 ∨ x.f0 = 5 ∨ x.f0 = 6 ∨ x.f0 = 7 ∨ x.f0 = 8 := by
 rw [shp25_eq, Bool.and_eq_true] at h
 have := h.1
 simp only [nodeOk, decide_eq_true_eq] at this
 omega
theorem num_of {x : S25} (h : shp25 x = true) : 0 ≤ x.f1 ∧ x.f1 ≤ lim 30 := by
 rw [shp25_eq, Bool.and_eq_true] at h
 have := h.1
 simp only [nodeOk, decide_eq_true_eq] at this
 omega
theorem shp25_arity {x : S25} (h : shp25 x = true) : (x.f2.length : Int) = arity x.f0 ∧ shpL25 x.f2 = true := by
 rw [shp25_eq, Bool.and_eq_true] at h
 refine ⟨?_, h.2⟩
 have := h.1
 simp only [nodeOk, decide_eq_true_eq] at this
 exact this.2.1
/-- What an expression of the right shape is: its kids, by its kind. -/
theorem kids_of {x : S25} (h : shp25 x = true) : ((x.f0 = 2 ∨ x.f0 = 3) → ∃ p, x.f2 = [p] ∧ shp25 p = true) ∧ ((x.f0 = 4 ∨ x.f0 = 5 ∨ x.f0 = 6 ∨ x.f0 = 7 ∨ x.f0 = 8) → ∃ p q, x.f2 = [p, q] ∧ shp25 p = true ∧ shp25 q = true) := by
 obtain ⟨ha, hs⟩ := shp25_arity h
 constructor
 ·intro h0
  have : (x.f2.length : Int) = 1 := by rw [ha]; unfold arity; rw [if_neg (by omega), if_pos (by omega)]
  match hx : x.f2, this with
  | [p], _ =>
   rw [hx] at hs
   simp only [shpL25, Bool.and_eq_true] at hs
   exact ⟨p, rfl, hs.1⟩
 ·intro h0
  have : (x.f2.length : Int) = 2 := by rw [ha]; unfold arity; rw [if_neg (by omega), if_neg (by omega)]
  match hx : x.f2, this with
  | [p, q], _ =>
   rw [hx] at hs
   simp only [shpL25, Bool.and_eq_true] at hs
   exact ⟨p, q, rfl, hs.1, hs.2.1⟩

/-- How strongly a kind holds together. -/
def lev (a : Int) : Int := if a = 4 ∨ a = 5 then 1 else if a = 6 ∨ a = 7 ∨ a = 8 then 2 else 3
/-- A text, in parentheses where it has to be. -/
def wr (l : Int) (p : Int × ByteArray) : ByteArray := if lev p.1 < l then (⟨#[40]⟩ : ByteArray) ++ p.2 ++ (⟨#[41]⟩ : ByteArray) else p.2
theorem wr_size (l : Int) (p : Int × ByteArray) : (wr l p).size ≤ p.2.size + 2 := by
 unfold wr
 split
 ·simp only [ByteArray.size_append', ByteArray.size_mk', List.size_toArray, List.length_cons, List.length_nil]; omega
 ·omega
/-- The sign between two kids. -/
def opS (a : Int) : ByteArray := ⟨#[32, if a = 4 then 43 else if a = 5 then 45 else if a = 6 then 42 else if a = 7 then 47 else 37, 32]⟩
theorem opS_size (a : Int) : (opS a).size = 3 := rfl
/-- The text of a node, out of its kids' kinds and texts. -/
def txC (a b : Int) (l : List (Int × ByteArray)) : ByteArray :=
 if a = 1 then numB b else if a = 2 then (⟨#[43]⟩ : ByteArray) ++ wr 3 (l.getD 0 (0, ByteArray.empty)) else if a = 3 then (⟨#[45]⟩ : ByteArray) ++ wr 3 (l.getD 0 (0, ByteArray.empty))
 else wr (lev a) (l.getD 0 (0, ByteArray.empty)) ++ opS a ++ wr (lev a + 1) (l.getD 1 (0, ByteArray.empty))
mutual
/-- The text of an expression. -/
def tx25 : S25 → ByteArray
 | ⟨a, b, l⟩ => txC a b (txL25 l)
def txL25 : List S25 → List (Int × ByteArray)
 | [] => []
 | x :: xs => (x.f0, tx25 x) :: txL25 xs
end
theorem tx25_eq (x : S25) : tx25 x = txC x.f0 x.f1 (txL25 x.f2) := by cases x; rfl
theorem tx_size (x : S25) : shp25 x = true → (tx25 x).size ≤ 28 + 30 * sub25 x := by
 induction x using S25.ind with
 | h x ih =>
  intro h
  have hk := kind_of h
  obtain ⟨h1, h2⟩ := kids_of h
  have hn := num_of h
  have hl := lim_le 30
  rw [tx25_eq, sub25_eq]
  unfold txC
  by_cases a1 : x.f0 = 1
  ·rw [if_pos a1]
   have := numB_size x.f1 (by omega) (by omega)
   omega
  ·rw [if_neg a1]
   by_cases a2 : x.f0 = 2 ∨ x.f0 = 3
   ·obtain ⟨p, e, hp⟩ := h1 a2
    have ip := ih p (by rw [e]; simp) hp
    rw [e]
    have w := wr_size 3 (p.f0, tx25 p)
    have hs : subL25 [p] = 1 + sub25 p := by simp [subL25]
    simp only [txL25, List.getD_cons_zero]
    dsimp only at w
    split
    ·simp only [ByteArray.size_append', ByteArray.size_mk', List.size_toArray, List.length_cons, List.length_nil]; omega
    ·rw [if_pos (by omega)]
     simp only [ByteArray.size_append', ByteArray.size_mk', List.size_toArray, List.length_cons, List.length_nil]; omega
   ·rw [if_neg (by omega), if_neg (by omega)]
    obtain ⟨p, q, e, hp, hq⟩ := h2 (by omega)
    have ip := ih p (by rw [e]; simp) hp
    have iq := ih q (by rw [e]; simp) hq
    rw [e]
    have w := wr_size (lev x.f0) (p.f0, tx25 p)
    have w' := wr_size (lev x.f0 + 1) (q.f0, tx25 q)
    have hs : subL25 [p, q] = 1 + sub25 p + (1 + sub25 q) := by simp [subL25]
    simp only [txL25, List.getD_cons_zero, List.getD_cons_succ]
    dsimp only at w w'
    simp only [ByteArray.size_append', opS_size]; omega
theorem rd2_0 (p : S25) (l : List S25) : rd_T25 (p :: l) 0 = p := rfl
theorem rd2_1 (p q : S25) (l : List S25) : rd_T25 (p :: q :: l) 1 = q := rfl
/-- What both answer. -/
def forT (x : S25) : ByteArray := if isE x = true then tx25 x else ⟨#[]⟩

theorem spec_l10Level_ev (a : Int) : Ev (fun k => spec_l10Level.f k a) (lev a) := by
 have j : ∀ b : Bool, (b = true → a = 4 ∨ a = 5) → (b = false → ¬ (a = 4 ∨ a = 5)) → Ev (fun k => spec_l10Level.j0 k a b) (lev a) := by
  intro b h1 h2
  apply Ev.succ
  simp only [spec_l10Level.j0.eq_2]
  unfold lev
  refine Ev.ite (fun h => Ev.ret (by rw [if_pos (h1 h)])) (fun h => ?_)
  rw [if_neg (h2 (by simpa using h))]
  refine Ev.ite (fun _ => Ev.ret (by rw [if_pos (by omega)])) (fun _ => Ev.ite (fun _ => Ev.ret (by rw [if_pos (by omega)])) (fun _ => Ev.ite (fun _ => Ev.ret (by rw [if_pos (by omega)])) (fun _ => Ev.ret (by rw [if_neg (by omega)]))))
 simp only [spec_l10Level.f]
 refine Ev.ite (fun h => j _ (fun _ => .inl h) (fun e => by simp at e; omega)) (fun h => j _ (fun e => .inr (by simpa using e)) (fun e => by simp at e; omega))

theorem l10_wrap (m l : Int) (a : Int) (s : ByteArray) (hm : m = lev a) (hs : s.size ≤ 1000000) : Ev (fun _ => if m < l then (if 1 + s.size ≤ 9223372036854775807 then (if ((⟨#[40]⟩ : ByteArray) ++ s).size + 1 ≤ 9223372036854775807 then (some (((⟨#[40]⟩ : ByteArray) ++ s) ++ (⟨#[41]⟩ : ByteArray))) else none) else none) else some s) (wr l (a, s)) := by
 subst hm
 unfold wr
 refine Ev.ite (fun h => ?_) (fun h => Ev.ret (by rw [if_neg h]))
 refine Ev.pos (by omega) (Ev.pos ?_ (Ev.ret (by rw [if_pos h])))
 simp only [ByteArray.size_append', ByteArray.size_mk', List.size_toArray, List.length_cons, List.length_nil]; omega
theorem opS_rd (a : Int) (h : a = 4 ∨ a = 5 ∨ a = 6 ∨ a = 7 ∨ a = 8) : rdOf ByteArray.empty [(⟨#[32, 43, 32]⟩ : ByteArray), (⟨#[32, 45, 32]⟩ : ByteArray), (⟨#[32, 42, 32]⟩ : ByteArray), (⟨#[32, 47, 32]⟩ : ByteArray), (⟨#[32, 37, 32]⟩ : ByteArray)] (a - 4) = opS a := by
 rcases h with rfl | rfl | rfl | rfl | rfl <;> rfl
theorem spec_l10Text_ev (x : S25) : shp25 x = true → sub25 x ≤ 1000 → ∀ l : Int, Ev (fun k => spec_l10Text.f k x.f0 x.f1 x.f2 l) (wr l (x.f0, tx25 x)) := by
 induction x using S25.ind with
 | h x ih =>
  intro h hs l
  have hk := kind_of h
  obtain ⟨h1, h2⟩ := kids_of h
  have hn := num_of h
  have hl := lim_le 30
  have hz := tx_size x h
  apply Ev.succ
  simp only [spec_l10Text.f.eq_2]
  refine Ev.bind (spec_l10Level_ev x.f0) ?_
  have hb : (28 : Nat) + 30 * sub25 x ≤ 100000 := by omega
  have et := tx25_eq x
  unfold txC at et
  by_cases a1 : x.f0 = 1
  ·rw [if_pos a1] at et
   refine Ev.pos a1 (Ev.bind (spec_l5Number_ev x.f1 (by omega) (by omega)) ?_)
   rw [← et]
   exact l10_wrap _ _ _ _ rfl (by omega)
  ·rw [if_neg a1] at et
   refine Ev.neg a1 ?_
   by_cases a2 : x.f0 = 2 ∨ x.f0 = 3
   ·obtain ⟨p, e, hp⟩ := h1 a2
    have hsp : 1 + sub25 p ≤ sub25 x := by rw [sub25_eq x, e]; simp [subL25]
    have ip := ih p (by rw [e]; simp) hp (by omega) 3
    have zp := tx_size p hp
    have w := wr_size 3 (p.f0, tx25 p)
    dsimp only at w
    rw [e] at et ⊢
    simp only [txL25, List.getD_cons_zero] at et
    rw [rd2_0]
    by_cases b2 : x.f0 = 2
    ·rw [if_pos b2] at et
     refine Ev.pos b2 (Ev.pos (by simp) (Ev.bind ip (Ev.pos (by omega) ?_)))
     rw [← et]
     exact l10_wrap _ _ _ _ rfl (by omega)
    ·rw [if_neg b2, if_pos (by omega)] at et
     refine Ev.neg b2 (Ev.pos (by omega) (Ev.pos (by simp) (Ev.bind ip (Ev.pos (by omega) ?_))))
     rw [← et]
     exact l10_wrap _ _ _ _ rfl (by omega)
   ·rw [if_neg (by omega), if_neg (by omega)] at et
    obtain ⟨p, q, e, hp, hq⟩ := h2 (by omega)
    have hsp : 1 + sub25 p + (1 + sub25 q) ≤ sub25 x := by rw [sub25_eq x, e]; simp [subL25]
    have zp := tx_size p hp
    have zq := tx_size q hq
    have w := wr_size (lev x.f0) (p.f0, tx25 p)
    have w' := wr_size (lev x.f0 + 1) (q.f0, tx25 q)
    dsimp only at w w'
    have hlev : 1 ≤ lev x.f0 ∧ lev x.f0 ≤ 2 := by unfold lev; split; omega; rw [if_pos (by omega)]; omega
    have ip := ih p (by rw [e]; simp) hp (by omega) (lev x.f0)
    have iq := ih q (by rw [e]; simp) hq (by omega) (lev x.f0 + 1)
    rw [e] at et ⊢
    simp only [txL25, List.getD_cons_zero, List.getD_cons_succ] at et
    rw [rd2_0, rd2_1, w64 (n := x.f0 - 4) (by omega) (by omega), w64 (n := lev x.f0 + 1) (by omega) (by omega)]
    refine Ev.neg (by omega) (Ev.neg (by omega) (Ev.pos (by simp) (Ev.bind ip ?_)))
    simp only [Option.bind_some, opS_rd x.f0 (by omega), opS_size]
    refine Ev.pos (by omega) (Ev.pos (by simp; omega) (Ev.pos (by omega) (Ev.pos (by simp) (Ev.bind iq (Ev.pos ?_ ?_)))))
    ·simp only [ByteArray.size_append', opS_size]; omega
    ·rw [← et]
     exact l10_wrap _ _ _ _ rfl (by omega)

theorem spec_FormatExpr_ev (x : S25) (hs : sub25 x ≤ 1048576) : Ev (fun k => spec_FormatExpr.f k x.f0 x.f1 x.f2) (forT x) := by
 simp only [spec_FormatExpr.f]
 unfold forT
 refine Ev.bind (spec_IsExpr_ev x hs) (Ev.ite (fun h => ?_) (fun h => Ev.ret (by rw [if_neg h])))
 obtain ⟨h1, h2⟩ := isE_shp h
 refine Ev.bind (spec_l10Text_ev x h1 (by omega) 1) (Ev.ret ?_)
 rw [if_pos h]
 unfold wr
 rw [if_neg]
 unfold lev
 split
 ·omega
 ·split <;> omega

def kids (a : Int) : Int := if a = 1 then 0 else if a = 2 ∨ a = 3 then 1 else if 4 ≤ a ∧ a ≤ 8 then 2 else -1
theorem impl_kids_ev (a : Int) : Ev (fun k => impl_kids.f k a) (kids a) := by
 have j0 : ∀ b : Bool, Ev (fun k => impl_kids.j0 k a b) (if b = true then 1 else if 4 ≤ a ∧ a ≤ 8 then 2 else -1) := by
  intro b
  apply Ev.succ
  simp only [impl_kids.j0.eq_2]
  refine Ev.ite (fun h => Ev.ret (by rw [if_pos h])) (fun h => ?_)
  rw [if_neg h]
  refine Ev.ite (fun _ => Ev.ret (by rw [if_pos (by omega)])) (fun _ => Ev.ite (fun _ => Ev.ret (by rw [if_pos (by omega)])) (fun _ => Ev.ite (fun _ => Ev.ret (by rw [if_pos (by omega)])) (fun _ => Ev.ite (fun _ => Ev.ret (by rw [if_pos (by omega)])) (fun _ => Ev.ite (fun _ => Ev.ret (by rw [if_pos (by omega)])) (fun _ => Ev.ret (by rw [if_neg (by omega)]))))))
 simp only [impl_kids.f]
 unfold kids
 refine Ev.ite (fun h => Ev.ret (by rw [if_pos h])) (fun h => ?_)
 rw [if_neg h]
 refine Ev.ite (fun h' => evTo (j0 _) ?_) (fun h' => evTo (j0 _) ?_)
 ·simp [h']
 ·simp [h']

theorem impl_power_l (n : Nat) (hn : n ≤ 30) : ∀ (d i : Nat), i + d = n → Ev (fun k => impl_power.l0 k ((3 : Int) ^ i) n i) ((3 : Int) ^ n) := by
 intro d
 induction d with
 | zero =>
  intro i hi
  apply Ev.succ
  simp only [impl_power.l0.eq_2]
  refine Ev.neg (by omega) (Ev.ret ?_)
  rw [← hi]; rfl
 | succ d ih =>
  intro i hi
  apply Ev.succ
  simp only [impl_power.l0.eq_2]
  have h1 := pow3_30 (i := i + 1) (by omega)
  have h2 := pow3_pos i
  rw [pow3_succ] at h1
  refine Ev.pos (by omega) ?_
  rw [w64 (by omega) (by omega), w64 (by omega) (by omega), Int.mul_comm, ← pow3_succ]
  exact ih (i + 1) (by omega)
theorem impl_power_ev (n : Int) (h0 : 0 ≤ n) (hn : n ≤ 30) : Ev (fun k => impl_power.f k n) ((3 : Int) ^ n.toNat) := by
 obtain ⟨m, rfl⟩ : ∃ m : Nat, n = m := ⟨n.toNat, by omega⟩
 exact impl_power_l m (by omega) m 0 (by omega)

theorem impl_LimitOf_ev (k : Int) : Ev (fun n => impl_LimitOf.f n k) (lim k) := by
 simp only [impl_LimitOf.f]
 unfold lim
 refine Ev.ite (fun h => Ev.ret (by rw [if_neg (by omega)])) (fun h => Ev.ite (fun h1 => Ev.ret (by rw [if_neg (by omega)])) (fun h1 => ?_))
 rw [if_pos (by omega)]
 refine Ev.bind (impl_power_ev k (by omega) (by omega)) (Ev.ret ?_)
 have h2 := pow3_30 (i := k.toNat) (by omega)
 have h3 := pow3_pos k.toNat
 rw [w64 (n := _ - 1) (by omega) (by omega), Int.tdiv_eq_ediv_of_nonneg (by omega), w64 (by omega) (by omega)]

/-- What 'nodes' leaves of a rest. -/
def left (ok : Bool) (b : Int) (n m : Nat) (d : Int) : Int := if ok = true ∧ (n : Int) ≤ b ∧ (m : Int) ≤ d then b - n else -1
theorem impl_nodes_l (l : List S25) (hl : l.length ≤ 1048576) (ih : ∀ y ∈ l, ∀ b d : Int, 0 ≤ b → b ≤ 60 → 0 ≤ d → d ≤ 12 → Ev (fun k => impl_nodes.f k y.f0 y.f1 y.f2 b d) (left (shp25 y) b (1 + sub25 y) (dep25 y) d)) :
  ∀ (d i : Nat) (b e : Int), i + d = l.length → 0 ≤ b → b ≤ 60 → 1 ≤ e → e ≤ 12 → Ev (fun k => impl_nodes.l0 k b e l (l.length : Int) i) (left (shpL25 (l.drop i)) b (subL25 (l.drop i)) (depL25 (l.drop i)) (e - 1)) := by
 intro d
 induction d with
 | zero =>
  intro i b e hi h0 h1 h2 h3
  apply Ev.succ
  simp only [impl_nodes.l0.eq_2]
  refine Ev.neg (by omega) (Ev.ret ?_)
  rw [List.drop_of_length_le (by omega)]
  simp only [left, shpL25, subL25, depL25]
  rw [if_pos ⟨trivial, by omega, by omega⟩]; omega
 | succ d ihd =>
  intro i b e hi h0 h1 h2 h3
  have hlt : i < l.length := by omega
  apply Ev.succ
  simp only [impl_nodes.l0.eq_2]
  refine Ev.pos (by omega) (Ev.pos (by omega) (Ev.pos (by omega) ?_))
  rw [rd25_get l i hlt, w64 (by omega) (by omega), w64 (by omega) (by omega), subL25_drop l i hlt, depL25_drop l i hlt, shpL25_drop l i hlt]
  refine Ev.bind (ih _ (List.getElem_mem hlt) b (e - 1) h0 h1 (by omega) (by omega)) ?_
  by_cases hc : shp25 l[i] = true ∧ ((1 + sub25 l[i] : Nat) : Int) ≤ b ∧ (dep25 l[i] : Int) ≤ e - 1
  ·have e1 : left (shp25 l[i]) b (1 + sub25 l[i]) (dep25 l[i]) (e - 1) = b - ((1 + sub25 l[i] : Nat) : Int) := if_pos hc
   rw [e1]
   refine Ev.neg (by omega) (evTo (ihd (i + 1) _ e (by omega) (by omega) (by omega) h2 h3) ?_)
   unfold left
   rw [hc.1, Bool.true_and]
   by_cases hs : shpL25 (l.drop (i + 1)) = true
   ·rw [hs]; simp only [true_and]
    split
    ·rw [if_pos (by omega)]; omega
    ·rw [if_neg (by omega)]
   ·rw [if_neg (by simp [hs]), if_neg (by simp [hs])]
  ·have e1 : left (shp25 l[i]) b (1 + sub25 l[i]) (dep25 l[i]) (e - 1) = -1 := if_neg hc
   rw [e1]
   refine Ev.pos (by omega) (Ev.ret ?_)
   unfold left
   rw [if_neg]
   intro hh
   apply hc
   rw [Bool.and_eq_true] at hh
   exact ⟨hh.1.1, by omega, by omega⟩
theorem impl_nodes_ev : ∀ (x : S25), sub25 x ≤ 1048576 → ∀ b d : Int, 0 ≤ b → b ≤ 60 → 0 ≤ d → d ≤ 12 → Ev (fun k => impl_nodes.f k x.f0 x.f1 x.f2 b d) (left (shp25 x) b (1 + sub25 x) (dep25 x) d) := by
 intro x
 induction x using S25.ind with
 | h x ih =>
 intro hs b d h0 h1 h2 h3
 have hl := subL25_len x.f2
 rw [sub25_eq] at hs
 have hL : ∀ b e : Int, 0 ≤ b → b ≤ 60 → 1 ≤ e → e ≤ 12 → Ev (fun k => impl_nodes.l0 k b e x.f2 (x.f2.length : Int) 0) (left (shpL25 x.f2) b (subL25 x.f2) (depL25 x.f2) (e - 1)) := by
  intro b e g0 g1 g2 g3
  have := impl_nodes_l x.f2 (by omega) (fun y hy => ih y hy (by have := subL25_mem hy; omega)) x.f2.length 0 b e (by omega) g0 g1 g2 g3
  simpa using this
 have bad : ∀ z : Int, Ev (fun k => impl_nodes.j0 k z d true x.f0 x.f1 x.f2) (-1) := by
  intro z
  apply Ev.succ
  simp only [impl_nodes.j0.eq_2]
  exact Ev.pos trivial (Ev.now _)
 have good : 0 ≤ b - 1 → 1 ≤ d → Ev (fun k => impl_nodes.j0 k (b - 1) d false x.f0 x.f1 x.f2) (left (shpL25 x.f2) (b - 1) (subL25 x.f2) (depL25 x.f2) (d - 1)) := by
  intro g0 g1
  apply Ev.succ
  simp only [impl_nodes.j0.eq_2]
  exact Ev.neg (by simp) (hL _ _ g0 (by omega) g1 h3)
 have no : ∀ z : Int, (¬ (nodeOk x.f0 x.f1 x.f2.length = true ∧ 1 ≤ b ∧ 1 ≤ d)) → Ev (fun k => impl_nodes.j0 k z d true x.f0 x.f1 x.f2) (left (shp25 x) b (1 + sub25 x) (dep25 x) d) := by
  intro z hz
  refine evTo (bad z) ?_
  unfold left
  rw [if_neg]
  rw [shp25_eq, dep25_eq, Bool.and_eq_true]
  intro hh
  exact hz ⟨hh.1.1, by omega, by omega⟩
 have yes : ∀ c : Bool, 0 ≤ b - 1 → 1 ≤ d → (c = false ↔ nodeOk x.f0 x.f1 x.f2.length = true) → Ev (fun k => impl_nodes.j0 k (b - 1) d c x.f0 x.f1 x.f2) (left (shp25 x) b (1 + sub25 x) (dep25 x) d) := by
  intro c g0 g1 hc
  cases c
  ·refine evTo (good g0 g1) ?_
   unfold left
   rw [shp25_eq, hc.1 rfl, Bool.true_and, sub25_eq, dep25_eq]
   by_cases hs : shpL25 x.f2 = true
   ·rw [hs]; simp only [true_and]
    split
    ·rw [if_pos (by omega)]; omega
    ·rw [if_neg (by omega)]
   ·rw [if_neg (by simp [hs]), if_neg (by simp [hs])]
  ·refine no _ (fun hh => ?_)
   have := hc.2 hh.1
   simp at this
 have hk : (x.f2.length : Int) = kids x.f0 ↔ ((1 ≤ x.f0 ∧ x.f0 ≤ 8) ∧ (x.f2.length : Int) = arity x.f0) := by
  unfold kids arity
  split
  ·omega
  ·split
   ·omega
   ·split <;> omega
 apply Ev.succ
 simp only [impl_nodes.f.eq_2]
 rw [w64 (by omega) (by omega)]
 refine Ev.ite (fun c1 => no _ (by omega)) (fun c1 => Ev.ite (fun c2 => no _ (by omega)) (fun c2 => ?_))
 refine Ev.bind (impl_kids_ev _) ?_
 refine Ev.ite (fun c3 => ?_) (fun c3 => no _ ?_)
 ·rw [hk] at c3
  have fin : (x.f0 = 1 ∨ x.f1 = 0) → Ev (fun k => if x.f1 < 0 then impl_nodes.j0 k (b - 1) d true x.f0 x.f1 x.f2 else (impl_LimitOf.f k 30).bind fun t149 => impl_nodes.j0 k (b - 1) d (decide (x.f1 > t149)) x.f0 x.f1 x.f2) (left (shp25 x) b (1 + sub25 x) (dep25 x) d) := by
   intro h5
   refine Ev.ite (fun c5 => no _ ?_) (fun c5 => ?_)
   ·simp only [nodeOk, decide_eq_true_eq]; omega
   ·refine Ev.bind (impl_LimitOf_ev 30) (yes _ (by omega) (by omega) ?_)
    simp only [nodeOk, decide_eq_true_eq, decide_eq_false_iff_not]
    omega
  refine Ev.ite (fun c4 => fin (.inr c4)) (fun c4 => Ev.ite (fun c6 => fin (.inl c6)) (fun c6 => no _ ?_))
  simp only [nodeOk, decide_eq_true_eq]; omega
 ·rw [hk] at c3
  simp only [nodeOk, decide_eq_true_eq]
  intro hh; exact c3 ⟨hh.1.1, hh.1.2.1⟩

theorem impl_IsExpr_ev (x : S25) (hs : sub25 x ≤ 1048576) : Ev (fun k => impl_IsExpr.f k x.f0 x.f1 x.f2) (isE x) := by
 simp only [impl_IsExpr.f]
 refine Ev.bind (impl_nodes_ev x hs 60 12 (by omega) (by omega) (by omega) (by omega)) (Ev.ret ?_)
 unfold left isE
 by_cases hc : shp25 x = true ∧ ((1 + sub25 x : Nat) : Int) ≤ 60 ∧ (dep25 x : Int) ≤ 12
 ·rw [if_pos hc, hc.1, decide_eq_true (by omega), decide_eq_true (by omega)]; rfl
 ·rw [if_neg hc]
  by_cases h : shp25 x = true
  ·rw [decide_eq_false (by omega), decide_eq_false (by intro hh; exact hc ⟨h, by omega, by omega⟩), Bool.false_and]
  ·simp [h]

theorem strconv_Itoa_eq (n : Int) (h0 : -9223372036854775808 ≤ n) (h1 : n ≤ 9223372036854775807) : strconv_Itoa.f n = some (numB n) := by
 unfold strconv_Itoa.f
 rw [if_pos ⟨h0, h1⟩]
 rfl

theorem impl_isSum_eq (a : Int) : impl_isSum.f a = some (decide (a = 4 ∨ a = 5)) := by
 unfold impl_isSum.f
 by_cases h : a = 4
 ·simp [h]
 ·simp [h]; rfl

theorem impl_isTimes_eq (a : Int) : impl_isTimes.f a = some (decide (a = 6 ∨ a = 7 ∨ a = 8)) := by
 unfold impl_isTimes.f
 by_cases h : a = 6
 ·simp [h]
 ·by_cases h7 : a = 7
  ·simp [h7]
  ·simp [h, h7]; rfl

/-- The level that a kid's place asks for. -/
def asks (a i : Int) : Int := if a = 2 ∨ a = 3 then 3 else if i = 0 then lev a else lev a + 1
theorem impl_kidText_j (a b c d i : Int) (l m : List S25) (s : ByteArray) (hs : s.size ≤ 1000000) (ha : (a = 2 ∨ a = 3) ∧ i = 0 ∨ (4 ≤ a ∧ a ≤ 8) ∧ (i = 0 ∨ i = 1)) (z : Bool) (hz : z = decide (¬ (c = 4 ∨ c = 5) ∧ ¬ (c = 6 ∨ c = 7 ∨ c = 8))) :
  Ev (fun k => impl_kidText.j0 k i s z a b l c d m) (wr (asks a i) (c, s)) := by
 have e1 : 1 + s.size ≤ 9223372036854775807 := by omega
 have e2 : ((⟨#[40]⟩ : ByteArray) ++ s).size + 1 ≤ 9223372036854775807 := by simp only [ByteArray.size_append', ByteArray.size_mk', List.size_toArray, List.length_cons, List.length_nil]; omega
 apply Ev.succ
 simp only [impl_kidText.j0.eq_2, impl_isSum_eq, impl_isTimes_eq, Option.bind_some, decide_eq_true_eq]
 have yes : lev c < asks a i → Ev (fun _ => (if 1 + s.size ≤ 9223372036854775807 then (if ((⟨#[40]⟩ : ByteArray) ++ s).size + 1 ≤ 9223372036854775807 then (some (((⟨#[40]⟩ : ByteArray) ++ s) ++ (⟨#[41]⟩ : ByteArray))) else none) else none : Option ByteArray)) (wr (asks a i) (c, s)) := fun h => Ev.pos e1 (Ev.pos e2 (Ev.ret (by unfold wr; rw [if_pos h])))
 have no : ¬ lev c < asks a i → Ev (fun _ => some s) (wr (asks a i) (c, s)) := fun h => Ev.ret (by unfold wr; rw [if_neg h])
 have lc : (c = 4 ∨ c = 5) ∧ lev c = 1 ∨ (c = 6 ∨ c = 7 ∨ c = 8) ∧ lev c = 2 ∨ (¬ (c = 4 ∨ c = 5) ∧ ¬ (c = 6 ∨ c = 7 ∨ c = 8)) ∧ lev c = 3 := by
  unfold lev
  by_cases h : c = 4 ∨ c = 5
  ·rw [if_pos h]; exact .inl ⟨h, rfl⟩
  ·rw [if_neg h]
   by_cases h2 : c = 6 ∨ c = 7 ∨ c = 8
   ·rw [if_pos h2]; exact .inr (.inl ⟨h2, rfl⟩)
   ·rw [if_neg h2]; exact .inr (.inr ⟨⟨h, h2⟩, rfl⟩)
 have la : (a = 4 ∨ a = 5) → lev a = 1 := fun h => by unfold lev; rw [if_pos h]
 have lb : (a = 6 ∨ a = 7 ∨ a = 8) → lev a = 2 := fun h => by unfold lev; rw [if_neg (by omega), if_pos h]
 have as0 : (a = 2 ∨ a = 3) → asks a i = 3 := fun h => by unfold asks; rw [if_pos h]
 have as1 : ¬ (a = 2 ∨ a = 3) → i = 0 → asks a i = lev a := fun h h' => by unfold asks; rw [if_neg h, if_pos h']
 have as2 : ¬ (a = 2 ∨ a = 3) → ¬ i = 0 → asks a i = lev a + 1 := fun h h' => by unfold asks; rw [if_neg h, if_neg h']
 have hka : kids a = 1 ↔ (a = 2 ∨ a = 3) := by
  unfold kids
  split
  ·omega
  ·split
   ·simp; omega
   ·split
    ·simp; omega
    ·simp; omega
 refine Ev.ite (fun h => no ?_) (fun h => ?_)
 ·rw [hz, decide_eq_true_eq] at h
  have : asks a i ≤ 3 := by
   rcases ha with ⟨h2, _⟩ | ⟨h2, h3⟩
   ·rw [as0 h2]; omega
   ·by_cases hi : i = 0
    ·rw [as1 (by omega) hi]
     by_cases h4 : a = 4 ∨ a = 5
     ·rw [la h4]; omega
     ·rw [lb (by omega)]; omega
    ·rw [as2 (by omega) hi]
     by_cases h4 : a = 4 ∨ a = 5
     ·rw [la h4]; omega
     ·rw [lb (by omega)]; omega
  omega
 ·rw [hz, decide_eq_true_eq] at h
  refine Ev.bind (impl_kids_ev a) (Ev.ite (fun h1 => yes ?_) (fun h1 => ?_))
  ·rw [as0 (hka.1 h1)]; omega
  ·have h23 : ¬ (a = 2 ∨ a = 3) := fun h => h1 (hka.2 h)
   refine Ev.ite (fun ht => ?_) (fun ht => ?_)
   ·have l2 := lb ht
    refine Ev.ite (fun hi => yes ?_) (fun hi => Ev.ite (fun hc => yes ?_) (fun hc => ?_))
    ·rw [as2 h23 (by omega), l2]; omega
    ·rw [as1 h23 (by omega), l2]; omega
    ·have : ¬ lev c < asks a i := by rw [as1 h23 (by omega), l2]; omega
     exact Ev.ite (fun _ => no this) (fun _ => no this)
   ·have h45 : a = 4 ∨ a = 5 := by omega
    have l1 := la h45
    refine Ev.pos h45 (Ev.ite (fun hi => Ev.ite (fun hc => yes ?_) (fun hc => no ?_)) (fun hi => no ?_))
    ·rw [as2 h23 (by omega), l1]; omega
    ·rw [as2 h23 (by omega), l1]; omega
    ·rw [as1 h23 (by omega), l1]; omega
theorem impl_kidText_ev (x : S25) (i : Nat) (hi : i < x.f2.length) (ha : (x.f0 = 2 ∨ x.f0 = 3) ∧ i = 0 ∨ (4 ≤ x.f0 ∧ x.f0 ≤ 8) ∧ (i = 0 ∨ i = 1)) (hz : (tx25 x.f2[i]).size ≤ 1000000)
  (ih : Ev (fun k => impl_exprText.f k x.f2[i].f0 x.f2[i].f1 x.f2[i].f2) (tx25 x.f2[i])) :
  Ev (fun k => impl_kidText.f k x.f0 x.f1 x.f2 i) (wr (asks x.f0 i) (x.f2[i].f0, tx25 x.f2[i])) := by
 apply Ev.succ
 simp only [impl_kidText.f.eq_2, rd25_get _ i hi, impl_isSum_eq, impl_isTimes_eq, Option.bind_some, decide_eq_true_eq]
 have ha' : (x.f0 = 2 ∨ x.f0 = 3) ∧ (i : Int) = 0 ∨ (4 ≤ x.f0 ∧ x.f0 ≤ 8) ∧ ((i : Int) = 0 ∨ (i : Int) = 1) := by omega
 refine Ev.pos (by omega) (Ev.pos (by omega) (Ev.bind ih (Ev.ite (fun h => ?_) (fun h => ?_))))
 ·exact impl_kidText_j _ _ _ _ _ _ _ _ hz ha' _ (by rw [eq_comm, decide_eq_false_iff_not]; omega)
 ·refine impl_kidText_j _ _ _ _ _ _ _ _ hz ha' _ ?_
  by_cases g : x.f2[i].f0 = 6 ∨ x.f2[i].f0 = 7 ∨ x.f2[i].f0 = 8
  ·rw [decide_eq_true g, eq_comm]; simp; omega
  ·rw [decide_eq_false g, eq_comm]; simp; omega
theorem opS_ex (a : Int) (s : ByteArray) (h : a = 4 ∨ a = 5 ∨ a = 6 ∨ a = 7 ∨ a = 8) : ((s ++ (⟨#[32]⟩ : ByteArray)) ++ ((⟨#[43, 45, 42, 47, 37]⟩ : ByteArray).extract (a - 4).toNat (a - 4 + 1).toNat)) ++ (⟨#[32]⟩ : ByteArray) = s ++ opS a := by
 have e : (⟨#[32]⟩ : ByteArray) ++ (((⟨#[43, 45, 42, 47, 37]⟩ : ByteArray).extract (a - 4).toNat (a - 4 + 1).toNat) ++ (⟨#[32]⟩ : ByteArray)) = opS a := by
  rcases h with rfl | rfl | rfl | rfl | rfl <;> decide +kernel
 rw [← e]
 simp only [ByteArray.append_assoc]
theorem impl_exprText_ev (x : S25) : shp25 x = true → sub25 x ≤ 1000 → Ev (fun k => impl_exprText.f k x.f0 x.f1 x.f2) (tx25 x) := by
 induction x using S25.ind with
 | h x ih =>
  intro h hs
  have hk := kind_of h
  obtain ⟨h1, h2⟩ := kids_of h
  have hn := num_of h
  have hl := lim_le 30
  have hz := tx_size x h
  have hb : (28 : Nat) + 30 * sub25 x ≤ 100000 := by omega
  have et := tx25_eq x
  unfold txC at et
  have kid : ∀ (i : Nat) (hi : i < x.f2.length), ((x.f0 = 2 ∨ x.f0 = 3) ∧ i = 0 ∨ (4 ≤ x.f0 ∧ x.f0 ≤ 8) ∧ (i = 0 ∨ i = 1)) → shp25 x.f2[i] = true → Ev (fun k => impl_kidText.f k x.f0 x.f1 x.f2 i) (wr (asks x.f0 i) (x.f2[i].f0, tx25 x.f2[i])) ∧ (tx25 x.f2[i]).size ≤ 100000 := by
   intro i hi ha hp
   have hm := subL25_mem (List.getElem_mem hi)
   have hx := sub25_eq x
   have zi := tx_size _ hp
   have : (28 : Nat) + 30 * sub25 x.f2[i] ≤ 100000 := by omega
   exact ⟨impl_kidText_ev x i hi ha (by omega) (ih _ (List.getElem_mem hi) hp (by omega)), by omega⟩
  apply Ev.succ
  simp only [impl_exprText.f.eq_2]
  by_cases a1 : x.f0 = 1
  ·rw [if_pos a1] at et
   refine Ev.pos a1 (Ev.bindc (strconv_Itoa_eq x.f1 (by omega) (by omega)) (Ev.ret et.symm))
  ·rw [if_neg a1] at et
   refine Ev.neg a1 ?_
   by_cases a2 : x.f0 = 2 ∨ x.f0 = 3
   ·obtain ⟨p, e, hp⟩ := h1 a2
    have k0 := kid 0 (by rw [e]; simp) (.inl ⟨a2, rfl⟩) (by simpa [e] using hp)
    have e0 : x.f2[0]'(by rw [e]; simp) = p := by simp [e]
    rw [e0] at k0
    have q3 : asks x.f0 ((0 : Nat) : Int) = 3 := by unfold asks; rw [if_pos a2]
    rw [q3] at k0
    have w := wr_size 3 (p.f0, tx25 p)
    dsimp only at w
    rw [e] at et
    simp only [txL25, List.getD_cons_zero] at et
    by_cases b2 : x.f0 = 2
    ·rw [if_pos b2] at et
     exact Ev.pos b2 (Ev.bind k0.1 (Ev.pos (by have := k0.2; omega) (Ev.ret et.symm)))
    ·rw [if_neg b2, if_pos (by omega)] at et
     exact Ev.neg b2 (Ev.pos (by omega) (Ev.bind k0.1 (Ev.pos (by have := k0.2; omega) (Ev.ret et.symm))))
   ·rw [if_neg (by omega), if_neg (by omega)] at et
    obtain ⟨p, q, e, hp, hq⟩ := h2 (by omega)
    have k0 := kid 0 (by rw [e]; simp) (.inr ⟨by omega, .inl rfl⟩) (by simpa [e] using hp)
    have k1 := kid 1 (by rw [e]; simp) (.inr ⟨by omega, .inr rfl⟩) (by simpa [e] using hq)
    have e0 : x.f2[0]'(by rw [e]; simp) = p := by simp [e]
    have e1 : x.f2[1]'(by rw [e]; simp) = q := by simp [e]
    rw [e0] at k0
    rw [e1] at k1
    have q0 : asks x.f0 ((0 : Nat) : Int) = lev x.f0 := by unfold asks; rw [if_neg a2, if_pos (show ((0 : Nat) : Int) = 0 from rfl)]
    have q1 : asks x.f0 ((1 : Nat) : Int) = lev x.f0 + 1 := by unfold asks; rw [if_neg a2, if_neg (show ¬ ((1 : Nat) : Int) = 0 by omega)]
    rw [q0] at k0
    rw [q1] at k1
    have w := wr_size (lev x.f0) (p.f0, tx25 p)
    have w' := wr_size (lev x.f0 + 1) (q.f0, tx25 q)
    dsimp only at w w'
    rw [e] at et
    simp only [txL25, List.getD_cons_zero, List.getD_cons_succ] at et
    rw [w64 (n := x.f0 - 4) (by omega) (by omega), w64 (n := x.f0 - 4 + 1) (by omega) (by omega)]
    have z0 := k0.2
    have z1 := k1.2
    refine Ev.neg (by omega) (Ev.neg (by omega) (Ev.bind k0.1 (Ev.pos (by omega) (Ev.pos (by omega) (Ev.pos (by omega) (Ev.pos (by omega) (Ev.pos ?_ (Ev.pos ?_ (Ev.bind k1.1 (Ev.pos ?_ (Ev.ret ?_)))))))))))
    ·simp only [ByteArray.size_append', ByteArray.size_mk', ByteArray.size_extract, List.size_toArray, List.length_cons, List.length_nil]; omega
    ·simp only [ByteArray.size_append', ByteArray.size_mk', ByteArray.size_extract, List.size_toArray, List.length_cons, List.length_nil]; omega
    ·simp only [ByteArray.size_append', ByteArray.size_mk', ByteArray.size_extract, List.size_toArray, List.length_cons, List.length_nil]; omega
    ·rw [opS_ex _ _ (by omega), et]

theorem impl_FormatExpr_ev (x : S25) (hs : sub25 x ≤ 1048576) : Ev (fun k => impl_FormatExpr.f k x.f0 x.f1 x.f2) (forT x) := by
 simp only [impl_FormatExpr.f]
 unfold forT
 refine Ev.bind (impl_IsExpr_ev x hs) (Ev.ite (fun h => ?_) (fun h => Ev.ret (by rw [if_neg h])))
 obtain ⟨h1, h2⟩ := isE_shp h
 refine Ev.bind (impl_exprText_ev x h1 (by omega)) (Ev.ret ?_)
 rw [if_pos h]

/-- What 'size' tells of a rest b for n parts. -/
def rest (b : Int) (n : Nat) : Int := if (n : Int) ≤ b then b - n else -1

theorem S38.ind {P : S38 → Prop} (h : ∀ x : S38, (∀ y ∈ x.f2, P y) → P x) (x : S38) : P x :=
 S38.rec (motive_1 := P) (motive_2 := fun l => ∀ y ∈ l, P y) (fun a b l hl => h ⟨a, b, l⟩ hl) (by simp) (fun y ys h1 h2 => by simp; exact ⟨h1, h2⟩) x
mutual
/-- How many parts an expression has below itself. -/
def sub38 : S38 → Nat
 | ⟨_, _, l⟩ => subL38 l
def subL38 : List S38 → Nat
 | [] => 0
 | x :: xs => 1 + sub38 x + subL38 xs
end
theorem sub38_eq (x : S38) : sub38 x = subL38 x.f2 := by cases x; rfl
theorem subL38_len (l : List S38) : l.length ≤ subL38 l := by
 induction l with
 | nil => simp
 | cons x xs ih => simp only [List.length_cons, subL38]; omega
theorem subL38_mem {l : List S38} {y : S38} (h : y ∈ l) : 1 + sub38 y ≤ subL38 l := by
 induction l with
 | nil => simp at h
 | cons x xs ih =>
  simp only [subL38]
  rcases List.mem_cons.1 h with rfl | h
  ·omega
  ·have := ih h; omega
theorem rd38_get (xs : List S38) (i : Nat) (h : i < xs.length) : rd_T38 xs (i : Int) = xs[i] := by
 simp [rd_T38, List.getD_eq_getElem?_getD, List.getElem?_eq_getElem h]
theorem subL38_drop (xs : List S38) (i : Nat) (h : i < xs.length) : subL38 (xs.drop i) = 1 + sub38 xs[i] + subL38 (xs.drop (i + 1)) := by
 rw [drop_cons xs i h, subL38]
theorem laws_szExprS_l (l : List S38) (hl : l.length ≤ maxLen) (ih : ∀ y ∈ l, Wf38 y → ∀ b : Int, 0 ≤ b → b ≤ 1048576 → Ev (fun k => laws_szExpr.f k y.f0 y.f1 y.f2 b) (rest b (sub38 y))) (hw : ∀ y ∈ l, Wf38 y) :
  ∀ (d i : Nat) (b : Int), i + d = l.length → 0 ≤ b → b ≤ 1048576 → Ev (fun k => laws_szExprS.l0 k l b i) (rest b (subL38 (l.drop i) - (l.length - i))) := by
 intro d
 unfold maxLen at hl
 induction d with
 | zero =>
  intro i b hi h0 h1
  apply Ev.succ
  simp only [laws_szExprS.l0.eq_2]
  refine Ev.neg (by omega) (Ev.ret ?_)
  rw [List.drop_of_length_le (by omega)]
  simp [rest, subL38, h0]
 | succ d ihd =>
  intro i b hi h0 h1
  have hlt : i < l.length := by omega
  apply Ev.succ
  simp only [laws_szExprS.l0.eq_2]
  refine Ev.pos (by omega) (Ev.pos (by omega) ?_)
  rw [rd38_get l i hlt, w64 (by omega) (by omega)]
  refine Ev.bind (ih _ (List.getElem_mem hlt) (hw _ (List.getElem_mem hlt)) b h0 h1) ?_
  rw [subL38_drop l i hlt]
  have hle := subL38_len (l.drop (i + 1))
  rw [List.length_drop] at hle
  by_cases hb : (sub38 l[i] : Int) ≤ b
  ·have e : rest b (sub38 l[i]) = b - sub38 l[i] := if_pos hb
   rw [e]
   refine Ev.neg (by omega) ?_
   refine evTo (ihd (i + 1) _ (by omega) (by omega) (by omega)) ?_
   unfold rest
   by_cases hc : ((subL38 (l.drop (i + 1)) - (l.length - (i + 1)) : Nat) : Int) ≤ b - sub38 l[i]
   ·rw [if_pos hc, if_pos (by omega)]; omega
   ·rw [if_neg hc, if_neg (by omega)]
  ·have e : rest b (sub38 l[i]) = -1 := if_neg hb
   rw [e]
   refine Ev.pos (by omega) (Ev.ret ?_)
   unfold rest
   rw [if_neg (by omega)]
theorem laws_szExprS_ev (l : List S38) (hl : l.length ≤ maxLen) (ih : ∀ y ∈ l, Wf38 y → ∀ b : Int, 0 ≤ b → b ≤ 1048576 → Ev (fun k => laws_szExpr.f k y.f0 y.f1 y.f2 b) (rest b (sub38 y))) (hw : ∀ y ∈ l, Wf38 y) (b : Int) (h0 : 0 ≤ b) (h1 : b ≤ 1048576) :
  Ev (fun k => laws_szExprS.f k l b) (rest b (subL38 l)) := by
 apply Ev.succ
 simp only [laws_szExprS.f.eq_2]
 have hm := hl
 unfold maxLen at hm
 have hle := subL38_len l
 rw [w64 (by omega) (by omega)]
 refine Ev.ite (fun h => Ev.ret ?_) (fun h => ?_)
 ·unfold rest; rw [if_neg (by omega)]
 ·refine evTo (laws_szExprS_l l hl ih hw l.length 0 _ (by omega) (by omega) (by omega)) ?_
  simp only [List.drop_zero]
  unfold rest
  by_cases hc : (subL38 l : Int) ≤ b
  ·rw [if_pos hc, if_pos (by omega)]; omega
  ·rw [if_neg hc, if_neg (by omega)]
theorem wf38_parts {x : S38} (h : Wf38 x) : (Lit.int .i64 x.f0).wf = true ∧ (Lit.int .i64 x.f1).wf = true ∧ x.f2.length ≤ maxLen ∧ ∀ y ∈ x.f2, Wf38 y := by
 cases h with
 | mk _ h0 h1 h2 h3 => exact ⟨h0, h1, h2, h3⟩
theorem laws_szExpr_ev : ∀ (x : S38), Wf38 x → ∀ b : Int, 0 ≤ b → b ≤ 1048576 → Ev (fun k => laws_szExpr.f k x.f0 x.f1 x.f2 b) (rest b (sub38 x)) := by
 intro x
 induction x using S38.ind with
 | h x ih =>
 intro hw b h0 h1
 obtain ⟨_, _, hl, hk⟩ := wf38_parts hw
 apply Ev.succ
 simp only [laws_szExpr.f.eq_2]
 refine Ev.bind (laws_szExprS_ev x.f2 hl ih hk b h0 h1) ?_
 rw [sub38_eq]
 refine Ev.ite (fun h => Ev.ret ?_) (fun h => Ev.ret rfl)
 unfold rest at h ⊢
 split at h
 ·omega
 ·rw [if_neg (by assumption)]

mutual
/-- An expression of the law as one of the program. -/
def cv : S38 → S25
 | ⟨a, b, l⟩ => ⟨a, b, cvL l⟩
def cvL : List S38 → List S25
 | [] => []
 | x :: xs => cv x :: cvL xs
end
theorem cvL_map (l : List S38) : cvL l = l.map cv := by
 induction l with
 | nil => rfl
 | cons x xs ih => simp [cvL, ih]
theorem cv_f0 (x : S38) : (cv x).f0 = x.f0 := by cases x; rfl
theorem cv_f1 (x : S38) : (cv x).f1 = x.f1 := by cases x; rfl
theorem cv_f2 (x : S38) : (cv x).f2 = cvL x.f2 := by cases x; rfl
theorem sub_cv (x : S38) : sub25 (cv x) = sub38 x := by
 induction x using S38.ind with
 | h x ih =>
 rw [sub25_eq, cv_f2, sub38_eq]
 generalize x.f2 = l at ih
 induction l with
 | nil => rfl
 | cons y ys ihy =>
  simp only [cvL, subL25, subL38]
  rw [ih y List.mem_cons_self, ihy (fun z hz => ih z (List.mem_cons_of_mem _ hz))]
theorem laws_toExprS_l (l : List S38) (hl : l.length ≤ 1048576) (ih : ∀ y ∈ l, Ev (fun k => laws_toExpr.f k y.f0 y.f1 y.f2) (y.f0, y.f1, cvL y.f2)) :
  ∀ (d i : Nat) (x3 : List S25), i + d = l.length → x3.length = l.length → x3.take i = (l.map cv).take i → Ev (fun k => laws_toExprS.l0 k l x3 i) (l.map cv) := by
 intro d
 induction d with
 | zero =>
  intro i x3 hi hx ht
  apply Ev.succ
  simp only [laws_toExprS.l0.eq_2]
  refine Ev.neg (by omega) (Ev.ret ?_)
  rwa [List.take_of_length_le (by omega), List.take_of_length_le (by simp; omega)] at ht
 | succ d ihd =>
  intro i x3 hi hx ht
  have hlt : i < l.length := by omega
  apply Ev.succ
  simp only [laws_toExprS.l0.eq_2]
  refine Ev.pos (by omega) (Ev.pos (by omega) ?_)
  rw [rd38_get l i hlt, w64 (by omega) (by omega)]
  refine Ev.bind (ih _ (List.getElem_mem hlt)) ?_
  refine Ev.pos (by omega) ?_
  refine ihd (i + 1) _ (by omega) (by simp [hx]) ?_
  rw [take_snoc _ i (by simp; omega), take_snoc _ i (by simp; omega)]
  have e : (⟨l[i].f0, l[i].f1, cvL l[i].f2⟩ : S25) = cv l[i] := by cases l[i]; rfl
  simp [List.take_set_of_le, ht, e]
theorem laws_toExprS_ev (l : List S38) (hl : l.length ≤ 1048576) (ih : ∀ y ∈ l, Ev (fun k => laws_toExpr.f k y.f0 y.f1 y.f2) (y.f0, y.f1, cvL y.f2)) : Ev (fun k => laws_toExprS.f k l) (cvL l) := by
 apply Ev.succ
 simp only [laws_toExprS.f.eq_2]
 rw [cvL_map]
 refine Ev.pos (by omega) (Ev.pos (by omega) ?_)
 exact laws_toExprS_l l hl ih l.length 0 _ (by omega) (by simp) (by simp)
theorem laws_toExpr_ev : ∀ (x : S38), sub38 x ≤ 1048576 → Ev (fun k => laws_toExpr.f k x.f0 x.f1 x.f2) (x.f0, x.f1, cvL x.f2) := by
 intro x
 induction x using S38.ind with
 | h x ih =>
 intro hs
 have hl := subL38_len x.f2
 rw [sub38_eq] at hs
 apply Ev.succ
 simp only [laws_toExpr.f.eq_2]
 refine Ev.bind (laws_toExprS_ev x.f2 (by omega) (fun y hy => ih y hy (by have := subL38_mem hy; omega))) (Ev.ret rfl)

theorem laws_eqExprS_l (l : List S25) (hl : l.length ≤ 1048576) (ih : ∀ y ∈ l, Ev (fun k => laws_eqExpr.f k y.f0 y.f1 y.f2 y.f0 y.f1 y.f2) true) :
  ∀ (d i : Nat), i + d = l.length → Ev (fun k => laws_eqExprS.l0 k l l i) true := by
 intro d
 induction d with
 | zero =>
  intro i hi
  apply Ev.succ
  simp only [laws_eqExprS.l0.eq_2]
  exact Ev.neg (by omega) (Ev.now _)
 | succ d ihd =>
  intro i hi
  have hlt : i < l.length := by omega
  apply Ev.succ
  simp only [laws_eqExprS.l0.eq_2]
  refine Ev.pos (by omega) (Ev.pos (by omega) (Ev.pos (by omega) ?_))
  rw [rd25_get l i hlt, w64 (by omega) (by omega)]
  refine Ev.bind (ih _ (List.getElem_mem hlt)) (Ev.pos rfl ?_)
  exact ihd (i + 1) (by omega)
theorem laws_eqExprS_ev (l : List S25) (hl : l.length ≤ 1048576) (ih : ∀ y ∈ l, Ev (fun k => laws_eqExpr.f k y.f0 y.f1 y.f2 y.f0 y.f1 y.f2) true) : Ev (fun k => laws_eqExprS.f k l l) true := by
 apply Ev.succ
 simp only [laws_eqExprS.f.eq_2]
 exact Ev.pos trivial (laws_eqExprS_l l hl ih l.length 0 (by omega))
theorem laws_eqExpr_ev : ∀ (x : S25), sub25 x ≤ 1048576 → Ev (fun k => laws_eqExpr.f k x.f0 x.f1 x.f2 x.f0 x.f1 x.f2) true := by
 intro x
 induction x using S25.ind with
 | h x ih =>
 intro hs
 have hl := subL25_len x.f2
 rw [sub25_eq] at hs
 apply Ev.succ
 simp only [laws_eqExpr.f.eq_2]
 refine Ev.pos trivial (Ev.pos trivial ?_)
 refine Ev.bind (laws_eqExprS_ev x.f2 (by omega) (fun y hy => ih y hy (by have := subL25_mem hy; omega))) (Ev.pos rfl (Ev.now _))

end Go.Proofs.YtjfgcipbbcplmaaDoor.LemFnExactFormatExpr
