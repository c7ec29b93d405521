/- Lemmas: what each function that this statement reaches computes. -/
import Derived.Test.YtjfgcipbbcplmaaDoorHOpFnExactFormatCode
import Derived.Test.YtjfgcipbbcplmaaDoorBase
import Derived.Test.YtjfgcipbbcplmaaDoorWordM
set_option linter.unusedVariables false
set_option linter.unusedSimpArgs false
namespace Go.Proofs.YtjfgcipbbcplmaaDoor.LemFnExactFormatCode
open Go.RowKit Go.Proofs.YtjfgcipbbcplmaaDoorW.PrintWords Go.Proofs.YtjfgcipbbcplmaaDoorW.PrintLast Go.Proofs.YtjfgcipbbcplmaaDoorW.PrintMore Go.Proofs.YtjfgcipbbcplmaaDoor.HFnExactFormatCode Go.Proofs.YtjfgcipbbcplmaaDoor.Base

theorem spec_l1In_eq (a b c : Int) : spec_l1In.f a b c = some (decide (b ≤ a ∧ a ≤ c)) := by
 unfold spec_l1In.f
 by_cases h : b ≤ a
 ·rw [if_pos (by omega)]; simp [h]
 ·rw [if_neg (by omega)]; simp [h]

def cellB (n : Int) : Bool := decide (-9841 ≤ n ∧ n ≤ 9841)

theorem spec_l7Cell_eq (n : Int) : spec_l7Cell.f n = some (cellB n) := by
 unfold spec_l7Cell.f
 rw [spec_l1In_eq]; rfl

theorem rdO_get (xs : List S54) (i : Nat) (h : i < xs.length) : rd_T54 xs (i : Int) = xs[i] := by
 simp [rd_T54, List.getD_eq_getElem?_getD, List.getElem?_eq_getElem h]

/-- An operation that may stand in a code of n. -/
def opB (n : Int) (x : S54) : Bool := decide (
 if x.f0 = 1 then (-9841 ≤ x.f1 ∧ x.f1 ≤ 9841) ∧ x.f2 = 0 ∧ x.f3 = 0
 else if x.f0 = 10 then (-9 ≤ x.f1 ∧ x.f1 ≤ 9) ∧ x.f2 = 0 ∧ x.f3 = 0
 else if x.f0 = 13 then (0 ≤ x.f1 ∧ x.f1 ≤ n) ∧ x.f2 = 0 ∧ x.f3 = 0
 else if x.f0 = 14 then (0 ≤ x.f1 ∧ x.f1 ≤ n) ∧ (0 ≤ x.f2 ∧ x.f2 ≤ n) ∧ (0 ≤ x.f3 ∧ x.f3 ≤ n)
 else (1 ≤ x.f0 ∧ x.f0 ≤ 15) ∧ x.f1 = 0 ∧ x.f2 = 0 ∧ x.f3 = 0)
def codeB (l : List S54) : Bool := decide (1 ≤ l.length ∧ l.length ≤ 80) && l.all (opB l.length)

theorem spec_IsCode_l (l : List S54) (n : Int) (hl : l.length ≤ 1048576) : ∀ (d i : Nat), i + d = l.length → Ev (fun k => spec_IsCode.l0 k n l (l.length : Int) i) ((l.drop i).all (opB n)) := by
 intro d
 induction d with
 | zero =>
  intro i hi
  apply Ev.succ
  simp only [spec_IsCode.l0.eq_2]
  refine Ev.neg (by omega) (Ev.ret ?_)
  rw [List.drop_of_length_le (by omega)]; rfl
 | succ d ihd =>
  intro i hi
  have hlt : i < l.length := by omega
  apply Ev.succ
  simp only [spec_IsCode.l0.eq_2]
  refine Ev.pos (by omega) (Ev.pos (by omega) (Ev.pos (by omega) ?_))
  rw [rdO_get l i hlt, drop_cons l i hlt, List.all_cons]
  have rec_ := ihd (i + 1) (by omega)
  generalize l[i] = x
  have go : ∀ b : Bool, (opB n x = true ↔ b = true) → Ev (fun k => if b = true then spec_IsCode.l0 k n l (l.length : Int) (wrap64 ((i : Int) + 1)) else some false) (opB n x && (l.drop (i + 1)).all (opB n)) := by
   intro b hb
   rw [w64 (by omega) (by omega)]
   refine Ev.ite (fun h => ?_) (fun h => Ev.ret ?_)
   ·rw [hb.2 h, Bool.true_and]; exact rec_
   ·have : opB n x = false := by rw [← Bool.not_eq_true]; exact fun h' => h (hb.1 h')
    rw [this, Bool.false_and]
  have bad : ¬ (opB n x = true) → Ev (fun k => (some false : Option Bool)) (opB n x && (l.drop (i + 1)).all (opB n)) := by
   intro h
   have : opB n x = false := by rw [← Bool.not_eq_true]; exact h
   rw [this, Bool.false_and]; exact Ev.now _
  have j1 : ∀ b6 : Bool, (b6 = true ↔ x.f2 = 0 ∧ x.f3 = 0) → Ev (fun k => spec_IsCode.j1 k n b6 l (l.length : Int) i x.f0 x.f1 x.f2 x.f3) (opB n x && (l.drop (i + 1)).all (opB n)) := by
   intro b6 h6
   apply Ev.succ
   simp only [spec_IsCode.j1.eq_2, spec_l7Cell_eq, spec_l1In_eq, Option.bind_some]
   refine Ev.ite (fun c1 => ?_) (fun c1 => Ev.ite (fun c2 => ?_) (fun c2 => Ev.ite (fun c3 => ?_) (fun c3 => Ev.ite (fun c4 => ?_) (fun c4 => ?_))))
   ·refine Ev.ite (fun h => go b6 ?_) (fun h => bad ?_)
    ·rw [h6]; simp only [cellB, decide_eq_true_eq] at h; simp [opB, c1, h]
    ·simp only [cellB, decide_eq_true_eq] at h; simp only [opB, c1, if_true, decide_eq_true_eq]; exact fun hh => h hh.1
   ·refine Ev.ite (fun h => go b6 ?_) (fun h => bad ?_)
    ·rw [h6]; simp only [decide_eq_true_eq] at h; simp [opB, c2, h]
    ·simp only [decide_eq_true_eq] at h; simp only [opB, if_neg c1, if_pos c2, decide_eq_true_eq]; exact fun hh => h hh.1
   ·refine Ev.ite (fun h => go b6 ?_) (fun h => bad ?_)
    ·rw [h6]; simp only [decide_eq_true_eq] at h; simp [opB, c3, h]
    ·simp only [decide_eq_true_eq] at h; simp only [opB, if_neg c1, if_neg c2, if_pos c3, decide_eq_true_eq]; exact fun hh => h hh.1
   ·refine Ev.ite (fun h => Ev.ite (fun h' => go _ ?_) (fun h' => bad ?_)) (fun h => bad ?_)
    ·simp only [decide_eq_true_eq] at h h' ⊢; simp only [opB, if_neg c1, if_neg c2, if_neg c3, if_pos c4, decide_eq_true_eq]; exact ⟨fun hh => hh.2.2, fun hh => ⟨h, h', hh⟩⟩
    ·simp only [decide_eq_true_eq] at h'; simp only [opB, if_neg c1, if_neg c2, if_neg c3, if_pos c4, decide_eq_true_eq]; exact fun hh => h' hh.2.1
    ·simp only [decide_eq_true_eq] at h; simp only [opB, if_neg c1, if_neg c2, if_neg c3, if_pos c4, decide_eq_true_eq]; exact fun hh => h hh.1
   ·refine Ev.ite (fun h => Ev.ite (fun h' => go b6 ?_) (fun h' => bad ?_)) (fun h => bad ?_)
    ·rw [h6]; simp only [decide_eq_true_eq] at h; simp only [opB, if_neg c1, if_neg c2, if_neg c3, if_neg c4, decide_eq_true_eq]; exact ⟨fun hh => hh.2.2, fun hh => ⟨h, h', hh⟩⟩
    ·simp only [opB, if_neg c1, if_neg c2, if_neg c3, if_neg c4, decide_eq_true_eq]; exact fun hh => h' hh.2.1
    ·simp only [decide_eq_true_eq] at h; simp only [opB, if_neg c1, if_neg c2, if_neg c3, if_neg c4, decide_eq_true_eq]; exact fun hh => h hh.1
  refine Ev.ite (fun h => j1 _ ?_) (fun h => j1 _ ?_)
  ·simp [h]
  ·simp [h]
theorem spec_IsCode_ev (l : List S54) (hl : l.length ≤ 1048576) : Ev (fun k => spec_IsCode.f k l) (codeB l) := by
 simp only [spec_IsCode.f, spec_l1In_eq, Option.bind_some, decide_eq_true_eq]
 unfold codeB
 refine Ev.ite (fun h => ?_) (fun h => Ev.ret ?_)
 ·rw [decide_eq_true (by omega), Bool.true_and]
  have := spec_IsCode_l l l.length hl l.length 0 (by omega)
  simpa using this
 ·rw [decide_eq_false (by omega), Bool.false_and]

/-- The decimal text of a number. -/
def numB (n : Int) : ByteArray := ⟨(Lib.itoa n).toArray⟩
theorem nDig_le : ∀ (m u : Nat), u < 10 ^ (m + 1) → Lib.nDigits u ≤ m + 1 := by
 intro m
 induction m with
 | zero => intro u h; rw [Lib.nDigits_small (by simpa using h)]; omega
 | succ m ih =>
  intro u h
  by_cases h10 : u < 10
  ·rw [Lib.nDigits_small h10]; omega
  ·rw [Lib.nDigits_big h10]
   have := ih (u / 10) (Nat.div_lt_of_lt_mul (by rw [Nat.pow_succ, Nat.mul_comm] at h; exact h))
   omega
theorem itoa_len (n : Int) (h0 : -9223372036854775808 ≤ n) (h1 : n ≤ 9223372036854775807) : (Lib.itoa n).length ≤ 21 := by
 have h : ∀ u : Nat, u < 10 ^ 20 → (Lib.decDigits u).length ≤ 20 := fun u hu => by rw [Lib.decDigits_length]; exact nDig_le 19 u hu
 unfold Lib.itoa
 split
 ·have := h n.natAbs (by omega)
  simp only [List.length_cons]; omega
 ·have := h n.toNat (by omega)
  omega
theorem numB_size (n : Int) (h0 : -9223372036854775808 ≤ n) (h1 : n ≤ 9223372036854775807) : (numB n).size ≤ 21 := by
 have := itoa_len n h0 h1
 simpa [numB, ByteArray.size] using this

/-- The byte of a trit. -/
def tb (a : Int) : UInt8 := if a = -1 then 45 else if a = 0 then 48 else 43
/-- The text of a word. -/
def wordS (w : List Int) : ByteArray := ⟨(w.reverse.map tb).toArray⟩
theorem wordS_size (w : List Int) : (wordS w).size = w.length := by simp [wordS, ByteArray.size]
theorem tb_bt (a : Int) (h : -1 ≤ a ∧ a ≤ 1) : UInt8.ofNat (bt (⟨#[45, 48, 43]⟩ : ByteArray) (a + 1)).toNat = tb a := by
 have : a = -1 ∨ a = 0 ∨ a = 1 := by omega
 rcases this with rfl | rfl | rfl <;> decide +kernel
theorem ba_app (x y : List UInt8) : (ByteArray.mk x.toArray ++ ByteArray.mk y.toArray) = ByteArray.mk (x ++ y).toArray := ByteArray.mk_append_mk x y
/-- What FormatWord answers. -/
def forW (w : List Int) : ByteArray := if isWord w = true then wordS w else ⟨#[]⟩

/-- The names of the operations. -/
def opnm (a : Int) : ByteArray := rdOf ByteArray.empty [(⟨#[]⟩ : ByteArray), (⟨#[112, 117, 115, 104]⟩ : ByteArray), (⟨#[97, 100, 100]⟩ : ByteArray), (⟨#[115, 117, 98]⟩ : ByteArray), (⟨#[109, 117, 108]⟩ : ByteArray), (⟨#[110, 101, 103, 97, 116, 101]⟩ : ByteArray), (⟨#[115, 105, 103, 110]⟩ : ByteArray), (⟨#[99, 111, 112, 121]⟩ : ByteArray), (⟨#[115, 119, 97, 112]⟩ : ByteArray), (⟨#[100, 114, 111, 112]⟩ : ByteArray), (⟨#[115, 104, 105, 102, 116]⟩ : ByteArray), (⟨#[108, 111, 97, 100]⟩ : ByteArray), (⟨#[115, 116, 111, 114, 101]⟩ : ByteArray), (⟨#[106, 117, 109, 112]⟩ : ByteArray), (⟨#[98, 114, 97, 110, 99, 104]⟩ : ByteArray), (⟨#[104, 97, 108, 116]⟩ : ByteArray)] a
theorem opnm_fin : ∀ j : Fin 16, (opnm (j.val : Int)).size ≤ 6 := by decide +kernel
theorem opnm_size (a : Int) (h : 1 ≤ a ∧ a ≤ 15) : (opnm a).size ≤ 6 := by
 have := opnm_fin ⟨a.toNat, by omega⟩
 rwa [show ((⟨a.toNat, by omega⟩ : Fin 16).val : Int) = a by simp; omega] at this
/-- What stands behind an operation's name. -/
def argT (x : S54) : ByteArray := if x.f0 = 1 then (⟨#[32]⟩ : ByteArray) ++ wordS (word 9 x.f1) else if x.f0 = 10 ∨ x.f0 = 13 then (⟨#[32]⟩ : ByteArray) ++ numB x.f1 else if x.f0 = 14 then (((((⟨#[32]⟩ : ByteArray) ++ numB x.f1) ++ (⟨#[32]⟩ : ByteArray)) ++ numB x.f2) ++ (⟨#[32]⟩ : ByteArray)) ++ numB x.f3 else ⟨#[]⟩
/-- The text of an operation. -/
def opT (x : S54) : ByteArray := opnm x.f0 ++ argT x
/-- The text of operations behind a text. -/
def gT : List S54 → Nat → ByteArray → ByteArray
 | [], _, acc => acc
 | x :: xs, i, acc => gT xs (i + 1) ((if 0 < i then acc ++ (⟨#[59]⟩ : ByteArray) else acc) ++ opT x)
/-- The text of a program. -/
def codeT (l : List S54) : ByteArray := ⟨(Lib.join (l.map fun x => (opT x).data.toList) [59]).toArray⟩
theorem ba_eta (b : ByteArray) : (⟨b.data.toList.toArray⟩ : ByteArray) = b := by simp
theorem gT_tail (l : List S54) : ∀ (i : Nat) (a : List UInt8), 0 < i → gT l i ⟨a.toArray⟩ = ⟨(a ++ Lib.joinTail [59] (l.map fun x => (opT x).data.toList)).toArray⟩ := by
 induction l with
 | nil => intro i a _; simp [gT, Lib.joinTail]
 | cons x xs ih =>
  intro i a hi
  rw [gT, if_pos hi]
  have e : (⟨a.toArray⟩ : ByteArray) ++ (⟨#[59]⟩ : ByteArray) ++ opT x = ⟨(a ++ ([59] ++ (opT x).data.toList)).toArray⟩ := by
   rw [show (#[59] : Array UInt8) = [59].toArray from rfl, ba_app]
   rw [← ba_eta (opT x), ba_app]
   simp
  rw [e, ih (i + 1) _ (by omega)]
  simp [Lib.joinTail]
theorem gT_code (l : List S54) : gT l 0 ⟨#[]⟩ = codeT l := by
 cases l with
 | nil => rfl
 | cons x xs =>
  rw [gT, if_neg (by omega)]
  have e : (⟨#[]⟩ : ByteArray) ++ opT x = ⟨((opT x).data.toList).toArray⟩ := by
   rw [show (#[] : Array UInt8) = ([] : List UInt8).toArray from rfl]
   conv => lhs; rw [← ba_eta (opT x)]
   rw [ba_app]; simp
  rw [e, gT_tail xs 1 _ (by omega)]
  unfold codeT
  rw [List.map_cons, Lib.join_cons]
theorem opB_args {n : Int} {x : S54} (hn : n ≤ 80) (h : opB n x = true) : (1 ≤ x.f0 ∧ x.f0 ≤ 15) ∧ (-9841 ≤ x.f1 ∧ x.f1 ≤ 9841) ∧ (-9841 ≤ x.f2 ∧ x.f2 ≤ 9841) ∧ (-9841 ≤ x.f3 ∧ x.f3 ≤ 9841) := by
 unfold opB at h
 rw [decide_eq_true_eq] at h
 split at h
 ·omega
 ·split at h
  ·omega
  ·split at h
   ·omega
   ·split at h <;> omega
theorem argT_size {n : Int} {x : S54} (hn : n ≤ 80) (h : opB n x = true) : (argT x).size ≤ 66 := by
 obtain ⟨h0, h1, h2, h3⟩ := opB_args hn h
 have n1 := numB_size x.f1 (by omega) (by omega)
 have n2 := numB_size x.f2 (by omega) (by omega)
 have n3 := numB_size x.f3 (by omega) (by omega)
 have w := wordS_size (word 9 x.f1)
 rw [word_length] at w
 unfold argT
 split
 ·simp only [ByteArray.size_append', ByteArray.size_mk', List.size_toArray, List.length_cons, List.length_nil]; omega
 ·split
  ·simp only [ByteArray.size_append', ByteArray.size_mk', List.size_toArray, List.length_cons, List.length_nil]; omega
  ·split
   ·simp only [ByteArray.size_append', ByteArray.size_mk', List.size_toArray, List.length_cons, List.length_nil]; omega
   ·simp only [ByteArray.size_mk', List.size_toArray, List.length_nil]; omega
theorem opT_size {n : Int} {x : S54} (hn : n ≤ 80) (h : opB n x = true) : (opT x).size ≤ 72 := by
 have h0 := opnm_size x.f0 (opB_args hn h).1
 have h1 := argT_size hn h
 unfold opT
 simp only [ByteArray.size_append']; omega
/-- What both answer. -/
def forC (l : List S54) : ByteArray := if codeB l = true then codeT l else ⟨#[]⟩
theorem codeB_all {l : List S54} (h : codeB l = true) : l.length ≤ 80 ∧ ∀ x ∈ l, opB l.length x = true := by
 unfold codeB at h
 rw [Bool.and_eq_true, decide_eq_true_eq, List.all_eq_true] at h
 exact ⟨h.1.2, h.2⟩

set_option maxRecDepth 10000 in
theorem spec_OpName_eq (a : Int) (h : 1 ≤ a ∧ a ≤ 15) : spec_OpName.f a = some (opnm a) := by
 unfold spec_OpName.f
 rw [spec_l1In_eq, decide_eq_true (by omega)]
 simp only [Option.bind_some, if_true, spec_l7Names.f]
 rw [if_pos (by omega), if_pos (by have h16 : a < ((16 : Nat) : Int) := (by omega); exact h16)]
 rfl

theorem spec_IsTrit_eq (a : Int) : spec_IsTrit.f a = some (isTrit a) := by
 unfold spec_IsTrit.f isTrit
 rw [spec_l1In_eq]; rfl

theorem spec_IsWord_l (x : List Int) (hn : x.length ≤ 35184372088832) : ∀ (d i : Nat), i + d = x.length → Ev (fun k => spec_IsWord.l0 k x x x.length i) (decide (1 ≤ x.length ∧ x.length ≤ 30) && (x.drop i).all isTrit) := by
 intro d
 induction d with
 | zero =>
  intro i hi
  apply Ev.succ
  simp only [spec_IsWord.l0.eq_2, spec_l1In_eq, Option.bind_some]
  refine Ev.neg (by omega) (Ev.ret ?_)
  rw [List.drop_eq_nil_of_le (by omega), List.all_nil, Bool.and_true]
  exact decide_eq_decide.2 (by omega)
 | succ d ih =>
  intro i hi
  apply Ev.succ
  simp only [spec_IsWord.l0.eq_2, spec_IsTrit_eq, Option.bind_some]
  refine Ev.pos (by omega) (Ev.pos (by omega) (Ev.pos (by omega) ?_))
  rw [rd_get x i (by omega), drop_cons x i (by omega), List.all_cons, w64 (by omega) (by omega)]
  refine Ev.ite (fun h => ?_) (fun h => Ev.ret ?_)
  ·exact evTo (ih (i + 1) (by omega)) (by rw [h, Bool.true_and])
  ·rw [Bool.not_eq_true] at h; rw [h, Bool.false_and, Bool.and_false]
theorem spec_IsWord_ev (x : List Int) (hn : x.length ≤ 35184372088832) : Ev (fun k => spec_IsWord.f k x) (isWord x) := by
 simp only [spec_IsWord.f]
 exact spec_IsWord_l x hn x.length 0 (by omega)

theorem spec_l1Byte_eq (a : Int) (h : -1 ≤ a ∧ a ≤ 1) : spec_l1Byte.f a = some ⟨#[tb a]⟩ := by
 have : a = -1 ∨ a = 0 ∨ a = 1 := by omega
 rcases this with rfl | rfl | rfl <;> decide +kernel

theorem spec_FormatWord_l (l : List Int) (ht : ∀ a ∈ l, -1 ≤ a ∧ a ≤ 1) (hl : l.length ≤ 1000000) : ∀ (d i : Nat), i + d = l.length → Ev (fun k => spec_FormatWord.l0 k ⟨((l.take i).reverse.map tb).toArray⟩ l (l.length : Int) i) (wordS l) := by
 intro d
 induction d with
 | zero =>
  intro i hi
  apply Ev.succ
  simp only [spec_FormatWord.l0.eq_2]
  refine Ev.neg (by omega) (Ev.ret ?_)
  rw [List.take_of_length_le (by omega)]
  rfl
 | succ d ih =>
  intro i hi
  have hlt : i < l.length := by omega
  have ha := ht _ (List.getElem_mem hlt)
  apply Ev.succ
  simp only [spec_FormatWord.l0.eq_2, rd_get l i hlt, spec_l1Byte_eq _ ha, Option.bind_some]
  rw [w64 (n := (i : Int) + 1) (by omega) (by omega)]
  refine Ev.pos (by omega) (Ev.pos (by omega) (Ev.pos (by omega) (Ev.pos (by simp [ByteArray.size]; omega) ?_)))
  have := ih (i + 1) (by omega)
  rw [take_snoc l i hlt] at this
  have e : (⟨#[tb l[i]]⟩ : ByteArray) ++ ⟨((l.take i).reverse.map tb).toArray⟩ = ⟨((l.take i ++ [l[i]]).reverse.map tb).toArray⟩ := by
   rw [show (#[tb l[i]] : Array UInt8) = [tb l[i]].toArray from rfl, ba_app, List.reverse_append, List.map_append]
   rfl
  rw [e]
  exact this
theorem spec_FormatWord_ev (w : List Int) (hw : w.length ≤ 35184372088832) : Ev (fun k => spec_FormatWord.f k w) (forW w) := by
 simp only [spec_FormatWord.f]
 unfold forW
 refine Ev.bind (spec_IsWord_ev w hw) (Ev.ite (fun h => ?_) (fun h => Ev.ret (by rw [if_neg h])))
 obtain ⟨hl, ht⟩ := (isWord_iff w).1 h
 rw [if_pos h]
 simpa using spec_FormatWord_l w ht (by omega) w.length 0 (by omega)

theorem spec_l2Word_l (k : Nat) (hk : k ≤ 30) : ∀ (d i : Nat) (n : Int) (o : List Int), i + d = k → o.length = i → -100000000000000000 ≤ n → n ≤ 100000000000000000 → Ev (fun m => spec_l2Word.l0 m n k o i) (o ++ word d n) := by
 intro d
 induction d with
 | zero =>
  intro i n o hi ho h0 h1
  apply Ev.succ
  simp only [spec_l2Word.l0.eq_2]
  exact Ev.neg (by omega) (Ev.ret (by simp [word]))
 | succ d ih =>
  intro i n o hi ho h0 h1
  apply Ev.succ
  simp only [spec_l2Word.l0.eq_2]
  have ht : Int.tmod n 3 = if 0 ≤ n then n % 3 else -((-n) % 3) := by
   split
   ·exact Int.tmod_eq_emod_of_nonneg (by omega)
   ·have h : Int.tmod (-n) 3 = (-n) % 3 := Int.tmod_eq_emod_of_nonneg (by omega)
    rw [Int.neg_tmod] at h; omega
  generalize hr : Int.tmod n 3 = r at *
  have h2 : -2 ≤ r ∧ r ≤ 2 ∧ (r - n) % 3 = 0 := by split at ht <;> omega
  have next : ∀ s : Int, s = (n + 1) % 3 - 1 → Ev (fun m => spec_l2Word.l0 m (wrap64 (Int.tdiv (wrap64 (n - s)) 3)) k (o ++ [s]) (wrap64 ((i : Int) + 1))) (o ++ word (d + 1) n) := by
   intro s hs
   have e : Int.tdiv (n - s) 3 = (n + 1) / 3 := by
    rw [Int.tdiv_eq_ediv_of_dvd (Int.dvd_of_emod_eq_zero (by omega))]; omega
   rw [w64 (n := n - s) (by omega) (by omega), e, w64 (by omega) (by omega), w64 (by omega) (by omega)]
   refine evTo (ih (i + 1) ((n + 1) / 3) (o ++ [s]) (by omega) (by simp [ho]) (by omega) (by omega)) ?_
   rw [word, hs]; simp
  rw [w64 (n := r - 3) (by omega) (by omega), w64 (n := r + 3) (by omega) (by omega)]
  refine Ev.pos (by omega) (Ev.ite (fun c => Ev.neg (by omega) (Ev.pos (by omega) (next _ (by omega)))) (fun c => Ev.ite (fun c1 => Ev.pos (by omega) (next _ (by omega))) (fun c1 => Ev.pos (by omega) (next _ (by omega)))))
theorem spec_l2Word_ev (n : Int) (k : Nat) (hk : k ≤ 30) (h0 : -100000000000000000 ≤ n) (h1 : n ≤ 100000000000000000) : Ev (fun m => spec_l2Word.f m n k) (word k n) := by
 simp only [spec_l2Word.f]
 exact spec_l2Word_l k hk k 0 n [] (by omega) rfl h0 h1

theorem l5_digit (u : Nat) (h : u < 9223372036854775808) : strOfNums [(wrap64 (48 + (Int.tmod (u : Int) 10))) % 256] = ⟨#[UInt8.ofNat (48 + u % 10)]⟩ := by
 have e : Int.tmod (u : Int) 10 = ((u % 10 : Nat) : Int) := by
  rw [show (10 : Int) = ((10 : Nat) : Int) from rfl, Int.ofNat_tmod]
 have h9 : u % 10 < 10 := Nat.mod_lt _ (by omega)
 rw [e, w64 (by omega) (by omega)]
 unfold strOfNums
 simp only [List.map_cons, List.map_nil]
 rw [show ((48 + ((u % 10 : Nat) : Int)) % 256).toNat = 48 + u % 10 by omega]
theorem l5_div (u : Nat) (h : u < 9223372036854775808) : wrap64 (Int.tdiv (u : Int) 10) = ((u / 10 : Nat) : Int) := by
 have e : Int.tdiv (u : Int) 10 = ((u / 10 : Nat) : Int) := by
  rw [show (10 : Int) = ((10 : Nat) : Int) from rfl, Int.ofNat_tdiv]
 rw [e, w64 (by omega) (by omega)]
theorem mk_app (x y : List UInt8) : (ByteArray.mk x.toArray ++ ByteArray.mk y.toArray) = ByteArray.mk (x ++ y).toArray := ByteArray.mk_append_mk x y
theorem spec_l5Number_l : ∀ (u : Nat) (a : List UInt8), u < 9223372036854775808 → a.length + u ≤ 18446744073709551616 → a.length + Lib.nDigits u ≤ 1000 → Ev (fun k => spec_l5Number.l0 k u ⟨a.toArray⟩) ⟨((if u = 0 then [] else Lib.decDigits u) ++ a).toArray⟩ := by
 intro u
 induction u using Nat.strongRecOn with
 | _ u ih =>
  intro a hu _ hd
  apply Ev.succ
  simp only [spec_l5Number.l0.eq_2, Option.bind_some]
  by_cases h0 : u = 0
  ·subst h0
   refine Ev.neg (by omega) (Ev.ret ?_)
   simp
  ·refine Ev.pos (by omega) ?_
   rw [l5_digit u hu, l5_div u hu]
   have e : (⟨#[UInt8.ofNat (48 + u % 10)]⟩ : ByteArray) ++ ⟨a.toArray⟩ = ⟨((UInt8.ofNat (48 + u % 10)) :: a).toArray⟩ := mk_app [UInt8.ofNat (48 + u % 10)] a
   rw [e]
   have hdg : Lib.nDigits (u / 10) ≤ Lib.nDigits u ∧ (10 ≤ u → Lib.nDigits u = Lib.nDigits (u / 10) + 1) := by
    by_cases h10 : u < 10
    ·rw [Lib.nDigits_small h10, Lib.nDigits_small (by omega)]; omega
    ·rw [Lib.nDigits_big h10]; omega
   have h1 : 1 ≤ Lib.nDigits (u / 10) := by
    by_cases h10 : u / 10 < 10
    ·rw [Lib.nDigits_small h10]; omega
    ·rw [Lib.nDigits_big h10]; omega
   by_cases h10 : u < 10
   ·have hz : u / 10 = 0 := by omega
    refine Ev.pos (by simp [ByteArray.size]; omega) ?_
    rw [hz]
    apply Ev.succ
    simp only [spec_l5Number.l0.eq_2]
    refine Ev.neg (by omega) (Ev.ret ?_)
    rw [if_neg h0, Lib.decDigits_one h10, show u % 10 = u by omega]
    simp
   ·refine Ev.pos (by simp [ByteArray.size]; omega) ?_
    refine evTo (ih (u / 10) (by omega) (UInt8.ofNat (48 + u % 10) :: a) (by omega) (by simp only [List.length_cons]; omega) (by simp only [List.length_cons]; omega)) ?_
    rw [if_neg (by omega), if_neg h0, Lib.decDigits.eq_1 u, dif_neg h10]
    simp
theorem spec_l5Number_pos (u : Nat) (hu : u < 9223372036854775808) : Ev (fun k => spec_l5Number.f k u) ⟨(Lib.decDigits u).toArray⟩ := by
 apply Ev.succ
 simp only [spec_l5Number.f.eq_2]
 refine Ev.neg (by omega) ?_
 rw [l5_digit u hu, l5_div u hu]
 have hd := nDig_le 19 (u / 10) (by omega)
 have h := spec_l5Number_l (u / 10) [UInt8.ofNat (48 + u % 10)] (by omega) (by simp; omega) (by simp; omega)
 refine evTo h ?_
 by_cases h10 : u < 10
 ·rw [if_pos (by omega), Lib.decDigits_one h10, show u % 10 = u by omega]; rfl
 ·rw [if_neg (by omega), Lib.decDigits.eq_1 u, dif_neg h10]
theorem spec_l5Number_ev (n : Int) (h0 : -9223372036854775808 < n) (h1 : n ≤ 9223372036854775807) : Ev (fun k => spec_l5Number.f k n) (numB n) := by
 by_cases hn : n < 0
 ·apply Ev.succ
  simp only [spec_l5Number.f.eq_2]
  refine Ev.pos hn ?_
  obtain ⟨u, rfl⟩ : ∃ u : Nat, n = -(u : Int) := ⟨n.natAbs, by omega⟩
  rw [w64 (by omega) (by omega), show -(-(u : Int)) = (u : Int) by omega]
  refine Ev.bind (spec_l5Number_pos u (by omega)) ?_
  have hd : (Lib.decDigits u).length ≤ 20 := by rw [Lib.decDigits_length]; exact nDig_le 19 u (by omega)
  refine Ev.pos (by simp [ByteArray.size]; omega) (Ev.ret ?_)
  have e : numB (-(u : Int)) = ⟨(45 :: Lib.decDigits u).toArray⟩ := by
   unfold numB Lib.itoa
   rw [if_pos hn]
   simp
  rw [e]
  exact mk_app [45] (Lib.decDigits u)
 ·obtain ⟨u, rfl⟩ : ∃ u : Nat, n = (u : Int) := ⟨n.toNat, by omega⟩
  refine evTo (spec_l5Number_pos u (by omega)) ?_
  unfold numB Lib.itoa
  rw [if_neg hn]
  simp

theorem spec_FormatCode_l (l : List S54) (hl : l.length ≤ 80) (ho : ∀ x ∈ l, opB l.length x = true) : ∀ (d i : Nat) (acc : ByteArray), i + d = l.length → acc.size ≤ 100 * i → Ev (fun k => spec_FormatCode.l0 k acc l (l.length : Int) i) (gT (l.drop i) i acc) := by
 intro d
 induction d with
 | zero =>
  intro i acc hi ha
  apply Ev.succ
  simp only [spec_FormatCode.l0.eq_2]
  rw [List.drop_of_length_le (by omega)]
  exact Ev.neg (by omega) (Ev.ret rfl)
 | succ d ih =>
  intro i acc hi ha
  have hlt : i < l.length := by omega
  have hx := ho _ (List.getElem_mem hlt)
  have hz := opT_size (by omega) hx
  obtain ⟨h0, h1, h2, h3⟩ := opB_args (by omega) hx
  rw [drop_cons l i hlt, gT]
  generalize hX : l[i] = x at *
  have n1 := numB_size x.f1 (by omega) (by omega)
  have n2 := numB_size x.f2 (by omega) (by omega)
  have n3 := numB_size x.f3 (by omega) (by omega)
  have zn := opnm_size x.f0 h0
  have zw := wordS_size (word 9 x.f1)
  rw [word_length] at zw
  have e1 := spec_l5Number_ev x.f1 (by omega) (by omega)
  have e2 := spec_l5Number_ev x.f2 (by omega) (by omega)
  have e3 := spec_l5Number_ev x.f3 (by omega) (by omega)
  have step : ∀ (a2 : ByteArray), a2.size ≤ 100 * i + 1 → ∀ r : ByteArray, r = a2 ++ opT x → Ev (fun k => spec_FormatCode.l0 k r l (l.length : Int) (wrap64 ((i : Int) + 1))) (gT (l.drop (i + 1)) (i + 1) (a2 ++ opT x)) := by
   intro a2 h r hr
   subst hr
   rw [w64 (by omega) (by omega)]
   refine ih (i + 1) _ (by omega) ?_
   simp only [ByteArray.size_append']; omega
  have j1 : ∀ (a2 : ByteArray), a2.size ≤ 100 * i + 1 → Ev (fun k => spec_FormatCode.j1 k a2 l (l.length : Int) i x.f0 x.f1 x.f2 x.f3) (gT (l.drop (i + 1)) (i + 1) (a2 ++ opT x)) := by
   intro a2 h2z
   have st := step a2 h2z
   apply Ev.succ
   simp only [spec_FormatCode.j1.eq_2]
   refine Ev.bindc (spec_OpName_eq x.f0 h0) (Ev.pos (by omega) ?_)
   have j2 : ∀ b : Bool, ¬ x.f0 = 1 → (b = true → x.f0 = 10 ∨ x.f0 = 13) → (b = false → ¬ (x.f0 = 10 ∨ x.f0 = 13)) → Ev (fun k => spec_FormatCode.j2 k (a2 ++ opnm x.f0) l (l.length : Int) i x.f0 b x.f0 x.f1 x.f2 x.f3) (gT (l.drop (i + 1)) (i + 1) (a2 ++ opT x)) := by
    intro b hn1 hb hb'
    apply Ev.succ
    simp only [spec_FormatCode.j2.eq_2, ByteArray.size_append', ByteArray.size_mk', List.size_toArray, List.length_cons, List.length_nil]
    refine Ev.ite (fun h => ?_) (fun h => Ev.ite (fun h14 => ?_) (fun h14 => ?_))
    ·refine Ev.pos (by omega) (Ev.bind e1 (Ev.pos (by omega) (st _ ?_)))
     unfold opT argT
     rw [if_neg hn1, if_pos (hb h)]
     simp only [ByteArray.append_assoc]
    ·refine Ev.pos (by omega) (Ev.bind e1 (Ev.pos (by omega) (Ev.pos (by omega) (Ev.bind e2 (Ev.pos (by omega) (Ev.pos (by omega) (Ev.bind e3 (Ev.pos (by omega) (st _ ?_)))))))))
     unfold opT argT
     rw [if_neg hn1, if_neg (by omega), if_pos h14]
     simp only [ByteArray.append_assoc]
    ·refine st _ ?_
     unfold opT argT
     rw [if_neg hn1, if_neg (hb' (by simpa using h)), if_neg h14]
     exact congrArg (a2 ++ ·) (ByteArray.append_empty (b := opnm x.f0)).symm
   refine Ev.ite (fun h => ?_) (fun h => Ev.ite (fun h10 => j2 _ h (fun _ => .inl h10) (fun e => by simp [h10] at e)) (fun h10 => j2 _ h (fun e => .inr (by simpa using e)) (fun e => by simp at e; omega)))
   simp only [ByteArray.size_append', ByteArray.size_mk', List.size_toArray, List.length_cons, List.length_nil]
   have ew := spec_FormatWord_ev (word 9 x.f1) (by rw [word_length]; omega)
   rw [forW, if_pos (word_isWord 9 x.f1 (by omega))] at ew
   refine Ev.pos (by omega) (Ev.bind (spec_l2Word_ev x.f1 9 (by omega) (by omega) (by omega)) (Ev.bind ew (Ev.pos (by omega) (st _ ?_))))
   unfold opT argT
   rw [if_pos h]
   simp only [ByteArray.append_assoc]
  apply Ev.succ
  simp only [spec_FormatCode.l0.eq_2, rdO_get l i hlt, hX]
  refine Ev.pos (by omega) (Ev.pos (by omega) (Ev.pos (by omega) (Ev.ite (fun h => Ev.pos (by omega) ?_) (fun h => ?_))))
  ·rw [if_pos (by omega)]
   refine j1 _ ?_
   simp only [ByteArray.size_append', ByteArray.size_mk', List.size_toArray, List.length_cons, List.length_nil]; omega
  ·rw [if_neg (by omega)]
   exact j1 _ (by omega)
theorem spec_FormatCode_ev (l : List S54) (hl : l.length ≤ 1048576) : Ev (fun k => spec_FormatCode.f k l) (forC l) := by
 simp only [spec_FormatCode.f]
 unfold forC
 refine Ev.bind (spec_IsCode_ev l hl) (Ev.ite (fun h => ?_) (fun h => Ev.ret (by rw [if_neg h])))
 obtain ⟨h1, h2⟩ := codeB_all h
 rw [if_pos h, ← gT_code]
 simpa using spec_FormatCode_l l h1 h2 l.length 0 ⟨#[]⟩ (by omega) (by simp [ByteArray.size])

theorem laws_szOpS_eq (l : List S81) (a : Int) (hl : l.length ≤ maxLen) (h0 : 0 ≤ a) (h1 : a ≤ 1048576) : laws_szOpS.f l a = some (if (l.length : Int) ≤ a then a - l.length else -1) := by
 unfold maxLen at hl
 unfold laws_szOpS.f
 rw [w64 (by omega) (by omega)]
 by_cases h : (l.length : Int) ≤ a
 ·rw [if_neg (by omega), if_pos h]
 ·rw [if_pos (by omega), if_neg h]

def cvOp (x : S81) : S54 := ⟨x.f0, x.f1, x.f2, x.f3⟩
theorem rdLO_get (xs : List S81) (i : Nat) (h : i < xs.length) : rd_T81 xs (i : Int) = xs[i] := by
 simp [rd_T81, List.getD_eq_getElem?_getD, List.getElem?_eq_getElem h]
theorem laws_toOpS_l (x0 : List S81) (hn : x0.length ≤ 1048576) : ∀ (d i : Nat) (x3 : List S54), i + d = x0.length → x3.length = x0.length → x3.take i = (x0.map cvOp).take i → Ev (fun k => laws_toOpS.l0 k x0 x3 i) (x0.map cvOp) := by
 intro d
 induction d with
 | zero =>
  intro i x3 hi hx ht
  apply Ev.succ
  simp only [laws_toOpS.l0.eq_2]
  refine Ev.neg (by omega) (Ev.ret ?_)
  rwa [List.take_of_length_le (by omega), List.take_of_length_le (by simp; omega)] at ht
 | succ d ih =>
  intro i x3 hi hx ht
  have hlt : i < x0.length := by omega
  apply Ev.succ
  simp only [laws_toOpS.l0.eq_2, laws_toOp.f, Option.bind_some]
  refine Ev.pos (by omega) (Ev.pos (by omega) (Ev.pos (by omega) ?_))
  rw [w64 (by omega) (by omega), rdLO_get x0 i (by omega)]
  refine ih (i + 1) _ (by omega) (by simp [hx]) ?_
  rw [take_snoc _ i (by simp; omega), take_snoc _ i (by simp; omega)]
  have e : (⟨x0[i].f0, x0[i].f1, x0[i].f2, x0[i].f3⟩ : S54) = cvOp x0[i] := rfl
  simp [List.take_set_of_le, ht, e]
theorem laws_toOpS_ev (x0 : List S81) (hn : x0.length ≤ 1048576) : Ev (fun k => laws_toOpS.f k x0) (x0.map cvOp) := by
 simp only [laws_toOpS.f]
 refine Ev.pos (by omega) (Ev.pos (by omega) ?_)
 exact laws_toOpS_l x0 hn x0.length 0 _ (by omega) (by simp) (by simp)

set_option maxRecDepth 10000 in
theorem impl_OpName_eq (a : Int) (h : 1 ≤ a ∧ a ≤ 15) : impl_OpName.f a = some (opnm a) := by
 unfold impl_OpName.f
 rw [if_neg (by omega), if_neg (by omega)]
 simp only [Option.bind_some, impl_opNames.f]
 rw [if_pos (by omega), if_pos (by have h16 : a < ((16 : Nat) : Int) := (by omega); exact h16)]
 rfl

theorem impl_IsTrit_eq (a : Int) : impl_IsTrit.f a = some (isTrit a) := by
 unfold impl_IsTrit.f isTrit
 by_cases h : -1 ≤ a
 ·rw [if_pos (by omega)]; simp [h]
 ·rw [if_neg (by omega)]; simp [h]

theorem impl_trits_l (x : List Int) (hn : x.length ≤ 35184372088832) : ∀ (d i : Nat), i + d = x.length → Ev (fun k => impl_trits.l0 k x x.length i) ((x.drop i).all isTrit) := by
 intro d
 induction d with
 | zero =>
  intro i hi
  apply Ev.succ
  simp only [impl_trits.l0.eq_2]
  refine Ev.neg (by omega) (Ev.ret ?_)
  rw [List.drop_eq_nil_of_le (by omega)]; rfl
 | succ d ih =>
  intro i hi
  apply Ev.succ
  simp only [impl_trits.l0.eq_2, impl_IsTrit_eq, Option.bind_some]
  refine Ev.pos (by omega) (Ev.pos (by omega) (Ev.pos (by omega) ?_))
  rw [rd_get x i (by omega), drop_cons x i (by omega), List.all_cons, w64 (by omega) (by omega)]
  refine Ev.ite (fun h => ?_) (fun h => Ev.ret ?_)
  ·exact evTo (ih (i + 1) (by omega)) (by rw [h, Bool.true_and])
  ·rw [Bool.not_eq_true] at h; rw [h, Bool.false_and]
theorem impl_trits_ev (x : List Int) (hn : x.length ≤ 35184372088832) : Ev (fun k => impl_trits.f k x) (x.all isTrit) := by
 simp only [impl_trits.f]
 exact impl_trits_l x hn x.length 0 (by omega)

theorem impl_IsWord_ev (x : List Int) : Ev (fun k => impl_IsWord.f k x) (isWord x) := by
 simp only [impl_IsWord.f, isWord]
 refine Ev.ite (fun h => Ev.ite (fun h1 => ?_) (fun h1 => Ev.ret ?_)) (fun h => Ev.ret ?_)
 ·refine Ev.bind (impl_trits_ev x (by omega)) (Ev.ret ?_)
  rw [decide_eq_true (by omega), Bool.true_and]
 ·rw [decide_eq_false (by omega), Bool.false_and]
 ·rw [decide_eq_false (by omega), Bool.false_and]

theorem impl_tritBytes_l (l : List Int) (ht : ∀ a ∈ l, -1 ≤ a ∧ a ≤ 1) (hl : l.length ≤ 1000000) : ∀ (d i : Nat), i + d = l.length → Ev (fun k => impl_tritBytes.l0 k ((l.take i).map fun a => bt (⟨#[45, 48, 43]⟩ : ByteArray) (a + 1)) l (l.length : Int) i) ⟨(l.map tb).toArray⟩ := by
 intro d
 induction d with
 | zero =>
  intro i hi
  apply Ev.succ
  simp only [impl_tritBytes.l0.eq_2]
  refine Ev.neg (by omega) (Ev.ret ?_)
  rw [List.take_of_length_le (by omega)]
  unfold strOfNums
  rw [List.map_map]
  congr 2
  apply List.map_congr_left
  intro a ha
  exact tb_bt a (ht a ha)
 | succ d ih =>
  intro i hi
  have hlt : i < l.length := by omega
  have ha := ht _ (List.getElem_mem hlt)
  apply Ev.succ
  simp only [impl_tritBytes.l0.eq_2, rd_get l i hlt]
  rw [w64 (n := l[i] + 1) (by omega) (by omega), w64 (n := (i : Int) + 1) (by omega) (by omega)]
  refine Ev.pos (by omega) (Ev.pos (by omega) (Ev.pos (by omega) (Ev.pos (by omega) (Ev.pos (by omega) (Ev.pos (by simp; omega) ?_)))))
  have := ih (i + 1) (by omega)
  rw [take_snoc l i hlt, List.map_append] at this
  simpa using this
theorem impl_tritBytes_ev (l : List Int) (ht : ∀ a ∈ l, -1 ≤ a ∧ a ≤ 1) (hl : l.length ≤ 1000000) : Ev (fun k => impl_tritBytes.f k l) ⟨(l.map tb).toArray⟩ := by
 simp only [impl_tritBytes.f]
 simpa using impl_tritBytes_l l ht hl l.length 0 (by omega)

theorem slices_Clone_eq (l : List Int) (h : l.length ≤ 1000000000) : slices_Clone_int_int.f l = some l := by
 unfold slices_Clone_int_int.f; rw [if_pos (by omega)]

/-- A row of which the first i and the last i places are turned. -/
def revF (o : List Int) (i : Nat) : List Int := (List.range o.length).map fun t => if t < i ∨ o.length - i ≤ t then rd o ((o.length - 1 - t : Nat) : Int) else rd o (t : Int)
theorem revF_len (o : List Int) (i : Nat) : (revF o i).length = o.length := by simp [revF]
theorem revF_get (o : List Int) (i t : Nat) (h : t < o.length) : rd (revF o i) (t : Int) = if t < i ∨ o.length - i ≤ t then rd o ((o.length - 1 - t : Nat) : Int) else rd o (t : Int) := by
 rw [rd_get _ t (by rw [revF_len]; exact h)]
 simp [revF]
theorem ext_rd (a b : List Int) (h : a.length = b.length) (e : ∀ t : Nat, t < a.length → rd a (t : Int) = rd b (t : Int)) : a = b := by
 apply List.ext_getElem h
 intro t h1 h2
 have := e t h1
 rwa [rd_get a t h1, rd_get b t h2] at this
theorem rd_set_ne (xs : List Int) (i j : Nat) (v : Int) (h : i ≠ j) (hj : j < xs.length) : rd (xs.set i v) (j : Int) = rd xs (j : Int) := by
 rw [rd_get _ j (by simpa using hj), rd_get xs j hj, List.getElem_set_ne h]
theorem rd_set_eq (xs : List Int) (i : Nat) (v : Int) (h : i < xs.length) : rd (xs.set i v) (i : Int) = v := by
 rw [rd_get _ i (by simpa using h), List.getElem_set_self]
theorem revF_zero (o : List Int) : revF o 0 = o := by
 refine ext_rd _ _ (revF_len o 0) (fun t h => ?_)
 rw [revF_len] at h
 rw [revF_get o 0 t h, if_neg (by omega)]
theorem revF_full (o : List Int) (i : Nat) (hi : o.length ≤ 2 * i + 1) : revF o i = o.reverse := by
 refine ext_rd _ _ (by rw [revF_len]; simp) (fun t h => ?_)
 rw [revF_len] at h
 rw [revF_get o i t h, rd_get o.reverse t (by simpa using h), List.getElem_reverse, rd_get o (o.length - 1 - t) (by omega)]
 split
 ·rfl
 ·rw [rd_get o t h]
  congr 1
  omega
theorem revF_step (o : List Int) (i : Nat) (hi : 2 * i + 1 < o.length) : ((revF o i).set i (rd (revF o i) ((o.length - 1 - i : Nat) : Int))).set (o.length - 1 - i) (rd (revF o i) (i : Int)) = revF o (i + 1) := by
 refine ext_rd _ _ (by simp [revF_len]) (fun t h => ?_)
 simp only [List.length_set, revF_len] at h
 rw [revF_get o (i + 1) t h]
 by_cases h1 : t = o.length - 1 - i
 ·subst h1
  rw [rd_set_eq _ _ _ (by simp [revF_len]; omega), revF_get o i i (by omega), if_neg (by omega), if_pos (by omega)]
  congr 2
  omega
 ·rw [rd_set_ne _ _ _ _ (by omega) (by simp [revF_len]; omega)]
  by_cases h2 : t = i
  ·subst h2
   rw [rd_set_eq _ _ _ (by rw [revF_len]; omega), revF_get o t (o.length - 1 - t) (by omega), if_neg (by omega), if_pos (by omega)]
  ·rw [rd_set_ne _ _ _ _ (by omega) (by rw [revF_len]; exact h), revF_get o i t h]
   by_cases h3 : t < i ∨ o.length - i ≤ t
   ·rw [if_pos h3, if_pos (by omega)]
   ·rw [if_neg h3, if_neg (by omega)]
theorem slices_Reverse_l (o : List Int) (hn : o.length ≤ 1000000000) : ∀ (d i : Nat), o.length ≤ 2 * i + d → i ≤ o.length → Ev (fun k => slices_Reverse_int_int.l0 k (revF o i) i ((o.length : Int) - 1 - i)) o.reverse := by
 intro d
 induction d using Nat.strongRecOn with
 | _ d ih =>
  intro i hd hi
  apply Ev.succ
  simp only [slices_Reverse_int_int.l0.eq_2, revF_len]
  by_cases h : 2 * i + 1 < o.length
  ·rw [show ((o.length : Int) - 1 - i) = ((o.length - 1 - i : Nat) : Int) by omega]
   refine Ev.pos (by omega) (Ev.pos (by omega) (Ev.pos (by omega) (Ev.pos (by omega) (Ev.pos (by omega) ?_))))
   rw [Int.toNat_natCast, Int.toNat_natCast, revF_step o i h, w64 (by omega) (by omega), w64 (by omega) (by omega)]
   have := ih (d - 2) (by omega) (i + 1) (by omega) (by omega)
   rw [show ((o.length - 1 - i : Nat) : Int) - 1 = (o.length : Int) - 1 - ((i + 1 : Nat) : Int) by omega]
   exact this
  ·refine Ev.neg (by omega) (Ev.ret (revF_full o i (by omega)))
theorem slices_Reverse_int_int_ev (o : List Int) (hn : o.length ≤ 1000000000) : Ev (fun k => slices_Reverse_int_int.f k o) o.reverse := by
 simp only [slices_Reverse_int_int.f]
 have := slices_Reverse_l o hn o.length 0 (by omega) (by omega)
 rw [revF_zero] at this
 rw [w64 (by omega) (by omega)]
 simpa using this

theorem impl_backwards_ev (l : List Int) (hl : l.length ≤ 1000000) : Ev (fun k => impl_backwards.f k l) l.reverse := by
 simp only [impl_backwards.f]
 refine Ev.bindc (a := l) (by unfold slices_Clone_int_int.f; rw [if_pos (by omega)]) (Ev.bind (slices_Reverse_int_int_ev l (by omega)) (Ev.now _))

theorem impl_FormatWord_ev (w : List Int) : Ev (fun k => impl_FormatWord.f k w) (forW w) := by
 simp only [impl_FormatWord.f]
 unfold forW
 refine Ev.bind (impl_IsWord_ev w) (Ev.ite (fun h => ?_) (fun h => Ev.ret (by rw [if_neg h])))
 obtain ⟨hl, ht⟩ := (isWord_iff w).1 h
 rw [if_pos h]
 refine Ev.bind (impl_backwards_ev w (by omega)) (Ev.bind (impl_tritBytes_ev w.reverse (fun a ha => ht a (List.mem_reverse.1 ha)) (by simp; omega)) (Ev.now _))

theorem impl_power_l (n : Nat) (hn : n ≤ 30) : ∀ (d i : Nat), i + d = n → Ev (fun k => impl_power.l0 k ((3 : Int) ^ i) n i) ((3 : Int) ^ n) := by
 intro d
 induction d with
 | zero =>
  intro i hi
  apply Ev.succ
  simp only [impl_power.l0.eq_2]
  refine Ev.neg (by omega) (Ev.ret ?_)
  rw [← hi]; rfl
 | succ d ih =>
  intro i hi
  apply Ev.succ
  simp only [impl_power.l0.eq_2]
  have h1 := pow3_30 (i := i + 1) (by omega)
  have h2 := pow3_pos i
  rw [pow3_succ] at h1
  refine Ev.pos (by omega) ?_
  rw [w64 (by omega) (by omega), w64 (by omega) (by omega), Int.mul_comm, ← pow3_succ]
  exact ih (i + 1) (by omega)
theorem impl_power_ev (n : Int) (h0 : 0 ≤ n) (hn : n ≤ 30) : Ev (fun k => impl_power.f k n) ((3 : Int) ^ n.toNat) := by
 obtain ⟨m, rfl⟩ : ∃ m : Nat, n = m := ⟨n.toNat, by omega⟩
 exact impl_power_l m (by omega) m 0 (by omega)

theorem impl_LimitOf_ev (k : Int) : Ev (fun n => impl_LimitOf.f n k) (lim k) := by
 simp only [impl_LimitOf.f]
 unfold lim
 refine Ev.ite (fun h => Ev.ret (by rw [if_neg (by omega)])) (fun h => Ev.ite (fun h1 => Ev.ret (by rw [if_neg (by omega)])) (fun h1 => ?_))
 rw [if_pos (by omega)]
 refine Ev.bind (impl_power_ev k (by omega) (by omega)) (Ev.ret ?_)
 have h2 := pow3_30 (i := k.toNat) (by omega)
 have h3 := pow3_pos k.toNat
 rw [w64 (n := _ - 1) (by omega) (by omega), Int.tdiv_eq_ediv_of_nonneg (by omega), w64 (by omega) (by omega)]

theorem impl_fits_ev (n k : Int) : Ev (fun m => impl_fits.f m n k) (fitsB n k) := by
 simp only [impl_fits.f]
 have h1 := lim_nonneg k
 have h2 := lim_le k
 refine Ev.bind (impl_LimitOf_ev k) ?_
 rw [w64 (by omega) (by omega)]
 refine Ev.ite (fun h => Ev.bind (impl_LimitOf_ev k) (Ev.ret ?_)) (fun h => Ev.ret ?_)
 ·unfold fitsB; exact decide_eq_decide.2 (by omega)
 ·unfold fitsB; rw [decide_eq_false]; omega

theorem anyO_ev {α : Type} {g : Nat → α → Option Bool} {p : α → Bool} : ∀ (l : List α), (∀ x ∈ l, Ev (fun k => g k x) (p x)) → Ev (fun k => Go.Proofs.YtjfgcipbbcplmaaDoor.Any.anyO (g k) l) (l.any p)
 | [], _ => Ev.now _
 | x :: xs, h => by
  simp only [Go.Proofs.YtjfgcipbbcplmaaDoor.Any.anyO]
  exact Ev.bind (h x List.mem_cons_self) (Ev.bind (anyO_ev xs (fun y hy => h y (List.mem_cons_of_mem _ hy))) (Ev.ret (by rw [List.any_cons])))
theorem not_any_not {α : Type} (p : α → Bool) (l : List α) : (!l.any fun x => !p x) = l.all p := by
 induction l with
 | nil => rfl
 | cons x xs ih => rw [List.any_cons, List.all_cons, ← ih]; simp

theorem fits9 (a : Int) : fitsB a 9 = decide (-9841 ≤ a ∧ a ≤ 9841) := by
 unfold fitsB
 rw [show lim 9 = 9841 by rfl]
theorem impl_isOp_ev (x : S54) (n : Int) : Ev (fun k => impl_isOp.f k x.f0 x.f1 x.f2 x.f3 n) (opB n x) := by
 simp only [impl_isOp.f]
 refine Ev.bind (impl_fits_ev x.f1 9) (Ev.ret ?_)
 rw [fits9, Bool.eq_iff_iff]
 unfold isOpB opB
 split
 ·simp; omega
 ·split
  ·simp; omega
  ·split
   ·simp; omega
   ·split
    ·simp; omega
    ·simp; omega

theorem impl_IsCode_ev (l : List S54) : Ev (fun k => impl_IsCode.f k l) (codeB l) := by
 simp only [impl_IsCode.f]
 unfold codeB
 refine Ev.ite (fun h => Ev.ite (fun h' => ?_) (fun h' => Ev.ret ?_)) (fun h => Ev.ret ?_)
 ·rw [decide_eq_true (by omega), Bool.true_and]
  refine Ev.bind (anyO_ev (p := fun x => !opB l.length x) l (fun x _ => Ev.bind (impl_isOp_ev x l.length) (Ev.now _))) (Ev.ret ?_)
  exact not_any_not _ _
 ·rw [decide_eq_false (by omega), Bool.false_and]
 ·rw [decide_eq_false (by omega), Bool.false_and]

theorem impl_carried_eq (n : Int) (h : -4 ≤ n ∧ n ≤ 4) : impl_carried.f n = some (if n > 1 then n - 3 else if n < -1 then n + 3 else n, if n > 1 then 1 else if n < -1 then -1 else 0) := by
 unfold impl_carried.f
 by_cases h1 : n > 1
 ·rw [if_pos h1, if_pos h1, if_pos h1, w64 (by omega) (by omega)]
 ·rw [if_neg h1, if_neg h1, if_neg h1]
  by_cases h2 : n < -1
  ·rw [if_pos h2, if_pos h2, if_pos h2, w64 (by omega) (by omega)]
  ·rw [if_neg h2, if_neg h2, if_neg h2]

theorem tmod3 (n : Int) : Int.tmod n 3 = if 0 ≤ n then n % 3 else -((-n) % 3) := by
 split
 ·exact Int.tmod_eq_emod_of_nonneg (by omega)
 ·have h : Int.tmod (-n) 3 = (-n) % 3 := Int.tmod_eq_emod_of_nonneg (by omega)
  rw [Int.neg_tmod] at h; omega
theorem tdiv3 (n : Int) (h : n % 3 = 0) : Int.tdiv n 3 = n / 3 := by
 rw [Int.tdiv_eq_ediv_of_dvd (Int.dvd_of_emod_eq_zero h)]
theorem impl_WordOf_l (k : Nat) (hk : k ≤ 30) : ∀ (d i : Nat) (n : Int) (o : List Int), i + d = k → o.length = i → -100000000000000000 ≤ n → n ≤ 100000000000000000 → Ev (fun m => impl_WordOf.l0 m n o k i) (o ++ word d n, true) := by
 intro d
 induction d with
 | zero =>
  intro i n o hi ho h0 h1
  apply Ev.succ
  simp only [impl_WordOf.l0.eq_2]
  exact Ev.neg (by omega) (Ev.ret (by simp [word]))
 | succ d ih =>
  intro i n o hi ho h0 h1
  apply Ev.succ
  simp only [impl_WordOf.l0.eq_2]
  have ht := tmod3 n
  generalize hr : Int.tmod n 3 = r at *
  have h2 : -2 ≤ r ∧ r ≤ 2 ∧ (r - n) % 3 = 0 := by split at ht <;> omega
  refine Ev.pos (by omega) (Ev.bindc (impl_carried_eq r (by omega)) ?_)
  refine Ev.pos (by omega) ?_
  generalize hs : (if r > 1 then r - 3 else if r < -1 then r + 3 else r) = s
  have hs2 : s = (n + 1) % 3 - 1 := by split at hs <;> first | omega | (split at hs <;> omega)
  have e : Int.tdiv (n - s) 3 = (n + 1) / 3 := by rw [tdiv3 _ (by omega)]; omega
  rw [w64 (n := n - s) (by omega) (by omega), e, w64 (by omega) (by omega), w64 (by omega) (by omega)]
  refine evTo (ih (i + 1) ((n + 1) / 3) (o ++ [s]) (by omega) (by simp [ho]) (by omega) (by omega)) ?_
  rw [word, hs2]; simp
theorem impl_WordOf_ev (n k : Int) : Ev (fun m => impl_WordOf.f m n k) (wordOf n k) := by
 simp only [impl_WordOf.f]
 have no : ¬ (1 ≤ k ∧ k ≤ 30 ∧ fitsB n k = true) → Ev (fun m => impl_WordOf.j0 m n k true) (wordOf n k) := by
  intro h
  apply Ev.succ
  simp only [impl_WordOf.j0.eq_2]
  exact Ev.pos (by simp) (Ev.ret (by unfold wordOf; rw [if_neg h]))
 refine Ev.ite (fun h => no (by omega)) (fun h => Ev.ite (fun h1 => no (by omega)) (fun h1 => ?_))
 refine Ev.bind (impl_fits_ev n k) ?_
 by_cases c : fitsB n k = true
 ·rw [c]
  apply Ev.succ
  simp only [impl_WordOf.j0.eq_2]
  refine Ev.neg (by simp) ?_
  have hf := c
  unfold fitsB at hf
  have h2 := lim_nonneg k
  have h3 := lim_le k
  have h4 := of_decide_eq_true hf
  have hl := impl_WordOf_l k.toNat (by omega) k.toNat 0 n [] (by omega) rfl (by omega) (by omega)
  rw [show ((k.toNat : Nat) : Int) = k by omega] at hl
  unfold wordOf; rw [if_pos ⟨by omega, by omega, c⟩]
  simpa using hl
 ·rw [Bool.not_eq_true] at c
  rw [c]
  exact no (by rw [c]; simp)

theorem strconv_Itoa_eq (n : Int) (h0 : -9223372036854775808 ≤ n) (h1 : n ≤ 9223372036854775807) : strconv_Itoa.f n = some (numB n) := by
 unfold strconv_Itoa.f
 rw [if_pos ⟨h0, h1⟩]
 rfl

theorem impl_FormatCode_l (l : List S54) (hl : l.length ≤ 80) (ho : ∀ x ∈ l, opB l.length x = true) : ∀ (d i : Nat), i + d = l.length → Ev (fun k => impl_FormatCode.l0 k ((l.take i).map opT) l (l.length : Int) i) (codeT l) := by
 intro d
 induction d with
 | zero =>
  intro i hi
  apply Ev.succ
  simp only [impl_FormatCode.l0.eq_2]
  rw [List.take_of_length_le (by omega)]
  refine Ev.neg (by omega) (Ev.bindc (a := codeT l) ?_ (Ev.now _))
  have hj : ∀ (xs : List S54), (∀ x ∈ xs, (opT x).size ≤ 72) → (Lib.joinTail [59] (xs.map fun x => (opT x).data.toList)).length ≤ 73 * xs.length := by
   intro xs
   induction xs with
   | nil => intro _; simp [Lib.joinTail]
   | cons x xs ihx =>
    intro hx
    have h1 := hx x (by simp)
    have h2 := ihx (fun y hy => hx y (List.mem_cons_of_mem _ hy))
    have h3 : (opT x).data.toList.length ≤ 72 := by rw [Array.length_toList]; exact h1
    simp only [Lib.joinTail, List.map_cons, List.flatten_cons, List.length_append, List.length_cons, List.length_nil] at h2 ⊢
    omega
  have hs : ∀ x ∈ l, (opT x).size ≤ 72 := fun x hx => opT_size (by omega) (ho x hx)
  have hjl : (Lib.join (l.map fun x => (opT x).data.toList) [59]).length ≤ 10000 := by
   cases hq : l with
   | nil => simp [Lib.join_nil]
   | cons x xs =>
    rw [hq] at hs hl
    have h1 := hj xs (fun y hy => hs y (List.mem_cons_of_mem _ hy))
    have h3 : (opT x).data.toList.length ≤ 72 := by rw [Array.length_toList]; exact hs x (by simp)
    rw [List.map_cons, Lib.join_cons, List.length_append]
    simp only [List.length_cons] at hl
    omega
  unfold strings_Join.f
  have em : ((l.map opT).map fun b => b.data.toList) = l.map fun x => (opT x).data.toList := by rw [List.map_map]; rfl
  have es : ((⟨#[59]⟩ : ByteArray).data.toList) = [59] := rfl
  rw [em, es, if_pos ⟨by simp; omega, by omega⟩]
  rfl
 | succ d ih =>
  intro i hi
  have hlt : i < l.length := by omega
  have hx := ho _ (List.getElem_mem hlt)
  have hz := opT_size (by omega) hx
  obtain ⟨h0, h1, h2, h3⟩ := opB_args (by omega) hx
  have next := ih (i + 1) (by omega)
  rw [take_snoc l i hlt, List.map_append] at next
  have hT : ((l.take i).map opT).length = i := by simp; omega
  generalize hX : l[i] = x at *
  generalize ((l.take i).map opT) = acc at *
  have n1 := numB_size x.f1 (by omega) (by omega)
  have n2 := numB_size x.f2 (by omega) (by omega)
  have n3 := numB_size x.f3 (by omega) (by omega)
  have zn := opnm_size x.f0 h0
  have zw := wordS_size (word 9 x.f1)
  rw [word_length] at zw
  have e1 := strconv_Itoa_eq x.f1 (by omega) (by omega)
  have e2 := strconv_Itoa_eq x.f2 (by omega) (by omega)
  have e3 := strconv_Itoa_eq x.f3 (by omega) (by omega)
  have st : ∀ r : ByteArray, r = opT x → Ev (fun k => if acc.length < 8796093022208 then impl_FormatCode.l0 k (acc ++ [r]) l (l.length : Int) (wrap64 ((i : Int) + 1)) else none) (codeT l) := by
   intro r hr
   subst hr
   rw [w64 (by omega) (by omega)]
   exact Ev.pos (by omega) (by simpa using next)
  apply Ev.succ
  simp only [impl_FormatCode.l0.eq_2, rdO_get l i hlt, hX]
  refine Ev.pos (by omega) (Ev.pos (by omega) (Ev.pos (by omega) (Ev.bindc (impl_OpName_eq x.f0 h0) ?_)))
  have j1 : ∀ b : Bool, ¬ x.f0 = 1 → (b = true → x.f0 = 10 ∨ x.f0 = 13) → (b = false → ¬ (x.f0 = 10 ∨ x.f0 = 13)) → Ev (fun k => impl_FormatCode.j1 k acc (opnm x.f0) l (l.length : Int) i x.f0 b x.f0 x.f1 x.f2 x.f3) (codeT l) := by
   intro b hn1 hb hb'
   apply Ev.succ
   simp only [impl_FormatCode.j1.eq_2, ByteArray.size_append', ByteArray.size_mk', List.size_toArray, List.length_cons, List.length_nil]
   refine Ev.ite (fun h => ?_) (fun h => Ev.ite (fun h14 => ?_) (fun h14 => ?_))
   ·refine Ev.bindc e1 (Ev.pos (by omega) (Ev.pos (by omega) (st _ ?_)))
    unfold opT argT
    rw [if_neg hn1, if_pos (hb h)]
   ·refine Ev.bindc e1 (Ev.pos (by omega) (Ev.pos (by omega) (Ev.bindc e2 (Ev.pos (by omega) (Ev.pos (by omega) (Ev.bindc e3 (Ev.pos (by omega) (Ev.pos (by omega) (st _ ?_)))))))))
    unfold opT argT
    rw [if_neg hn1, if_neg (by omega), if_pos h14]
   ·refine st _ ?_
    unfold opT argT
    rw [if_neg hn1, if_neg (hb' (by simpa using h)), if_neg h14]
    exact (ByteArray.append_empty (b := opnm x.f0)).symm
  refine Ev.ite (fun h => ?_) (fun h => Ev.ite (fun h10 => j1 _ h (fun _ => .inl h10) (fun e => by simp [h10] at e)) (fun h10 => j1 _ h (fun e => .inr (by simpa using e)) (fun e => by simp at e; omega)))
  have ew := impl_FormatWord_ev (word 9 x.f1)
  rw [forW, if_pos (word_isWord 9 x.f1 (by omega))] at ew
  have eo : wordOf x.f1 9 = (word 9 x.f1, true) := by
   unfold wordOf
   rw [if_pos ⟨by omega, by omega, by rw [fits9, decide_eq_true_eq]; omega⟩]
   rfl
  have e0 := impl_WordOf_ev x.f1 9
  rw [eo] at e0
  refine Ev.bind e0 (Ev.bind ew ?_)
  simp only [ByteArray.size_append', ByteArray.size_mk', List.size_toArray, List.length_cons, List.length_nil]
  refine Ev.pos (by omega) (Ev.pos (by omega) (st _ ?_))
  unfold opT argT
  rw [if_pos h]
theorem impl_FormatCode_ev (l : List S54) : Ev (fun k => impl_FormatCode.f k l) (forC l) := by
 simp only [impl_FormatCode.f]
 unfold forC
 refine Ev.bind (impl_IsCode_ev l) (Ev.ite (fun h => ?_) (fun h => Ev.ret (by rw [if_neg h])))
 obtain ⟨h1, h2⟩ := codeB_all h
 rw [if_pos h]
 simpa using impl_FormatCode_l l h1 h2 l.length 0 (by omega)

theorem laws_eqOp_refl (a b c d : Int) : laws_eqOp.f a b c d a b c d = some true := by simp [laws_eqOp.f]
theorem laws_eqOpS_l (l : List S54) (hl : l.length ≤ 1048576) : ∀ (d i : Nat), i + d = l.length → Ev (fun k => laws_eqOpS.l0 k l l i) true := by
 intro d
 induction d with
 | zero =>
  intro i hi
  apply Ev.succ
  simp only [laws_eqOpS.l0.eq_2]
  exact Ev.neg (by omega) (Ev.now _)
 | succ d ihd =>
  intro i hi
  apply Ev.succ
  simp only [laws_eqOpS.l0.eq_2, laws_eqOp_refl, Option.bind_some]
  refine Ev.pos (by omega) (Ev.pos (by omega) (Ev.pos (by omega) (Ev.pos trivial ?_)))
  rw [w64 (by omega) (by omega)]
  exact ihd (i + 1) (by omega)
theorem laws_eqOpS_ev (l : List S54) (hl : l.length ≤ 1048576) : Ev (fun k => laws_eqOpS.f k l l) true := by
 simp only [laws_eqOpS.f]
 exact Ev.pos trivial (laws_eqOpS_l l hl l.length 0 (by omega))

end Go.Proofs.YtjfgcipbbcplmaaDoor.LemFnExactFormatCode
