/- Text for FnBranched: written by a program of this session on the pattern of the kit's print. -/
import Derived.Test.YtlmiankjbffboaaHFnBranchedx0
namespace Go.Proofs.Ytlmiankjbffboaa.HFnBranched
set_option maxHeartbeats 8000000
set_option maxRecDepth 100000
open Go.RowKit Go.Proofs.YtlmiankjbffboaaW.PrintWords Go.Proofs.YtlmiankjbffboaaW.PrintLast Go.Proofs.YtlmiankjbffboaaW.PrintMore
attribute [local go_sem] max2_int min2_int max_two min_two max_three min_three max_four min_four
set_option linter.unusedVariables false
set_option linter.unusedSimpArgs false

/-! ### impl_Op_96: function 96 -/
set_option maxHeartbeats 2000000 in
theorem index96 (g : Nat) (lb : Array Value) (p : Nat → Bool) (x0 x1 x2 x3 : Nat → Value) (eg : ∀ args w, (callFunc g args).run Try.prog w = .ok (.enter g args) w) (A : Option Addr) (n c : Nat) (w : World)
  (hn : n ≤ 9223372036854775807) (hv : ∀ W, Below w.heap.size w W → ∀ j, j < n → ∃ ad, A = some ad ∧ W.cell? (ad.add (j * 4)) = some (x0 j) ∧ W.cell? ⟨(ad.add (j * 4)).block, (ad.add (j * 4)).off + 1, none⟩ = some (x1 j) ∧ W.cell? ⟨(ad.add (j * 4)).block, (ad.add (j * 4)).off + 2, none⟩ = some (x2 j) ∧ W.cell? ⟨(ad.add (j * 4)).block, (ad.add (j * 4)).off + 3, none⟩ = some (x3 j))
  (hp : ∀ (W : World) (j : Nat), Below w.heap.size w W → j < n → Calls Try.prog g (#[.agg #[x0 j, x1 j, x2 j, x3 j]] ++ lb) W fun e w' => e = .returned (.bool (p j)) ∧ Below w.heap.size w w') :
  Calls Try.prog 96 #[.slice A n c, .func (.func g) #[] lb] w fun e w' => e = .returned (.int .i64 (Go.Proofs.Ytlmiankjbffboaa.Any.fstP p 0 n)) ∧ Below w.heap.size w w' := by
 go_enter Try.func96, Try.ntmps96
 go_wp2
 go_loopg [5, 8] n (fun gg _ s8 wr => ∃ kk : Nat, kk ≤ n ∧ n - kk ≤ gg ∧ s8 = .int .i64 kk ∧ Aside (Below w.heap.size w wr) ∧ Aside (∀ j, j < kk → p j = false))
 case atStart => exact ⟨0, Nat.zero_le _, by omega, rfl, Below.refl _ w, fun j hj => absurd hj (Nat.not_lt_zero _)⟩
 case round =>
  obtain ⟨kk, hkk, hg, rfl, BW, A0⟩ := hrel
  by_cases hlt : kk < n
  ·have hltz : (kk : Int) < (n : Int) := by omega
   obtain ⟨ad, rfl, l2, l3, l4, l5⟩ := hv wr BW.out kk hlt
   have hcall := hp wr kk BW.out hlt
   clear hv hp
   have hq : ∃ y, p kk = y := ⟨_, rfl⟩
   obtain ⟨y, hy⟩ := hq
   have B : Aside (p kk = y) := hy
   rw [hy] at hcall
   clear hy
   cases y with
   | true =>
    go_wp2
    refine hcall.mono ?_
    rintro e w' ⟨rfl, hb'⟩
    go_wp2
    go_ret
    refine ⟨?_, hb'⟩
    rw [Go.Proofs.Ytlmiankjbffboaa.Any.fstP_hit B.out n 0 (by omega) (by omega) (fun m _ hm => A0.out m hm)]
    rfl
   | false =>
    go_wp2
    refine hcall.mono ?_
    rintro e w' ⟨rfl, hb'⟩
    go_wp2
    go_roundg (n - (kk + 1))
    case measure => omega
    case rel =>
     refine ⟨kk + 1, by omega, by omega, by go_num, hb', (show Aside _ from fun j hj => ?_)⟩
     by_cases e : j = kk
     ·subst e
      exact B.out
     ·exact A0.out j (by omega)
  ·have hltz : ¬ (kk : Int) < (n : Int) := by omega
   have : kk = n := by omega
   subst this
   go_wp2
   go_ret
   refine ⟨?_, BW.out⟩
   rw [Go.Proofs.Ytlmiankjbffboaa.Any.fstP_miss kk 0 (fun m _ hm => A0.out m (by omega))]
   rfl

/-! ### impl_Op_84: function 84 -/
set_option maxHeartbeats 2000000 in
theorem contains84 (g : Nat) (lb : Array Value) (p : Nat → Bool) (x0 x1 x2 x3 : Nat → Value) (eg : ∀ args w, (callFunc g args).run Try.prog w = .ok (.enter g args) w) (A : Option Addr) (n c : Nat) (r : Bool) (w : World)
  (hn : n ≤ 9223372036854775807) (hv : ∀ W, Below w.heap.size w W → ∀ j, j < n → ∃ ad, A = some ad ∧ W.cell? (ad.add (j * 4)) = some (x0 j) ∧ W.cell? ⟨(ad.add (j * 4)).block, (ad.add (j * 4)).off + 1, none⟩ = some (x1 j) ∧ W.cell? ⟨(ad.add (j * 4)).block, (ad.add (j * 4)).off + 2, none⟩ = some (x2 j) ∧ W.cell? ⟨(ad.add (j * 4)).block, (ad.add (j * 4)).off + 3, none⟩ = some (x3 j))
  (hp : ∀ (W : World) (j : Nat), Below w.heap.size w W → j < n → Calls Try.prog g (#[.agg #[x0 j, x1 j, x2 j, x3 j]] ++ lb) W fun e w' => e = .returned (.bool (p j)) ∧ Below w.heap.size w w')
  (hr : decide (0 ≤ Go.Proofs.Ytlmiankjbffboaa.Any.fstP p 0 n) = r) :
  Calls Try.prog 84 #[.slice A n c, .func (.func g) #[] lb] w fun e w' => e = .returned (.bool r) ∧ Below w.heap.size w w' := by
 have h := index96 g lb p x0 x1 x2 x3 eg A n c w hn hv hp
 generalize Go.Proofs.Ytlmiankjbffboaa.Any.fstP p 0 n = i at h hr
 subst hr
 clear hv hp
 go_enter Try.func84, Try.ntmps84
 go_wp2_with (go_at_call 96; refine h.mono ?_; rintro e w' ⟨rfl, hb'⟩)
 go_ret
 exact ⟨rfl, hb'⟩

/-! ### impl_power: function 55 -/
def impl_power.l0 : Nat → Int → Int → Int → Option (Int)
 | 0, _, _, _ => none
 | k + 1, x3, x4, x5 => if x5 < x4 then (impl_power.l0 k (wrap64 (x3 * 3)) x4 (wrap64 (x5 + 1))) else (some x3)
def impl_power.f (k : Nat) (a0 : Int) : Option (Int) := impl_power.l0 k 1 a0 0
theorem impl_power.mono_l : ∀ k, (∀ y0 y1 y2, LeO (impl_power.l0 k y0 y1 y2) (impl_power.l0 (k + 1) y0 y1 y2))
 | 0 => fun _ _ _ r h => by simp [impl_power.l0] at h
 | k + 1 => by
  have ih0 := impl_power.mono_l k
  ·intro y0 y1 y2
   unfold impl_power.l0
   repeat' first
   | (with_reducible exact ih0 _ _ _)
   | (with_reducible exact LeO.refl _)
   | (with_reducible exact LeO.none _)
   | (with_reducible refine LeO.ite ?_ ?_)
   | (with_reducible refine LeO.bind ?_ (fun _ => ?_))
   | exact ih0 _ _ _
   | exact LeO.none _
   | refine LeO.ite ?_ ?_
   | refine LeO.bind ?_ (fun _ => ?_)
theorem impl_power.mono : ∀ a0 k, LeO (impl_power.f k a0) (impl_power.f (k + 1) a0) := by
 intro a0 k
 have ih0 := impl_power.mono_l k
 unfold impl_power.f
 repeat' first
   | (with_reducible exact ih0 _ _ _)
   | (with_reducible exact LeO.refl _)
   | (with_reducible exact LeO.none _)
   | (with_reducible refine LeO.ite ?_ ?_)
   | (with_reducible refine LeO.bind ?_ (fun _ => ?_))
   | exact ih0 _ _ _
   | exact LeO.none _
   | refine LeO.ite ?_ ?_
   | refine LeO.bind ?_ (fun _ => ?_)
theorem impl_power.calls (k : Nat) (a0 : Int) (r : Int) (w : World) (h : impl_power.f k a0 = some r) :
  Calls Try.prog 55 #[.int .i64 a0] w fun e w' => e = .returned (.int .i64 r) ∧ Drawn0 w w' := by
 have H : (impl_power.l0 k 1 a0 0) = some r := h
 clear h
 have H' := Ak H
 clear H
 go_enter Try.func55, Try.ntmps55
 go_wp2
 go_loopg [3, 5] k (fun kq v3 v5 w' => ∃ (x3_1 : Int) (x5_1 : Int), v3 = .int .i64 x3_1 ∧ v5 = .int .i64 x5_1 ∧ Aside0 (impl_power.l0 kq x3_1 a0 x5_1 = some r) ∧ Aside0 (kq ≤ k) ∧ Drawn0 w w')
 case atStart => exact ⟨(1), (0), Qi, Qi, H', ⟨Nat.le_refl _⟩, Ql⟩
 case round =>
  clear H'
  obtain ⟨x3_1, x5_1, rfl, rfl, HA, HK1, ⟨m1, rfl⟩⟩ := hrel
  cases gk with
  | zero => exact absurd HA.out (by simp [impl_power.l0])
  | succ k1 =>
   have H := HA.out
   clear HA
   simp only [impl_power.l0] at H
   by_cases c2 : x5_1 < a0
   ·rw [if_pos c2] at H
    have c2b0 : decide (x5_1 < a0) = true := decide_eq_true c2
    clear c2
    have H' := Ak H
    clear H
    go_wp2
    go_roundg k1
    case measure => have := HK1.out; omega
    case rel => exact ⟨(wrap64 (x3_1 * 3)), (wrap64 (x5_1 + 1)), Qi, Qi, H', ⟨by have := HK1.out; omega⟩, Ql⟩
   ·rw [if_neg c2] at H
    have c2b0 : decide (x5_1 < a0) = false := decide_eq_false c2
    clear c2
    obtain rfl := Option.some.inj H
    go_wp2
    go_ret
    exact ⟨Qi, Ql⟩

/-! ### impl_LimitOf: function 99 -/
def impl_LimitOf.f (k : Nat) (a0 : Int) : Option (Int) := if a0 < 1 then (some 0) else (if a0 > 30 then (some 0) else ((impl_power.f k a0).bind fun t101 => (some (wrap64 (Int.tdiv (wrap64 (t101 - 1)) 2)))))
theorem impl_LimitOf.mono : ∀ a0 k, LeO (impl_LimitOf.f k a0) (impl_LimitOf.f (k + 1) a0) := by
 intro a0 k
 unfold impl_LimitOf.f
 repeat' first
   | (with_reducible exact impl_power.mono _ _)
   | (with_reducible exact LeO.refl _)
   | (with_reducible exact LeO.none _)
   | (with_reducible refine LeO.ite ?_ ?_)
   | (with_reducible refine LeO.bind ?_ (fun _ => ?_))
   | exact impl_power.mono _ _
   | exact LeO.none _
   | refine LeO.ite ?_ ?_
   | refine LeO.bind ?_ (fun _ => ?_)
theorem impl_LimitOf.calls (k : Nat) (a0 : Int) (r : Int) (w : World) (h : impl_LimitOf.f k a0 = some r) :
  Calls Try.prog 99 #[.int .i64 a0] w fun e w' => e = .returned (.int .i64 r) ∧ Drawn0 w w' := by
 have H : (if a0 < 1 then (some 0) else (if a0 > 30 then (some 0) else ((impl_power.f k a0).bind fun t101 => (some (wrap64 (Int.tdiv (wrap64 (t101 - 1)) 2)))))) = some r := h
 clear h
 by_cases c2 : a0 < 1
 ·rw [if_pos c2] at H
  have c2b0 : decide (a0 < 1) = true := decide_eq_true c2
  clear c2
  obtain rfl := Option.some.inj H
  go_enter Try.func99, Try.ntmps99
  go_wp2
  go_ret
  exact ⟨Qi, Ql⟩
 ·rw [if_neg c2] at H
  have c2b0 : decide (a0 < 1) = false := decide_eq_false c2
  clear c2
  by_cases c3 : a0 > 30
  ·rw [if_pos c3] at H
   have c3b0 : decide (30 < a0) = true := decide_eq_true c3
   clear c3
   obtain rfl := Option.some.inj H
   go_enter Try.func99, Try.ntmps99
   go_wp2
   go_ret
   exact ⟨Qi, Ql⟩
  ·rw [if_neg c3] at H
   have c3b0 : decide (30 < a0) = false := decide_eq_false c3
   clear c3
   replace H := Option.bind_eq_some_iff.mp H
   obtain ⟨t101, A40, H⟩ := H
   replace H : (some (wrap64 (Int.tdiv (wrap64 (t101 - 1)) 2))) = some r := H
   have A4 := Ak A40
   clear A40
   obtain rfl := Option.some.inj H
   go_enter Try.func99, Try.ntmps99
   go_wp2_with (first | ((with_reducible refine gate_callee (f := 55) rfl ?_); refine Qj (some 10) Try.func55 #[.int .i64 a0] ?_; (with_reducible refine (impl_power.calls k a0 t101 _ A4.out).mono ?_); rintro e w' ⟨rfl, ⟨nd, rfl⟩⟩; refine ⟨_, rfl, ?_⟩))
   go_ret
   exact ⟨Qi, Ql⟩

/-! ### impl_fits: function 89 -/
def impl_fits.f (k : Nat) (a0 : Int) (a1 : Int) : Option (Bool) := (impl_LimitOf.f k a1).bind fun t102 => (if a0 ≥ (wrap64 (-t102)) then ((impl_LimitOf.f k a1).bind fun t103 => (some (decide (a0 ≤ t103)))) else (some false))
theorem impl_fits.mono : ∀ a0 a1 k, LeO (impl_fits.f k a0 a1) (impl_fits.f (k + 1) a0 a1) := by
 intro a0 a1 k
 unfold impl_fits.f
 repeat' first
   | (with_reducible exact impl_LimitOf.mono _ _)
   | (with_reducible exact LeO.refl _)
   | (with_reducible exact LeO.none _)
   | (with_reducible refine LeO.ite ?_ ?_)
   | (with_reducible refine LeO.bind ?_ (fun _ => ?_))
   | exact impl_LimitOf.mono _ _
   | exact LeO.none _
   | refine LeO.ite ?_ ?_
   | refine LeO.bind ?_ (fun _ => ?_)
theorem impl_fits.calls (k : Nat) (a0 : Int) (a1 : Int) (r : Bool) (w : World) (h : impl_fits.f k a0 a1 = some r) :
  Calls Try.prog 89 #[.int .i64 a0, .int .i64 a1] w fun e w' => e = .returned (.bool r) ∧ Drawn0 w w' := by
 have H : ((impl_LimitOf.f k a1).bind fun t102 => (if a0 ≥ (wrap64 (-t102)) then ((impl_LimitOf.f k a1).bind fun t103 => (some (decide (a0 ≤ t103)))) else (some false))) = some r := h
 clear h
 replace H := Option.bind_eq_some_iff.mp H
 obtain ⟨t102, A30, H⟩ := H
 replace H : (if a0 ≥ (wrap64 (-t102)) then ((impl_LimitOf.f k a1).bind fun t103 => (some (decide (a0 ≤ t103)))) else (some false)) = some r := H
 have A3 := Ak A30
 clear A30
 by_cases c4 : a0 ≥ (wrap64 (-t102))
 ·rw [if_pos c4] at H
  have c4b0 : decide ((wrap64 (-t102)) ≤ a0) = true := decide_eq_true c4
  clear c4
  replace H := Option.bind_eq_some_iff.mp H
  obtain ⟨t103, A50, H⟩ := H
  replace H : (some (decide (a0 ≤ t103))) = some r := H
  have A5 := Ak A50
  clear A50
  obtain rfl := Option.some.inj H
  go_enter Try.func89, Try.ntmps89
  go_wp2_with (first | ((with_reducible refine gate_callee (f := 99) rfl ?_); refine Qj (some 7) Try.func99 #[.int .i64 a1] ?_; (with_reducible refine (impl_LimitOf.calls k a1 t102 _ A3.out).mono ?_); rintro e w' ⟨rfl, ⟨nd, rfl⟩⟩; refine ⟨_, rfl, ?_⟩) | (go_at_call 99; (with_reducible refine (impl_LimitOf.calls k a1 t103 _ A5.out).mono ?_); rintro e w' ⟨rfl, ⟨nd, rfl⟩⟩))
  go_ret
  exact ⟨Qi, Ql⟩
 ·rw [if_neg c4] at H
  have c4b0 : decide ((wrap64 (-t102)) ≤ a0) = false := decide_eq_false c4
  clear c4
  obtain rfl := Option.some.inj H
  go_enter Try.func89, Try.ntmps89
  go_wp2_with (first | ((with_reducible refine gate_callee (f := 99) rfl ?_); refine Qj (some 7) Try.func99 #[.int .i64 a1] ?_; (with_reducible refine (impl_LimitOf.calls k a1 t102 _ A3.out).mono ?_); rintro e w' ⟨rfl, ⟨nd, rfl⟩⟩; refine ⟨_, rfl, ?_⟩))
  go_ret
  exact ⟨Qi, Ql⟩

/-! ### impl_isOp_1: function 97 -/
set_option maxHeartbeats 2000000 in
theorem place97 (n size : Int) (b : Nat) (r : Bool) (w : World) (hr : (decide (0 ≤ n) && decide (n ≤ size)) = r) (hc : w.cell? ⟨b, 0, none⟩ = some (.int .i64 size)) :
  Calls Try.prog 97 #[.int .i64 n, .pointer (some ⟨b, 0, none⟩)] w fun e w' => e = .returned (.bool r) ∧ Drawn0 w w' := by
 subst hr
 cases h1 : decide (0 ≤ n) <;> cases h2 : decide (n ≤ size) <;>
 ·go_enter Try.func97, Try.ntmps97
  go_wp2
  go_ret
  exact ⟨by first | rfl | simp [*], Ql⟩

/-! ### impl_isOp: function 86 -/
/-- What isOp says, with what 'fits' says of A. -/
def isOpB (f : Bool) (c a b d n : Int) : Bool :=
 if c = 1 then f && decide (b = 0) && decide (d = 0)
 else if c = 10 then decide (-9 ≤ a) && decide (a ≤ 9) && decide (b = 0) && decide (d = 0)
 else if c = 13 then (decide (0 ≤ a) && decide (a ≤ n)) && decide (b = 0) && decide (d = 0)
 else if c = 14 then (decide (0 ≤ a) && decide (a ≤ n)) && (decide (0 ≤ b) && decide (b ≤ n)) && (decide (0 ≤ d) && decide (d ≤ n))
 else decide (1 ≤ c) && decide (c ≤ 15) && (decide (a = 0) && decide (b = 0) && decide (d = 0))
def impl_isOp.f (k : Nat) (c a b d n : Int) : Option Bool := (impl_fits.f k a 9).bind fun f => some (isOpB f c a b d n)
theorem impl_isOp.mono : ∀ c a b d n k, LeO (impl_isOp.f k c a b d n) (impl_isOp.f (k + 1) c a b d n) := fun c a b d n k => LeO.bind (impl_fits.mono a 9 k) (fun _ => LeO.refl _)
theorem impl_isOp.calls (k : Nat) (a0_0 : Int) (a0_1 : Int) (a0_2 : Int) (a0_3 : Int) (a1 : Int) (r : Bool) (w : World) (h : impl_isOp.f k a0_0 a0_1 a0_2 a0_3 a1 = some r) :
  Calls Try.prog 86 #[.agg #[.int .i64 a0_0, .int .i64 a0_1, .int .i64 a0_2, .int .i64 a0_3], .int .i64 a1] w fun e w' => e = .returned (.bool r) ∧ Below w.heap.size w w' := by
 obtain ⟨c, ec⟩ : ∃ z, z = a0_0 := ⟨_, rfl⟩
 obtain ⟨a, ea⟩ : ∃ z, z = a0_1 := ⟨_, rfl⟩
 obtain ⟨b, eb⟩ : ∃ z, z = a0_2 := ⟨_, rfl⟩
 obtain ⟨d, ed⟩ : ∃ z, z = a0_3 := ⟨_, rfl⟩
 obtain ⟨n, en⟩ : ∃ z, z = a1 := ⟨_, rfl⟩
 rw [← ec, ← ea, ← eb, ← ed, ← en] at h ⊢
 clear ec ea eb ed en
 obtain ⟨f, hf, h⟩ := Option.bind_eq_some_iff.1 h
 have hr := Option.some.inj h
 clear h
 have hb : (b == 0) = decide (b = 0) := by rw [Bool.eq_iff_iff]; simp
 have hd : (d == 0) = decide (d = 0) := by rw [Bool.eq_iff_iff]; simp
 by_cases c1 : c = 1
 ·(try subst c1)
  rw [isOpB, if_pos rfl] at hr
  subst hr
  cases f <;> cases h1 : decide (b = 0) <;> cases h2 : decide (d = 0) <;>
  ·rw [h1] at hb
   rw [h2] at hd
   go_enter Try.func86, Try.ntmps86
   go_wp2_with (go_at_call 89; refine (impl_fits.calls k a 9 _ _ hf).mono ?_; rintro e w' ⟨rfl, ⟨nd, rfl⟩⟩)
   go_ret
   exact ⟨by first | rfl | simp [*], by repeat (first | (with_reducible first | exact Below.refl _ _ | apply below_alloc | apply pw_below_drewN | apply below_drew1) | exact Below.refl _ _)⟩
 ·clear hf
  by_cases c10 : c = 10
  ·(try subst c10)
   rw [isOpB, if_neg (by decide), if_pos rfl] at hr
   subst hr
   cases h3 : decide (-9 ≤ a) <;> cases h4 : decide (a ≤ 9) <;> cases h1 : decide (b = 0) <;> cases h2 : decide (d = 0) <;>
   ·rw [h1] at hb
    rw [h2] at hd
    go_enter Try.func86, Try.ntmps86
    go_wp2
    go_ret
    exact ⟨by first | rfl | simp [*], by repeat (first | (with_reducible first | exact Below.refl _ _ | apply below_alloc | apply pw_below_drewN | apply below_drew1) | exact Below.refl _ _)⟩
  ·by_cases c13 : c = 13
   ·(try subst c13)
    rw [isOpB, if_neg (by decide), if_neg (by decide), if_pos rfl] at hr
    subst hr
    cases pa : (decide (0 ≤ a) && decide (a ≤ n)) <;> cases h1 : decide (b = 0) <;> cases h2 : decide (d = 0) <;>
    ·rw [h1] at hb
     rw [h2] at hd
     go_enter Try.func86, Try.ntmps86
     go_wp2_with (go_at_call 97; with_reducible refine (place97 a n _ _ _ pa (by simp)).mono ?_; rintro e w' ⟨rfl, ⟨nda, rfl⟩⟩)
     go_ret
     exact ⟨by first | rfl | simp [*], by repeat (first | (with_reducible first | exact Below.refl _ _ | apply below_alloc | apply pw_below_drewN | apply below_drew1) | exact Below.refl _ _)⟩
   ·by_cases c14 : c = 14
    ·(try subst c14)
     rw [isOpB, if_neg (by decide), if_neg (by decide), if_neg (by decide), if_pos rfl] at hr
     subst hr
     clear hb hd
     cases pa : (decide (0 ≤ a) && decide (a ≤ n)) <;> cases pb : (decide (0 ≤ b) && decide (b ≤ n)) <;> cases pd : (decide (0 ≤ d) && decide (d ≤ n)) <;>
     ·go_enter Try.func86, Try.ntmps86
      go_wp2_with (first | (go_at_call 97; with_reducible refine (place97 a n _ _ _ pa (by simp)).mono ?_; rintro e w' ⟨rfl, ⟨nda, rfl⟩⟩) | (go_at_call 97; with_reducible refine (place97 b n _ _ _ pb (by simp)).mono ?_; rintro e w' ⟨rfl, ⟨ndb, rfl⟩⟩) | (go_at_call 97; with_reducible refine (place97 d n _ _ _ pd (by simp)).mono ?_; rintro e w' ⟨rfl, ⟨ndd, rfl⟩⟩))
      go_ret
      exact ⟨by first | rfl | simp [*], by repeat (first | (with_reducible first | exact Below.refl _ _ | apply below_alloc | apply pw_below_drewN | apply below_drew1) | exact Below.refl _ _)⟩
    ·have e1 : (c == 1) = false := beq_eq_false_iff_ne.mpr c1
     have e10 : (c == 10) = false := beq_eq_false_iff_ne.mpr c10
     have e13 : (c == 13) = false := beq_eq_false_iff_ne.mpr c13
     have e14 : (c == 14) = false := beq_eq_false_iff_ne.mpr c14
     rw [isOpB, if_neg c1, if_neg c10, if_neg c13, if_neg c14] at hr
     subst hr
     clear hb hd
     cases h3 : decide (1 ≤ c) <;> cases h4 : decide (c ≤ 15) <;>
     ·go_enter Try.func86, Try.ntmps86
      go_wp2
      all_goals go_ret
      all_goals exact ⟨by first | rfl | simp [*], by repeat (first | (with_reducible first | exact Below.refl _ _ | apply below_alloc | apply pw_below_drewN | apply below_drew1) | exact Below.refl _ _)⟩

/-! ### impl_IsCode_1: function 85 -/
set_option maxHeartbeats 2000000 in
theorem closure85 (k : Nat) (c a b d : Int) (n cap : Nat) (A : Option Addr) (blk : Nat) (r : Bool) (w : World) (hB : blk < w.heap.size) (hc : w.cell? ⟨blk, 0, none⟩ = some (.slice A n cap)) (h : impl_isOp.f k c a b d n = some r) :
  Calls Try.prog 85 #[.agg #[.int .i64 c, .int .i64 a, .int .i64 b, .int .i64 d], .pointer (some ⟨blk, 0, none⟩)] w fun e w' => e = .returned (.bool (!r)) ∧ Below w.heap.size w w' := by
 have hne : blk ≠ w.heap.size := by omega
 go_enter Try.func85, Try.ntmps85
 go_wp2_with (go_at_call 86; refine (impl_isOp.calls k c a b d n r _ h).mono ?_; rintro e w' ⟨rfl, hb'⟩)
 go_ret
 exact ⟨by first | rfl | simp, ((Below.refl _ w).alloc (Nat.le_refl _) _).trans (hb'.mono (by simp))⟩

/-! ### impl_IsCode: function 71 -/
def impl_IsCode.f (k : Nat) (l : List S48) : Option Bool := if l.length ≥ 1 then (if l.length ≤ 80 then (Go.Proofs.Ytlmiankjbffboaa.Any.anyO (fun x => (impl_isOp.f k x.f0 x.f1 x.f2 x.f3 (l.length : Int)).bind fun t => some (!t)) l).bind fun b => some (!b) else some false) else some false
theorem impl_IsCode.mono : ∀ l k, LeO (impl_IsCode.f k l) (impl_IsCode.f (k + 1) l) := fun l k => LeO.ite (LeO.ite (LeO.bind (Go.Proofs.Ytlmiankjbffboaa.Any.anyO_le (fun x => LeO.bind (impl_isOp.mono _ _ _ _ _ k) (fun _ => LeO.refl _)) l) (fun _ => LeO.refl _)) (LeO.refl _)) (LeO.refl _)
theorem impl_IsCode.calls (k : Nat) (A0 : Option Addr) (c0 : Nat) (l0 : List (S48)) (r : Bool) (w : World) (hr0 : Kd.C k48 w A0 l0.length l0) (hc0 : l0.length ≤ c0) (h : impl_IsCode.f k l0 = some r) :
  Calls Try.prog 71 #[.slice A0 l0.length c0] w fun e w' => e = .returned (.bool r) ∧ Below w.heap.size w w' := by
 unfold impl_IsCode.f at h
 by_cases c1 : l0.length ≥ 1
 ·rw [if_pos c1] at h
  have c1b : decide (1 ≤ (l0.length : Int)) = true := decide_eq_true (by omega)
  by_cases c2 : l0.length ≤ 80
  ·rw [if_pos c2] at h
   have c2b : decide ((l0.length : Int) ≤ 80) = true := decide_eq_true (by omega)
   obtain ⟨b, hb, h⟩ := Option.bind_eq_some_iff.1 h
   obtain rfl := Option.some.inj h
   obtain ⟨p, h1, h2⟩ := Go.Proofs.Ytlmiankjbffboaa.Any.anyO_some' hb
   have hcon := fun (w : World) (blk : Nat) (hB : blk < w.heap.size) (hcl : w.cell? ⟨blk, 0, none⟩ = some (.slice A0 l0.length c0)) (hr : Kd.C k48 w A0 l0.length l0) => contains84 85 #[.pointer (some ⟨blk, 0, none⟩)] p (fun j => .int .i64 (rd_T48 l0 j).f0) (fun j => .int .i64 (rd_T48 l0 j).f1) (fun j => .int .i64 (rd_T48 l0 j).f2) (fun j => .int .i64 (rd_T48 l0 j).f3) (fun args w => enters_ Try.func85 (by kernel_rfl) rfl args w) A0 l0.length c0 b w (by have := hr.2.1; omega)
    (fun W hW j hj => by
     obtain ⟨ad, e, hx⟩ := at_T48 (Kd.C_below hr hW) (j : Int) (by omega) (by omega)
     exact ⟨ad, e, by simpa using hx⟩)
    (fun W j hW hj => by
     have e := h1 j hj
     obtain ⟨t, ht, e⟩ := Option.bind_eq_some_iff.1 e
     have e := Option.some.inj e
     have eg : rd_T48 l0 (j : Int) = l0[j] := by simp [rd_T48, List.getD_eq_getElem?_getD, List.getElem?_eq_getElem hj]
     rw [← e]
     refine (closure85 k _ _ _ _ l0.length c0 A0 blk t W (Nat.lt_of_lt_of_le hB hW.size) ((hW.cell (p := ⟨blk, 0, none⟩) hB).trans hcl) (by rw [eg]; exact ht)).mono ?_
     rintro e w' ⟨rfl, hb'⟩
     exact ⟨rfl, hW.trans (hb'.mono hW.size)⟩) h2
   clear h1 h2 hb
   go_enter Try.func71, Try.ntmps71
   go_wp2_with (go_at_call 84; refine (hcon _ w.heap.size (by simp) (by simp) (by with_reducible repeat (first | exact hr0 | refine Kd.C_alloc ?_ _ | refine Kd.C_drewN ?_ _ | refine Kd.C_drew ?_))).mono ?_; rintro e w' ⟨rfl, hb'⟩)
   go_ret
   exact ⟨by first | rfl | simp, ((Below.refl _ w).alloc (Nat.le_refl _) _).trans (hb'.mono (by simp))⟩
  ·rw [if_neg c2] at h
   have c2b : decide ((l0.length : Int) ≤ 80) = false := decide_eq_false (by omega)
   obtain rfl := Option.some.inj h
   go_enter Try.func71, Try.ntmps71
   go_wp2
   go_ret
   exact ⟨by first | rfl | simp, (Below.refl _ w).alloc (Nat.le_refl _) _⟩
 ·rw [if_neg c1] at h
  have c1b : decide (1 ≤ (l0.length : Int)) = false := decide_eq_false (by omega)
  obtain rfl := Option.some.inj h
  go_enter Try.func71, Try.ntmps71
  go_wp2
  go_ret
  exact ⟨by first | rfl | simp, (Below.refl _ w).alloc (Nat.le_refl _) _⟩

/-! ### slices_IndexFunc_int_int: function 98 -/
set_option maxHeartbeats 2000000 in
theorem index98 (g : Nat) (lb : Array Value) (p : Nat → Bool) (v : Nat → Value) (eg : ∀ args w, (callFunc g args).run Try.prog w = .ok (.enter g args) w) (A : Option Addr) (n c : Nat) (w : World)
  (hn : n ≤ 9223372036854775807) (hv : ∀ W, Below w.heap.size w W → ∀ j, j < n → ∃ ad, A = some ad ∧ W.cell? (ad.add j) = some (v j))
  (hp : ∀ (W : World) (j : Nat), Below w.heap.size w W → j < n → Calls Try.prog g (#[v j] ++ lb) W fun e w' => e = .returned (.bool (p j)) ∧ Below w.heap.size w w') :
  Calls Try.prog 98 #[.slice A n c, .func (.func g) #[] lb] w fun e w' => e = .returned (.int .i64 (Go.Proofs.Ytlmiankjbffboaa.Any.fstP p 0 n)) ∧ Below w.heap.size w w' := by
 go_enter Try.func98, Try.ntmps98
 go_wp2
 go_loopg [5, 8] n (fun gg _ s8 wr => ∃ kk : Nat, kk ≤ n ∧ n - kk ≤ gg ∧ s8 = .int .i64 kk ∧ Aside (Below w.heap.size w wr) ∧ Aside (∀ j, j < kk → p j = false))
 case atStart => exact ⟨0, Nat.zero_le _, by omega, rfl, Below.refl _ w, fun j hj => absurd hj (Nat.not_lt_zero _)⟩
 case round =>
  obtain ⟨kk, hkk, hg, rfl, BW, A0⟩ := hrel
  by_cases hlt : kk < n
  ·have hltz : (kk : Int) < (n : Int) := by omega
   obtain ⟨ad, rfl, l2⟩ := hv wr BW.out kk hlt
   have hcall := hp wr kk BW.out hlt
   clear hv hp
   have hq : ∃ y, p kk = y := ⟨_, rfl⟩
   obtain ⟨y, hy⟩ := hq
   have B : Aside (p kk = y) := hy
   rw [hy] at hcall
   clear hy
   cases y with
   | true =>
    go_wp2
    refine hcall.mono ?_
    rintro e w' ⟨rfl, hb'⟩
    go_wp2
    go_ret
    refine ⟨?_, hb'⟩
    rw [Go.Proofs.Ytlmiankjbffboaa.Any.fstP_hit B.out n 0 (by omega) (by omega) (fun m _ hm => A0.out m hm)]
    rfl
   | false =>
    go_wp2
    refine hcall.mono ?_
    rintro e w' ⟨rfl, hb'⟩
    go_wp2
    go_roundg (n - (kk + 1))
    case measure => omega
    case rel =>
     refine ⟨kk + 1, by omega, by omega, by go_num, hb', (show Aside _ from fun j hj => ?_)⟩
     by_cases e : j = kk
     ·subst e
      exact B.out
     ·exact A0.out j (by omega)
  ·have hltz : ¬ (kk : Int) < (n : Int) := by omega
   have : kk = n := by omega
   subst this
   go_wp2
   go_ret
   refine ⟨?_, BW.out⟩
   rw [Go.Proofs.Ytlmiankjbffboaa.Any.fstP_miss kk 0 (fun m _ hm => A0.out m (by omega))]
   rfl

/-! ### slices_ContainsFunc_int_int: function 87 -/
set_option maxHeartbeats 2000000 in
theorem contains87 (g : Nat) (lb : Array Value) (p : Nat → Bool) (v : Nat → Value) (eg : ∀ args w, (callFunc g args).run Try.prog w = .ok (.enter g args) w) (A : Option Addr) (n c : Nat) (r : Bool) (w : World)
  (hn : n ≤ 9223372036854775807) (hv : ∀ W, Below w.heap.size w W → ∀ j, j < n → ∃ ad, A = some ad ∧ W.cell? (ad.add j) = some (v j))
  (hp : ∀ (W : World) (j : Nat), Below w.heap.size w W → j < n → Calls Try.prog g (#[v j] ++ lb) W fun e w' => e = .returned (.bool (p j)) ∧ Below w.heap.size w w')
  (hr : decide (0 ≤ Go.Proofs.Ytlmiankjbffboaa.Any.fstP p 0 n) = r) :
  Calls Try.prog 87 #[.slice A n c, .func (.func g) #[] lb] w fun e w' => e = .returned (.bool r) ∧ Below w.heap.size w w' := by
 have h := index98 g lb p v eg A n c w hn hv hp
 generalize Go.Proofs.Ytlmiankjbffboaa.Any.fstP p 0 n = i at h hr
 subst hr
 clear hv hp
 go_enter Try.func87, Try.ntmps87
 go_wp2_with (go_at_call 98; refine h.mono ?_; rintro e w' ⟨rfl, hb'⟩)
 go_ret
 exact ⟨rfl, hb'⟩

/-! ### impl_cells_1: function 88 -/
set_option maxHeartbeats 2000000 in
theorem closure88 (k : Nat) (a : Int) (r : Bool) (w : World) (h : impl_fits.f k a 9 = some r) :
  Calls Try.prog 88 #[.int .i64 a] w fun e w' => e = .returned (.bool (!r)) ∧ Below w.heap.size w w' := by
 go_enter Try.func88, Try.ntmps88
 go_wp2_with (go_at_call 89; refine (impl_fits.calls k a 9 r _ h).mono ?_; rintro e w' ⟨rfl, ⟨nd, rfl⟩⟩)
 go_ret
 exact ⟨by first | rfl | simp, by repeat (first | (with_reducible first | exact Below.refl _ _ | apply below_alloc | apply pw_below_drewN | apply below_drew1) | exact Below.refl _ _)⟩

/-! ### impl_cells: function 72 -/
def impl_cells.f (k : Nat) (l : List Int) : Option Bool := (Go.Proofs.Ytlmiankjbffboaa.Any.anyO (fun x => (impl_fits.f k x 9).bind fun t => some (!t)) l).bind fun b => some (!b)
theorem impl_cells.mono : ∀ l k, LeO (impl_cells.f k l) (impl_cells.f (k + 1) l) := fun l k => LeO.bind (Go.Proofs.Ytlmiankjbffboaa.Any.anyO_le (fun x => LeO.bind (impl_fits.mono x 9 k) (fun _ => LeO.refl _)) l) (fun _ => LeO.refl _)
theorem impl_cells.calls (k : Nat) (A0 : Option Addr) (c0 : Nat) (l0 : List Int) (r : Bool) (w : World) (hr0 : Kd.C (Kd.int .i64) w A0 l0.length l0) (hc0 : l0.length ≤ c0) (h : impl_cells.f k l0 = some r) :
  Calls Try.prog 72 #[.slice A0 l0.length c0] w fun e w' => e = .returned (.bool r) ∧ Below w.heap.size w w' := by
 obtain ⟨b, hb, h⟩ := Option.bind_eq_some_iff.1 h
 obtain rfl := Option.some.inj h
 obtain ⟨p, h1, h2⟩ := Go.Proofs.Ytlmiankjbffboaa.Any.anyO_some' hb
 have hcon := fun (w : World) (hr : Kd.C (Kd.int .i64) w A0 l0.length l0) => contains87 88 #[] p (fun j => .int .i64 (l0.getD j 0)) (fun args w => enters_ Try.func88 (by kernel_rfl) rfl args w) A0 l0.length c0 b w (by have := hr.2.1; omega)
  (fun W hW j hj => by
   obtain ⟨ad, e, hx⟩ := Kd.at_int (Kd.C_below hr hW) (j : Int) (by omega) (by omega)
   exact ⟨ad, e, by simpa [rd] using hx⟩)
  (fun W j hW hj => by
   have e := h1 j hj
   obtain ⟨t, ht, e⟩ := Option.bind_eq_some_iff.1 e
   have e := Option.some.inj e
   have eg : l0.getD j 0 = l0[j] := by simp [List.getD_eq_getElem?_getD, List.getElem?_eq_getElem hj]
   rw [← e]
   refine (closure88 k _ t W (by rw [eg]; exact ht)).mono ?_
   rintro e w' ⟨rfl, hb'⟩
   exact ⟨rfl, hW.trans (hb'.mono hW.size)⟩) h2
 clear h1 h2 hb
 go_enter Try.func72, Try.ntmps72
 go_wp2_with (go_at_call 87; refine (hcon _ (by first | exact hr0 | exact Kd.C_drew hr0 | exact Kd.C_drewN hr0 _)).mono ?_; rintro e w' ⟨rfl, hb'⟩)
 go_ret
 exact ⟨by first | rfl | simp, hb'⟩

/-! ### impl_IsMachine: function 41 -/
def impl_IsMachine.f (k : Nat) (l0 : List (S48)) (a1_0 : Int) (l1_1 : List Int) (l1_2 : List Int) : Option (Bool) := (impl_IsCode.f k l0).bind fun t105 => (if t105 = true then (if a1_0 ≥ 0 then (if a1_0 ≤ (l0.length : Int) then (if (l1_1.length : Int) ≤ 20 then (if (l1_2.length : Int) = 27 then ((impl_cells.f k l1_1).bind fun t106 => (if t106 = true then ((impl_cells.f k l1_2).bind fun t107 => (some t107)) else (some false))) else (some false)) else (some false)) else (some false)) else (some false)) else (some false))
theorem impl_IsMachine.mono : ∀ a0 a1 a2 a3 k, LeO (impl_IsMachine.f k a0 a1 a2 a3) (impl_IsMachine.f (k + 1) a0 a1 a2 a3) := by
 intro a0 a1 a2 a3 k
 unfold impl_IsMachine.f
 repeat' first
   | (with_reducible exact impl_IsCode.mono _ _)
   | (with_reducible exact impl_cells.mono _ _)
   | (with_reducible exact LeO.refl _)
   | (with_reducible exact LeO.none _)
   | (with_reducible refine LeO.ite ?_ ?_)
   | (with_reducible refine LeO.bind ?_ (fun _ => ?_))
   | exact impl_IsCode.mono _ _
   | exact impl_cells.mono _ _
   | exact LeO.none _
   | refine LeO.ite ?_ ?_
   | refine LeO.bind ?_ (fun _ => ?_)
theorem impl_IsMachine.calls (k : Nat) (A0 : Option Addr) (c0 : Nat) (l0 : List (S48)) (a1_0 : Int) (A1_1 : Option Addr) (c1_1 : Nat) (l1_1 : List Int) (A1_2 : Option Addr) (c1_2 : Nat) (l1_2 : List Int) (r : Bool) (w : World) (hr0 : Kd.C k48 w A0 l0.length l0) (hc0 : l0.length ≤ c0) (hr1_1 : Kd.C (Kd.int .i64) w A1_1 l1_1.length l1_1) (hc1_1 : l1_1.length ≤ c1_1) (hr1_2 : Kd.C (Kd.int .i64) w A1_2 l1_2.length l1_2) (hc1_2 : l1_2.length ≤ c1_2) (h : impl_IsMachine.f k l0 a1_0 l1_1 l1_2 = some r) :
  Calls Try.prog 41 #[.slice A0 l0.length c0, .agg #[.int .i64 a1_0, .slice A1_1 l1_1.length c1_1, .slice A1_2 l1_2.length c1_2]] w fun e w' => e = .returned (.bool r) ∧ Below w.heap.size w w' := by
 have hu28 := Try.underlying28
 have HR0 := Ak hr0
 have HC0 := Ak hc0
 clear hr0 hc0
 have HR1_1 := Ak hr1_1
 have HC1_1 := Ak hc1_1
 clear hr1_1 hc1_1
 have HR1_2 := Ak hr1_2
 have HC1_2 := Ak hc1_2
 clear hr1_2 hc1_2
 have HB := Ak (Below.refl w.heap.size w)
 have H : ((impl_IsCode.f k l0).bind fun t105 => (if t105 = true then (if a1_0 ≥ 0 then (if a1_0 ≤ (l0.length : Int) then (if (l1_1.length : Int) ≤ 20 then (if (l1_2.length : Int) = 27 then ((impl_cells.f k l1_1).bind fun t106 => (if t106 = true then ((impl_cells.f k l1_2).bind fun t107 => (some t107)) else (some false))) else (some false)) else (some false)) else (some false)) else (some false)) else (some false))) = some r := h
 clear h
 replace H := Option.bind_eq_some_iff.mp H
 obtain ⟨t105, A30, H⟩ := H
 replace H : (if t105 = true then (if a1_0 ≥ 0 then (if a1_0 ≤ (l0.length : Int) then (if (l1_1.length : Int) ≤ 20 then (if (l1_2.length : Int) = 27 then ((impl_cells.f k l1_1).bind fun t106 => (if t106 = true then ((impl_cells.f k l1_2).bind fun t107 => (some t107)) else (some false))) else (some false)) else (some false)) else (some false)) else (some false)) else (some false)) = some r := H
 have A3 := Ak A30
 clear A30
 by_cases c4 : t105 = true
 ·(try subst c4)
  have H1 : (if a1_0 ≥ 0 then (if a1_0 ≤ (l0.length : Int) then (if (l1_1.length : Int) ≤ 20 then (if (l1_2.length : Int) = 27 then ((impl_cells.f k l1_1).bind fun t106 => (if t106 = true then ((impl_cells.f k l1_2).bind fun t107 => (some t107)) else (some false))) else (some false)) else (some false)) else (some false)) else (some false)) = some r := by rw [if_pos rfl] at H; exact H
  clear H
  have H := H1
  clear H1
  by_cases c5 : a1_0 ≥ 0
  ·rw [if_pos c5] at H
   have c5b0 : decide (0 ≤ a1_0) = true := decide_eq_true c5
   clear c5
   by_cases c6 : a1_0 ≤ (l0.length : Int)
   ·rw [if_pos c6] at H
    have c6b0 : decide (a1_0 ≤ (l0.length : Int)) = true := decide_eq_true c6
    clear c6
    by_cases c7 : (l1_1.length : Int) ≤ 20
    ·rw [if_pos c7] at H
     have c7b0 : decide ((l1_1.length : Int) ≤ 20) = true := decide_eq_true c7
     have c7b1 : decide (l1_1.length ≤ 20) = true := decide_eq_true (by omega)
     clear c7
     by_cases c8 : (l1_2.length : Int) = 27
     ·rw [if_pos c8] at H
      have c8b0 : ((l1_2.length : Int) == 27) = true := beq_iff_eq.mpr c8
      have c8b1 : ((l1_2.length : Int) != 27) = false := bne_eq_false_iff_eq.mpr c8
      clear c8
      replace H := Option.bind_eq_some_iff.mp H
      obtain ⟨t106, A90, H⟩ := H
      replace H : (if t106 = true then ((impl_cells.f k l1_2).bind fun t107 => (some t107)) else (some false)) = some r := H
      have A9 := Ak A90
      clear A90
      by_cases c10 : t106 = true
      ·(try subst c10)
       have H1 : ((impl_cells.f k l1_2).bind fun t107 => (some t107)) = some r := by rw [if_pos rfl] at H; exact H
       clear H
       have H := H1
       clear H1
       replace H := Option.bind_eq_some_iff.mp H
       obtain ⟨t107, A110, H⟩ := H
       replace H : (some t107) = some r := H
       have A11 := Ak A110
       clear A110
       obtain rfl := Option.some.inj H
       go_enter Try.func41, Try.ntmps41
       go_wp2_with (first | ((with_reducible refine gate_dst (N := 3) rfl ?_); (try (refine gate_guard (by rfl) ?_; dsimp only)); refine Qk 3 #[.int .i64 a1_0, .slice A1_1 l1_1.length c1_1, .slice A1_2 l1_2.length c1_2] 28 ?_; intro gb104 hg w12 hbox hb; have n0_ := Ak (below_step (Qb HB.out) hb); have n1_ := Ak (hbox); have n2_ := Ak ((Qp hg HB.out : w.heap.size ≤ gb104)); have n3_ := Ak ((Qp hg HB.out : w.heap.size ≤ gb104)); clear HB; have HB := n0_; have BK104 := n1_; have GW104 := n2_; have GE104 := n3_; clear n0_ n1_ n2_ n3_; clear hb hbox hg) | ((with_reducible refine gate_callee (f := 71) rfl ?_); refine Qj (some 6) Try.func71 #[.slice A0 l0.length c0] ?_; (with_reducible refine (impl_IsCode.calls k _ _ l0 true _ ?side1 ?side2 A3.out).mono ?_); (case side1 => repeat (first | exact (Kd.C_below HR0.out HB.out) | (with_reducible refine Kd.C_alloc ?_ _) | (with_reducible refine Kd.C_drewN ?_ _) | (with_reducible refine Kd.C_drew ?_))); (case side2 => exact HC0.out); rintro e w13 ⟨rfl, hb⟩; refine ⟨_, rfl, ?_⟩; have n0_ := Ak (Qm BK104.out hb); have n1_ := Ak (below_step (Qb HB.out) hb); clear BK104 HB; have BK104 := n0_; have HB := n1_; clear n0_ n1_; (try clear hb); (try clear hb2); (try clear hk); (try clear hi); obtain ⟨hcz14_0, hcz14_1, hcz14_2⟩ := Qu3 BK104.out; have hfz14_0 := blk_frozen BK104.out 0; have hfz14_1 := blk_frozen BK104.out 1; have hfz14_2 := blk_frozen BK104.out 2) | (go_at_call 72; (with_reducible refine (impl_cells.calls k _ _ l1_1 true _ ?side1 ?side2 A9.out).mono ?_); (case side1 => repeat (first | exact (Kd.C_below HR1_1.out HB.out) | (with_reducible refine Kd.C_alloc ?_ _) | (with_reducible refine Kd.C_drewN ?_ _) | (with_reducible refine Kd.C_drew ?_))); (case side2 => exact HC1_1.out); rintro e w15 ⟨rfl, hb⟩; have n0_ := Ak (Qm BK104.out hb); have n1_ := Ak (below_step (Qb HB.out) hb); clear BK104 HB; have BK104 := n0_; have HB := n1_; clear n0_ n1_; (try clear hb); (try clear hb2); (try clear hk); (try clear hi); obtain ⟨hcz16_0, hcz16_1, hcz16_2⟩ := Qu3 BK104.out; have hfz16_0 := blk_frozen BK104.out 0; have hfz16_1 := blk_frozen BK104.out 1; have hfz16_2 := blk_frozen BK104.out 2) | (go_at_call 72; (with_reducible refine (impl_cells.calls k _ _ l1_2 t107 _ ?side1 ?side2 A11.out).mono ?_); (case side1 => repeat (first | exact (Kd.C_below HR1_2.out HB.out) | (with_reducible refine Kd.C_alloc ?_ _) | (with_reducible refine Kd.C_drewN ?_ _) | (with_reducible refine Kd.C_drew ?_))); (case side2 => exact HC1_2.out); rintro e w17 ⟨rfl, hb⟩; have n0_ := Ak (Qm BK104.out hb); have n1_ := Ak (below_step (Qb HB.out) hb); clear BK104 HB; have BK104 := n0_; have HB := n1_; clear n0_ n1_; (try clear hb); (try clear hb2); (try clear hk); (try clear hi)))
       go_ret
       exact ⟨Qh, Qb HB.out⟩
      ·replace c10 := Bool.eq_false_iff.mpr c10
       (try subst c10)
       have H1 : (some false) = some r := by rw [if_neg (show ¬ (false = true) by decide)] at H; exact H
       clear H
       have H := H1
       clear H1
       obtain rfl := Option.some.inj H
       go_enter Try.func41, Try.ntmps41
       go_wp2_with (first | ((with_reducible refine gate_dst (N := 3) rfl ?_); (try (refine gate_guard (by rfl) ?_; dsimp only)); refine Qk 3 #[.int .i64 a1_0, .slice A1_1 l1_1.length c1_1, .slice A1_2 l1_2.length c1_2] 28 ?_; intro gb104 hg w18 hbox hb; have n0_ := Ak (below_step (Qb HB.out) hb); have n1_ := Ak (hbox); have n2_ := Ak ((Qp hg HB.out : w.heap.size ≤ gb104)); have n3_ := Ak ((Qp hg HB.out : w.heap.size ≤ gb104)); clear HB; have HB := n0_; have BK104 := n1_; have GW104 := n2_; have GE104 := n3_; clear n0_ n1_ n2_ n3_; clear hb hbox hg) | ((with_reducible refine gate_callee (f := 71) rfl ?_); refine Qj (some 6) Try.func71 #[.slice A0 l0.length c0] ?_; (with_reducible refine (impl_IsCode.calls k _ _ l0 true _ ?side1 ?side2 A3.out).mono ?_); (case side1 => repeat (first | exact (Kd.C_below HR0.out HB.out) | (with_reducible refine Kd.C_alloc ?_ _) | (with_reducible refine Kd.C_drewN ?_ _) | (with_reducible refine Kd.C_drew ?_))); (case side2 => exact HC0.out); rintro e w19 ⟨rfl, hb⟩; refine ⟨_, rfl, ?_⟩; have n0_ := Ak (Qm BK104.out hb); have n1_ := Ak (below_step (Qb HB.out) hb); clear BK104 HB; have BK104 := n0_; have HB := n1_; clear n0_ n1_; (try clear hb); (try clear hb2); (try clear hk); (try clear hi); obtain ⟨hcz20_0, hcz20_1, hcz20_2⟩ := Qu3 BK104.out; have hfz20_0 := blk_frozen BK104.out 0; have hfz20_1 := blk_frozen BK104.out 1; have hfz20_2 := blk_frozen BK104.out 2) | (go_at_call 72; (with_reducible refine (impl_cells.calls k _ _ l1_1 false _ ?side1 ?side2 A9.out).mono ?_); (case side1 => repeat (first | exact (Kd.C_below HR1_1.out HB.out) | (with_reducible refine Kd.C_alloc ?_ _) | (with_reducible refine Kd.C_drewN ?_ _) | (with_reducible refine Kd.C_drew ?_))); (case side2 => exact HC1_1.out); rintro e w21 ⟨rfl, hb⟩; have n0_ := Ak (Qm BK104.out hb); have n1_ := Ak (below_step (Qb HB.out) hb); clear BK104 HB; have BK104 := n0_; have HB := n1_; clear n0_ n1_; (try clear hb); (try clear hb2); (try clear hk); (try clear hi)))
       go_ret
       exact ⟨Qh, Qb HB.out⟩
     ·rw [if_neg c8] at H
      have c8b0 : ((l1_2.length : Int) == 27) = false := beq_eq_false_iff_ne.mpr c8
      have c8b1 : ((l1_2.length : Int) != 27) = true := bne_iff_ne.mpr c8
      obtain rfl := Option.some.inj H
      go_enter Try.func41, Try.ntmps41
      go_wp2_with (first | ((with_reducible refine gate_dst (N := 3) rfl ?_); (try (refine gate_guard (by rfl) ?_; dsimp only)); refine Qk 3 #[.int .i64 a1_0, .slice A1_1 l1_1.length c1_1, .slice A1_2 l1_2.length c1_2] 28 ?_; intro gb104 hg w22 hbox hb; have n0_ := Ak (below_step (Qb HB.out) hb); have n1_ := Ak (hbox); have n2_ := Ak ((Qp hg HB.out : w.heap.size ≤ gb104)); have n3_ := Ak ((Qp hg HB.out : w.heap.size ≤ gb104)); clear HB; have HB := n0_; have BK104 := n1_; have GW104 := n2_; have GE104 := n3_; clear n0_ n1_ n2_ n3_; clear hb hbox hg) | ((with_reducible refine gate_callee (f := 71) rfl ?_); refine Qj (some 6) Try.func71 #[.slice A0 l0.length c0] ?_; (with_reducible refine (impl_IsCode.calls k _ _ l0 true _ ?side1 ?side2 A3.out).mono ?_); (case side1 => repeat (first | exact (Kd.C_below HR0.out HB.out) | (with_reducible refine Kd.C_alloc ?_ _) | (with_reducible refine Kd.C_drewN ?_ _) | (with_reducible refine Kd.C_drew ?_))); (case side2 => exact HC0.out); rintro e w23 ⟨rfl, hb⟩; refine ⟨_, rfl, ?_⟩; have n0_ := Ak (Qm BK104.out hb); have n1_ := Ak (below_step (Qb HB.out) hb); clear BK104 HB; have BK104 := n0_; have HB := n1_; clear n0_ n1_; (try clear hb); (try clear hb2); (try clear hk); (try clear hi); obtain ⟨hcz24_0, hcz24_1, hcz24_2⟩ := Qu3 BK104.out; have hfz24_0 := blk_frozen BK104.out 0; have hfz24_1 := blk_frozen BK104.out 1; have hfz24_2 := blk_frozen BK104.out 2))
      go_ret
      exact ⟨Qh, Qb HB.out⟩
    ·rw [if_neg c7] at H
     have c7b0 : decide ((l1_1.length : Int) ≤ 20) = false := decide_eq_false c7
     have c7b1 : decide (l1_1.length ≤ 20) = false := decide_eq_false (by omega)
     clear c7
     obtain rfl := Option.some.inj H
     go_enter Try.func41, Try.ntmps41
     go_wp2_with (first | ((with_reducible refine gate_dst (N := 3) rfl ?_); (try (refine gate_guard (by rfl) ?_; dsimp only)); refine Qk 3 #[.int .i64 a1_0, .slice A1_1 l1_1.length c1_1, .slice A1_2 l1_2.length c1_2] 28 ?_; intro gb104 hg w25 hbox hb; have n0_ := Ak (below_step (Qb HB.out) hb); have n1_ := Ak (hbox); have n2_ := Ak ((Qp hg HB.out : w.heap.size ≤ gb104)); have n3_ := Ak ((Qp hg HB.out : w.heap.size ≤ gb104)); clear HB; have HB := n0_; have BK104 := n1_; have GW104 := n2_; have GE104 := n3_; clear n0_ n1_ n2_ n3_; clear hb hbox hg) | ((with_reducible refine gate_callee (f := 71) rfl ?_); refine Qj (some 6) Try.func71 #[.slice A0 l0.length c0] ?_; (with_reducible refine (impl_IsCode.calls k _ _ l0 true _ ?side1 ?side2 A3.out).mono ?_); (case side1 => repeat (first | exact (Kd.C_below HR0.out HB.out) | (with_reducible refine Kd.C_alloc ?_ _) | (with_reducible refine Kd.C_drewN ?_ _) | (with_reducible refine Kd.C_drew ?_))); (case side2 => exact HC0.out); rintro e w26 ⟨rfl, hb⟩; refine ⟨_, rfl, ?_⟩; have n0_ := Ak (Qm BK104.out hb); have n1_ := Ak (below_step (Qb HB.out) hb); clear BK104 HB; have BK104 := n0_; have HB := n1_; clear n0_ n1_; (try clear hb); (try clear hb2); (try clear hk); (try clear hi); obtain ⟨hcz27_0, hcz27_1, hcz27_2⟩ := Qu3 BK104.out; have hfz27_0 := blk_frozen BK104.out 0; have hfz27_1 := blk_frozen BK104.out 1; have hfz27_2 := blk_frozen BK104.out 2))
     go_ret
     exact ⟨Qh, Qb HB.out⟩
   ·rw [if_neg c6] at H
    have c6b0 : decide (a1_0 ≤ (l0.length : Int)) = false := decide_eq_false c6
    clear c6
    obtain rfl := Option.some.inj H
    go_enter Try.func41, Try.ntmps41
    go_wp2_with (first | ((with_reducible refine gate_dst (N := 3) rfl ?_); (try (refine gate_guard (by rfl) ?_; dsimp only)); refine Qk 3 #[.int .i64 a1_0, .slice A1_1 l1_1.length c1_1, .slice A1_2 l1_2.length c1_2] 28 ?_; intro gb104 hg w28 hbox hb; have n0_ := Ak (below_step (Qb HB.out) hb); have n1_ := Ak (hbox); have n2_ := Ak ((Qp hg HB.out : w.heap.size ≤ gb104)); have n3_ := Ak ((Qp hg HB.out : w.heap.size ≤ gb104)); clear HB; have HB := n0_; have BK104 := n1_; have GW104 := n2_; have GE104 := n3_; clear n0_ n1_ n2_ n3_; clear hb hbox hg) | ((with_reducible refine gate_callee (f := 71) rfl ?_); refine Qj (some 6) Try.func71 #[.slice A0 l0.length c0] ?_; (with_reducible refine (impl_IsCode.calls k _ _ l0 true _ ?side1 ?side2 A3.out).mono ?_); (case side1 => repeat (first | exact (Kd.C_below HR0.out HB.out) | (with_reducible refine Kd.C_alloc ?_ _) | (with_reducible refine Kd.C_drewN ?_ _) | (with_reducible refine Kd.C_drew ?_))); (case side2 => exact HC0.out); rintro e w29 ⟨rfl, hb⟩; refine ⟨_, rfl, ?_⟩; have n0_ := Ak (Qm BK104.out hb); have n1_ := Ak (below_step (Qb HB.out) hb); clear BK104 HB; have BK104 := n0_; have HB := n1_; clear n0_ n1_; (try clear hb); (try clear hb2); (try clear hk); (try clear hi); obtain ⟨hcz30_0, hcz30_1, hcz30_2⟩ := Qu3 BK104.out; have hfz30_0 := blk_frozen BK104.out 0; have hfz30_1 := blk_frozen BK104.out 1; have hfz30_2 := blk_frozen BK104.out 2))
    go_ret
    exact ⟨Qh, Qb HB.out⟩
  ·rw [if_neg c5] at H
   have c5b0 : decide (0 ≤ a1_0) = false := decide_eq_false c5
   clear c5
   obtain rfl := Option.some.inj H
   go_enter Try.func41, Try.ntmps41
   go_wp2_with (first | ((with_reducible refine gate_dst (N := 3) rfl ?_); (try (refine gate_guard (by rfl) ?_; dsimp only)); refine Qk 3 #[.int .i64 a1_0, .slice A1_1 l1_1.length c1_1, .slice A1_2 l1_2.length c1_2] 28 ?_; intro gb104 hg w31 hbox hb; have n0_ := Ak (below_step (Qb HB.out) hb); have n1_ := Ak (hbox); have n2_ := Ak ((Qp hg HB.out : w.heap.size ≤ gb104)); have n3_ := Ak ((Qp hg HB.out : w.heap.size ≤ gb104)); clear HB; have HB := n0_; have BK104 := n1_; have GW104 := n2_; have GE104 := n3_; clear n0_ n1_ n2_ n3_; clear hb hbox hg) | ((with_reducible refine gate_callee (f := 71) rfl ?_); refine Qj (some 6) Try.func71 #[.slice A0 l0.length c0] ?_; (with_reducible refine (impl_IsCode.calls k _ _ l0 true _ ?side1 ?side2 A3.out).mono ?_); (case side1 => repeat (first | exact (Kd.C_below HR0.out HB.out) | (with_reducible refine Kd.C_alloc ?_ _) | (with_reducible refine Kd.C_drewN ?_ _) | (with_reducible refine Kd.C_drew ?_))); (case side2 => exact HC0.out); rintro e w32 ⟨rfl, hb⟩; refine ⟨_, rfl, ?_⟩; have n0_ := Ak (Qm BK104.out hb); have n1_ := Ak (below_step (Qb HB.out) hb); clear BK104 HB; have BK104 := n0_; have HB := n1_; clear n0_ n1_; (try clear hb); (try clear hb2); (try clear hk); (try clear hi); obtain ⟨hcz33_0, hcz33_1, hcz33_2⟩ := Qu3 BK104.out; have hfz33_0 := blk_frozen BK104.out 0; have hfz33_1 := blk_frozen BK104.out 1; have hfz33_2 := blk_frozen BK104.out 2))
   go_ret
   exact ⟨Qh, Qb HB.out⟩
 ·replace c4 := Bool.eq_false_iff.mpr c4
  (try subst c4)
  have H1 : (some false) = some r := by rw [if_neg (show ¬ (false = true) by decide)] at H; exact H
  clear H
  have H := H1
  clear H1
  obtain rfl := Option.some.inj H
  go_enter Try.func41, Try.ntmps41
  go_wp2_with (first | ((with_reducible refine gate_dst (N := 3) rfl ?_); (try (refine gate_guard (by rfl) ?_; dsimp only)); refine Qk 3 #[.int .i64 a1_0, .slice A1_1 l1_1.length c1_1, .slice A1_2 l1_2.length c1_2] 28 ?_; intro gb104 hg w34 hbox hb; have n0_ := Ak (below_step (Qb HB.out) hb); have n1_ := Ak (hbox); have n2_ := Ak ((Qp hg HB.out : w.heap.size ≤ gb104)); have n3_ := Ak ((Qp hg HB.out : w.heap.size ≤ gb104)); clear HB; have HB := n0_; have BK104 := n1_; have GW104 := n2_; have GE104 := n3_; clear n0_ n1_ n2_ n3_; clear hb hbox hg) | ((with_reducible refine gate_callee (f := 71) rfl ?_); refine Qj (some 6) Try.func71 #[.slice A0 l0.length c0] ?_; (with_reducible refine (impl_IsCode.calls k _ _ l0 false _ ?side1 ?side2 A3.out).mono ?_); (case side1 => repeat (first | exact (Kd.C_below HR0.out HB.out) | (with_reducible refine Kd.C_alloc ?_ _) | (with_reducible refine Kd.C_drewN ?_ _) | (with_reducible refine Kd.C_drew ?_))); (case side2 => exact HC0.out); rintro e w35 ⟨rfl, hb⟩; refine ⟨_, rfl, ?_⟩; have n0_ := Ak (Qm BK104.out hb); have n1_ := Ak (below_step (Qb HB.out) hb); clear BK104 HB; have BK104 := n0_; have HB := n1_; clear n0_ n1_; (try clear hb); (try clear hb2); (try clear hk); (try clear hi)))
  go_ret
  exact ⟨Qh, Qb HB.out⟩

/-! ### slices_Clone_int_int: function 59 -/
def slices_Clone_int_int.f (l0 : List Int) : Option (List Int) := if l0.length < 17592186044416 then some l0 else none
theorem slices_Clone_int_int.calls (A0 : Option Addr) (c0 : Nat) (l0 : List Int) (r : List Int) (w : World) (hr0 : Kd.C (Kd.int .i64) w A0 l0.length l0) (hc0 : l0.length ≤ c0) (h : slices_Clone_int_int.f l0 = some r) :
  Calls Try.prog 59 #[.slice A0 l0.length c0] w fun e w' => ∃ v0_ : Value, e = .returned (v0_) ∧ Kd.R (Kd.int .i64) 3 w' w.heap.size (fun _ => True) v0_ r ∧ Below w.heap.size w w' := by
 unfold slices_Clone_int_int.f at h
 by_cases hc : l0.length < 17592186044416
 ·rw [if_pos hc] at h
  obtain rfl := Option.some.inj h
  have LM := Ak hc
  have HR0 := Ak hr0
  have HC0 := Ak hc0
  have HB := Ak (Below.refl w.heap.size w)
  clear h hc
  have hnil : ∀ (a : Option Addr) (n c : Nat) (W : World), (Go.binOp .eql 23 (.slice a n c) (.slice none 0 0)).run Try.prog W = .ok (.bool a.isNone) W := fun a n c W => Lib.run_eql_slice_nil W 23 3 a n c 0 0 Try.underlying23
  cases A0 with
  | none =>
   have hl : l0 = [] := by
    rcases Nat.eq_zero_or_pos l0.length with h | h
    ·exact List.length_eq_zero_iff.1 h
    ·obtain ⟨ad, e, _⟩ := Kd.at_int hr0 0 (by omega) (by omega)
     cases e
   clear hr0 hc0
   go_enter Try.func59, Try.ntmps59
   go_wp2
   go_ret
   exact ⟨_, rfl, by rw [hl]; exact Kd.R_nil _ _ _ _ _, HB.out⟩
  | some ad =>
   clear hr0 hc0
   go_enter Try.func59, Try.ntmps59
   go_wp2_with (first | ((with_reducible refine gate_dst (N := 5) rfl ?_); refine Kd.R_lit (Kd.int .i64) _ 3 ?hg (N := 5) ?hd (xs := ([] : List Int)) (inner := []) (ok := fun _ => True) (okp := fun _ => True) ?hr ?hp (fun _ hk => hk) trivial (Below.refl _ _) (Nat.le_refl _) (by simp) ?_; (case hd => rfl); (case hg => rfl); (case hr => first | (go_simp; done) | (go_simp; rfl)); (case hp => exact (Reps.none _ _)); intro v129 w3 ho4 hb hg_ hnew_; clear hg_ hnew_; have n0_ := Ak (Kd.R_lower ho4 (below_size (Qb HB.out))); have n1_ := Ak (below_step (Qb HB.out) hb); clear HB; have HO130 := n0_; have HB := n1_; clear n0_ n1_; clear hb ho4) | ((with_reducible refine gate_builtin (b := .append) (xs := #[.tmp 5, .tmp 6]) rfl ?_); at_builtin; refine Kd.R_append_rows (Kd.int .i64) (w0 := w) w.heap.size rfl (.tmp 5) (.tmp 6) 23 3 (.int .i64 0) 8 rfl Try.underlying23 info3 rfl (by decide) (by omega) v129 ([] : List Int) l0 _ _ _ (fun _ => True) (fun _ => False) rfl rfl ?aO ?aR (fun _ _ h => h) (fun _ h => h.elim) ?aF ?aB ?aS ?aL ?_; (case aR => repeat (first | exact (Kd.C_below HR0.out HB.out) | (with_reducible refine Kd.C_alloc ?_ _) | (with_reducible refine Kd.C_drewN ?_ _) | (with_reducible refine Kd.C_drew ?_))); (case aB => exact (Qb HB.out)); (case aF => exact (fun _ _ => trivial)); (case aO => exact (Qc HO130.out)); (case aS => exact (below_size (Qb HB.out))); (case aL => have := LM.out; simp only [List.length_nil]; omega); intro v132 w5 ho hb hg hat; have n0_ := Ak (hb); have n1_ := Ak (ho); clear HB HO130; have HB := n0_; have HO133 := n1_; clear n0_ n1_; clear ho hb hg hat))
   go_ret
   exact ⟨_, rfl, by (have h_ := HO133.out; rw [List.nil_append] at h_; exact h_), HB.out⟩
 ·rw [if_neg hc] at h
  exact absurd h (by simp)

/-! ### impl_copyMachine: function 42 -/
def impl_copyMachine.f (a0_0 : Int) (l0_1 : List Int) (l0_2 : List Int) : Option (Int × List Int × List Int) := (slices_Clone_int_int.f l0_1).bind fun t110 => ((slices_Clone_int_int.f l0_2).bind fun t113 => (some (a0_0, t110, t113)))
def impl_copyMachine.T1 : Bool × List (List Nat × List Nat) := (true, [([], []), ([0], [0]), ([], []), ([2], [2]), ([3], [3]), ([], []), ([5], [5]), ([6, 4], [6]), ([1, 4, 7], [1, 4, 7]), ([8, 7, 0, 1, 2, 3, 4, 5, 6, 7, 8], [8])])
def impl_copyMachine.B1 : List Nat := [0, 1, 0, 4, 12, 0, 32, 124, 255, 511]
theorem impl_copyMachine.tab1 : rtab .any (opsOf Try.f42 1) = impl_copyMachine.T1 := by kernel_rfl
theorem impl_copyMachine.bits1 : waitsOk impl_copyMachine.T1.2 impl_copyMachine.B1 = true := by kernel_rfl
theorem impl_copyMachine.calls (a0_0 : Int) (A0_1 : Option Addr) (c0_1 : Nat) (l0_1 : List Int) (A0_2 : Option Addr) (c0_2 : Nat) (l0_2 : List Int) (r1 : Int) (r2 : List Int) (r3 : List Int) (w : World) (hr0_1 : Kd.C (Kd.int .i64) w A0_1 l0_1.length l0_1) (hc0_1 : l0_1.length ≤ c0_1) (hr0_2 : Kd.C (Kd.int .i64) w A0_2 l0_2.length l0_2) (hc0_2 : l0_2.length ≤ c0_2) (h : impl_copyMachine.f a0_0 l0_1 l0_2 = some (r1, r2, r3)) :
  Calls Try.prog 42 #[.agg #[.int .i64 a0_0, .slice A0_1 l0_1.length c0_1, .slice A0_2 l0_2.length c0_2]] w fun e w' => ∃ v1_ v2_ : Value, e = .returned (.agg #[.int .i64 r1, v1_, v2_]) ∧ Kd.R (Kd.int .i64) 3 w' w.heap.size (fun k_ => some k_ ≠ (v2_ : Value).ownBlock) v1_ r2 ∧ Kd.R (Kd.int .i64) 3 w' w.heap.size (fun k_ => some k_ ≠ (v1_ : Value).ownBlock) v2_ r3 ∧ Below w.heap.size w w' := by
 have hu28 := Try.underlying28
 have HR0_1 := Ak hr0_1
 have HC0_1 := Ak hc0_1
 clear hr0_1 hc0_1
 have HR0_2 := Ak hr0_2
 have HC0_2 := Ak hc0_2
 clear hr0_2 hc0_2
 have HB := Ak (Below.refl w.heap.size w)
 have H : ((slices_Clone_int_int.f l0_1).bind fun t110 => ((slices_Clone_int_int.f l0_2).bind fun t113 => (some (a0_0, t110, t113)))) = some (r1, r2, r3) := h
 clear h
 replace H := Option.bind_eq_some_iff.mp H
 obtain ⟨t110, A20, H⟩ := H
 replace H : ((slices_Clone_int_int.f l0_2).bind fun t113 => (some (a0_0, t110, t113))) = some (r1, r2, r3) := H
 have A2 := Ak A20
 clear A20
 replace H := Option.bind_eq_some_iff.mp H
 obtain ⟨t113, A30, H⟩ := H
 replace H : (some (a0_0, t110, t113)) = some (r1, r2, r3) := H
 have A3 := Ak A30
 clear A30
 simp only [Option.some.injEq, Prod.mk.injEq] at H
 obtain ⟨rfl, rfl, rfl⟩ := H
 go_enter Try.func42, Try.ntmps42
 try go_wp2_with (first | ((with_reducible refine gate_dst (N := 1) rfl ?_); refine Qk 1 #[.int .i64 a0_0, .slice A0_1 l0_1.length c0_1, .slice A0_2 l0_2.length c0_2] 28 ?_; intro gb108 hg w4 hbox hb; have n0_ := Ak (below_step (Qb HB.out) hb); have n1_ := Ak (hbox); have n2_ := Ak ((Qp hg HB.out : w.heap.size ≤ gb108)); have n3_ := Ak ((Qp hg HB.out : w.heap.size ≤ gb108)); clear HB; have HB := n0_; have BK108 := n1_; have GW108 := n2_; have GE108 := n3_; clear n0_ n1_ n2_ n3_; clear hb hbox hg) | ((with_reducible refine gate_dst (N := 2) rfl ?_); refine Qk 2 #[.int .i64 0, .slice none 0 0, .slice none 0 0] 28 ?_; intro gb109 hg w5 hbox hb; have n0_ := Ak (Qm BK108.out hb); have n1_ := Ak (below_step (Qb HB.out) hb); have n2_ := Ak (hbox); have n3_ := Ak ((Qp hg HB.out : w.heap.size ≤ gb109)); have n4_ := Ak ((Qp hg HB.out : w.heap.size ≤ gb109)); have n5_ := Ak ((by rw [hg]; exact Nat.ne_of_lt (Qn BK108.out) : gb108 ≠ gb109)); have n6_ := Ak ((by rw [hg]; exact Nat.ne_of_gt (Qn BK108.out) : gb109 ≠ gb108)); clear BK108 HB; have BK108 := n0_; have HB := n1_; have BK109 := n2_; have GW109 := n3_; have GE109 := n4_; have NB108_109 := n5_; have NB109_108 := n6_; clear n0_ n1_ n2_ n3_ n4_ n5_ n6_; clear hb hbox hg))
 have n0_ := Ak (blk_drew BK108.out)
 have n1_ := Ak (blk_drew BK109.out)
 have n2_ := Ak (below_drew1 HB.out)
 clear BK108 BK109 HB
 have BK108 := n0_
 have BK109 := n1_
 have HB := n2_
 clear n0_ n1_ n2_
 refine start_ (n := 10) (S := fun w' => w'.cell? ⟨gb108, 0, none⟩ = some (.int .i64 a0_0) ∧ w'.cell? ⟨gb108, 1, none⟩ = some (.slice A0_1 l0_1.length c0_1) ∧ w'.cell? ⟨gb108, 2, none⟩ = some (.slice A0_2 l0_2.length c0_2)) (ds := []) #[false, false, false, false, false, false, false, false, false, false] (by kernel_rfl) rfl rfl ⟨(blk_cell BK108.out 0).trans rfl, (blk_cell BK108.out 1).trans rfl, (blk_cell BK108.out 2).trans rfl⟩ (fun hHeld => ?_); refine with_tabW impl_copyMachine.tab1 impl_copyMachine.bits1 (fun HT_ HW_ => ?_)
 generalize w5.drew = w6 at BK108 BK109 HB hHeld ⊢
 refine Qq 0 (some 3) ?_
 refine Qq 2 (some 5) ?_
 refine Qq 5 (some 8) ?_
 refine Qr 1 (some 4) hHeld ?_
 refine Qr 3 (some 6) hHeld ?_
 refine Qr 6 (some 9) hHeld ?_
 refine Qs 4 (some 7) (fun K hK => ?_)
 refine goes_ Try.func59 (by kernel_rfl) rfl #[.slice A0_1 l0_1.length c0_1] (by rfl) rfl rfl (by (try simp only [List.map_toArray, List.map_cons, List.map_nil]); first | done | rfl | (simp only [List.length_drop, List.length_take]; rfl)) ?_
 with_reducible refine (slices_Clone_int_int.calls _ _ l0_1 t110 _ ?side1 ?side2 A2.out).mono ?_
 (case side1 => repeat (first | exact (Kd.C_below HR0_1.out HB.out) | (with_reducible refine Kd.C_alloc ?_ _) | (with_reducible refine Kd.C_drewN ?_ _) | (with_reducible refine Kd.C_drew ?_)))
 (case side2 => exact HC0_1.out)
 rintro e w7 ⟨v111, rfl, ho0, hb⟩
 refine ⟨_, rfl, ?_⟩
 have n0_ := Ak (Kd.R_lower ho0 (below_size (Qb HB.out)))
 have n1_ := Ak (Qm BK108.out hb)
 have n2_ := Ak (Qm BK109.out hb)
 have n3_ := Ak (below_step (Qb HB.out) hb)
 clear BK108 BK109 HB
 have HO112 := n0_
 have BK108 := n1_
 have BK109 := n2_
 have HB := n3_
 clear n0_ n1_ n2_ n3_
 (try clear hb); (try clear hb2); (try clear hk); (try clear hi); (try clear ho0)
 refine hK.out _ _ ⟨(blk_cell BK108.out 0).trans rfl, (blk_cell BK108.out 1).trans rfl, (blk_cell BK108.out 2).trans rfl⟩ (fun hHeld => ?_)
 clear hK K
 refine norm_ (a' := ?_) ?_ ?_
 rotate_left
 ·show Act.put _ (some 7) _ = _
  simp only [Act.put, List.setIfInBounds_toArray, List.set_cons_zero, List.set_cons_succ, i64_w, i32_w]
  rfl
 refine Qs 7 (some 10) (fun K hK => ?_)
 refine goes_ Try.func59 (by kernel_rfl) rfl #[.slice A0_2 l0_2.length c0_2] (by rfl) rfl rfl (by (try simp only [List.map_toArray, List.map_cons, List.map_nil]); first | done | rfl | (simp only [List.length_drop, List.length_take]; rfl)) ?_
 with_reducible refine (slices_Clone_int_int.calls _ _ l0_2 t113 _ ?side1 ?side2 A3.out).mono ?_
 (case side1 => repeat (first | exact (Kd.C_below HR0_2.out HB.out) | (with_reducible refine Kd.C_alloc ?_ _) | (with_reducible refine Kd.C_drewN ?_ _) | (with_reducible refine Kd.C_drew ?_)))
 (case side2 => exact HC0_2.out)
 rintro e w8 ⟨v114, rfl, ho0, hb⟩
 refine ⟨_, rfl, ?_⟩
 have n0_ := Ak (Kd.R_elder' (Qc HO112.out) (Kd.R_base ho0) hb)
 have n1_ := Ak (Kd.R_lower (Kd.R_new' ho0 (Kd.R_lt (Qc HO112.out))) (below_size (Qb HB.out)))
 have n2_ := Ak (Qm BK108.out hb)
 have n3_ := Ak (Qm BK109.out hb)
 have n4_ := Ak (below_step (Qb HB.out) hb)
 clear HO112 BK108 BK109 HB
 have HO112 := n0_
 have HO115 := n1_
 have BK108 := n2_
 have BK109 := n3_
 have HB := n4_
 clear n0_ n1_ n2_ n3_ n4_
 (try clear hb); (try clear hb2); (try clear hk); (try clear hi); (try clear ho0)
 obtain ⟨Ao9, co9, eo9⟩ := Kd.R_slice HO115.out
 (first | subst eo9 | (injection eo9 with f1_ f2_ f3_; have f4_ := f1_.symm; have f5_ := f3_.symm; clear f1_ f2_ f3_; subst f4_; subst f5_))
 obtain ⟨Ao10, co10, eo10⟩ := Kd.R_slice HO112.out
 (first | subst eo10 | (injection eo10 with f1_ f2_ f3_; have f4_ := f1_.symm; have f5_ := f3_.symm; clear f1_ f2_ f3_; subst f4_; subst f5_))
 refine hK.out _ _ ⟨(blk_cell BK108.out 0).trans rfl, (blk_cell BK108.out 1).trans rfl, (blk_cell BK108.out 2).trans rfl⟩ (fun hHeld => ?_)
 clear hK K
 refine norm_ (a' := ?_) ?_ ?_
 rotate_left
 ·show Act.put _ (some 10) _ = _
  simp only [Act.put, List.setIfInBounds_toArray, List.set_cons_zero, List.set_cons_succ, i64_w, i32_w]
  rfl
 refine Qq 8 (some 11) ?_
 refine Qs 9 none (fun K hK => ?_)
 have hs11 : w8.cell? ⟨gb109, 0, none⟩ = some (.int .i64 0) := (blk_cell BK109.out 0).trans rfl
 have hfs11 := blk_frozen BK109.out 0
 have hns11_0 := NB108_109.out
 have hms11_0 := NB109_108.out
 have hs12 : w8.cell? ⟨gb109, 1, none⟩ = some (.slice none 0 0) := (blk_cell BK109.out 1).trans rfl
 have hfs12 := blk_frozen BK109.out 1
 have hns12_0 := NB108_109.out
 have hms12_0 := NB109_108.out
 have hs13 : w8.cell? ⟨gb109, 2, none⟩ = some (.slice none 0 0) := (blk_cell BK109.out 2).trans rfl
 have hfs13 := blk_frozen BK109.out 2
 have hns13_0 := NB108_109.out
 have hms13_0 := NB109_108.out
 refine skip_ (w1 := ?_) (by rfl) rfl ?_ ?_
 rotate_left
 ·go_simp
  rfl
 refine hK.out _ _ ⟨((cell_far (p := ⟨gb109, _, none⟩) NB108_109.out _).trans (((cell_far (p := ⟨gb109, _, none⟩) NB108_109.out _).trans (((cell_far (p := ⟨gb109, _, none⟩) NB108_109.out _).trans (hHeld.1)))))), ((cell_far (p := ⟨gb109, _, none⟩) NB108_109.out _).trans (((cell_far (p := ⟨gb109, _, none⟩) NB108_109.out _).trans (((cell_far (p := ⟨gb109, _, none⟩) NB108_109.out _).trans (hHeld.2.1)))))), ((cell_far (p := ⟨gb109, _, none⟩) NB108_109.out _).trans (((cell_far (p := ⟨gb109, _, none⟩) NB108_109.out _).trans (((cell_far (p := ⟨gb109, _, none⟩) NB108_109.out _).trans (hHeld.2.2))))))⟩ (fun hHeld => ?_)
 clear hK K
 refine done_ (done_of HT_.out (by kernel_rfl)) ?_
 try go_wp2
 refine bodyPost_ret (results_cell_row rfl _ _ gb109 28 #[.int .i64 a0_0, .slice Ao10 t110.length co10, .slice Ao9 t113.length co9] (0, 0) _ rfl (by refine Qe ?_; refine blk_put (cs := #[.int .i64 a0_0, .slice Ao10 t110.length co10, .slice none 0 0]) ?_ 2 _ rfl; refine Qe ?_; refine blk_put (cs := #[.int .i64 a0_0, .slice none 0 0, .slice none 0 0]) ?_ 1 _ rfl; refine Qe ?_; refine blk_put (cs := #[.int .i64 0, .slice none 0 0, .slice none 0 0]) ?_ 0 _ rfl; exact Qa BK109.out) Try.underlying28 rfl (by kernel_rfl)) rfl ?_
 exact ⟨_, _, Qh, by refine Qf ?_; exact Kd.R_mono (Kd.R_far (p := ⟨gb109, 2, none⟩) (Kd.R_far (p := ⟨gb109, 1, none⟩) (Kd.R_far (p := ⟨gb109, 0, none⟩) (Kd.R_types HO112.out BK109.out (by decide)) (fun _ hk => hk.2) (.int .i64 a0_0)) (fun _ hk => hk.2) (.slice Ao10 t110.length co10)) (fun _ hk => hk.2) (.slice Ao9 t113.length co9)) (fun _ hk => hk.1.2), by refine Qf ?_; exact Kd.R_mono (Kd.R_far (p := ⟨gb109, 2, none⟩) (Kd.R_far (p := ⟨gb109, 1, none⟩) (Kd.R_far (p := ⟨gb109, 0, none⟩) (Kd.R_types HO115.out BK109.out (by decide)) (fun _ hk => hk.2) (.int .i64 a0_0)) (fun _ hk => hk.2) (.slice Ao10 t110.length co10)) (fun _ hk => hk.2) (.slice Ao9 t113.length co9)) (fun _ hk => hk.1.2), Qb HB.out⟩

/-! ### impl_size: function 74 -/
def impl_size.f (a0 : Int) : Option (Int) := some (mx a0 (wrap64 (-a0)))
theorem impl_size.calls (a0 : Int) (r : Int) (w : World) (h : impl_size.f a0 = some r) :
  Calls Try.prog 74 #[.int .i64 a0] w fun e w' => e = .returned (.int .i64 r) ∧ Below w.heap.size w w' := by
 have HB := Ak (Below.refl w.heap.size w)
 have H : (some (mx a0 (wrap64 (-a0)))) = some r := h
 clear h
 obtain ⟨ji2, hji2⟩ : ∃ j_ : Int, (mx a0 (wrap64 (-a0))) = j_ := ⟨_, rfl⟩
 replace H : (some ji2) = some r := by first | (rw [hji2] at H; exact H) | (simp only [hji2] at H ⊢; exact H)
 have hji2_ : (if a0 < (wrap64 (-a0)) then (wrap64 (-a0)) else a0) = ji2 := hji2
 obtain rfl := Option.some.inj H
 go_enter Try.func74, Try.ntmps74
 go_wp2
 go_ret
 exact ⟨by first | rfl | (simp [errW_none, errW_some] <;> rfl) | (simp only [← hji2]; first | rfl | (simp [errW_none, errW_some] <;> rfl)) | (simp [*, errW_none, errW_some] <;> rfl), Qb HB.out⟩

end Go.Proofs.Ytlmiankjbffboaa.HFnBranched
