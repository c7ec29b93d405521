/- Text for FnExactFormatCode: written by a program of this session on the pattern of the kit's print. -/
import Derived.Test.YtjfgcipbbcplmaaDoorHFnExactFormatCodex0
import Derived.Test.YtjfgcipbbcplmaaDoorHFnExactFormatCodex4
namespace Go.Proofs.YtjfgcipbbcplmaaDoor.HFnExactFormatCode
set_option maxHeartbeats 8000000
set_option maxRecDepth 100000
open Go.RowKit Go.Proofs.YtjfgcipbbcplmaaDoorW.PrintWords Go.Proofs.YtjfgcipbbcplmaaDoorW.PrintLast Go.Proofs.YtjfgcipbbcplmaaDoorW.PrintMore
attribute [local go_sem] max2_int min2_int max_two min_two max_three min_three max_four min_four
set_option linter.unusedVariables false
set_option linter.unusedSimpArgs false

/-! ### impl_backwards: function 79 -/
def impl_backwards.f (k : Nat) (l0 : List Int) : Option (List Int) := (slices_Clone_int_int.f l0).bind fun t198 => ((slices_Reverse_int_int.f k t198).bind fun t201 => (some t201))
theorem impl_backwards.mono : ∀ a0 k, LeO (impl_backwards.f k a0) (impl_backwards.f (k + 1) a0) := by
 intro a0 k
 unfold impl_backwards.f
 repeat' first
   | (with_reducible exact slices_Reverse_int_int.mono _ _)
   | (with_reducible exact LeO.refl _)
   | (with_reducible exact LeO.none _)
   | (with_reducible refine LeO.ite ?_ ?_)
   | (with_reducible refine LeO.bind ?_ (fun _ => ?_))
   | exact slices_Reverse_int_int.mono _ _
   | exact LeO.none _
   | refine LeO.ite ?_ ?_
   | refine LeO.bind ?_ (fun _ => ?_)
theorem impl_backwards.calls (k : Nat) (A0 : Option Addr) (c0 : Nat) (l0 : List Int) (r : List Int) (w : World) (hr0 : Kd.C (Kd.int .i64) w A0 l0.length l0) (hc0 : l0.length ≤ c0) (h : impl_backwards.f k l0 = some r) :
  Calls Tryd.prog 79 #[.slice A0 l0.length c0] w fun e w' => ∃ v0_ : Value, e = .returned (v0_) ∧ Kd.R (Kd.int .i64) 3 w' w.heap.size (fun _ => True) v0_ r ∧ Below w.heap.size w w' := by
 have HR0 := Ak hr0
 have HC0 := Ak hc0
 clear hr0 hc0
 have HB := Ak (Below.refl w.heap.size w)
 have H : ((slices_Clone_int_int.f l0).bind fun t198 => ((slices_Reverse_int_int.f k t198).bind fun t201 => (some t201))) = some r := h
 clear h
 replace H := Option.bind_eq_some_iff.mp H
 obtain ⟨t198, A20, H⟩ := H
 replace H : ((slices_Reverse_int_int.f k t198).bind fun t201 => (some t201)) = some r := H
 have A2 := Ak A20
 clear A20
 replace H := Option.bind_eq_some_iff.mp H
 obtain ⟨t201, A30, H⟩ := H
 replace H : (some t201) = some r := H
 have A3 := Ak A30
 clear A30
 obtain rfl := Option.some.inj H
 go_enter Tryd.func79, Tryd.ntmps79
 go_wp2_with (first | ((with_reducible refine gate_callee (f := 117) rfl ?_); refine Qj (some 5) Tryd.func117 #[.slice A0 l0.length c0] ?_; (with_reducible refine (slices_Clone_int_int.calls _ _ l0 t198 _ ?side1 ?side2 A2.out).mono ?_); (case side1 => repeat (first | exact HR0.out | (with_reducible refine Kd.C_alloc ?_ _) | (with_reducible refine Kd.C_drewN ?_ _) | (with_reducible refine Kd.C_drew ?_))); (case side2 => exact HC0.out); rintro e w4 ⟨v199, rfl, ho0, hb⟩; refine ⟨_, rfl, ?_⟩; have n0_ := Ak (Kd.R_lower ho0 (below_size (Qb HB.out))); have n1_ := Ak (below_step (Qb HB.out) hb); clear HB; have HO200 := n0_; have HB := n1_; clear n0_ n1_; (try clear hb); (try clear hb2); (try clear hk); (try clear hi); (try clear ho0); obtain ⟨Ao5, co5, eo5⟩ := Kd.R_slice HO200.out; subst eo5) | ((with_reducible refine gate_callee (f := 118) rfl ?_); refine Qj (some 7) Tryd.func118 #[.slice Ao5 t198.length co5] ?_; (with_reducible refine (slices_Reverse_int_int.calls k (fun k_ => some k_ = (.slice Ao5 t198.length co5 : Value).ownBlock) (.slice Ao5 t198.length co5) t198 t201 w _ ?side1 ?side2 A3.out).mono ?_); (case side1 => repeat (first | (with_reducible first | exact HB.out | apply below_alloc | apply pw_below_drewN | apply below_drew1) | exact HB.out)); (case side2 => exact Kd.R_tight rfl HO200.out); rintro e w6 ⟨rfl, hy0, hb, hkp⟩; refine ⟨_, rfl, ?_⟩; have n0_ := Ak (Kd.R_reok rfl hy0 (fun k_ e_ => HO200.out.1 k_ e_)); have n1_ := Ak (hb); clear HO200 HB; have HO200 := n0_; have HB := n1_; clear n0_ n1_; (try clear hb); (try clear hkp); (try clear hy0)))
 go_ret
 exact ⟨_, Qh, by refine Qf ?_; exact HO200.out, Qb HB.out⟩

/-! ### impl_FormatWord: function 35 -/
def impl_FormatWord.f (k : Nat) (l0 : List Int) : Option (ByteArray) := (impl_IsWord.f k l0).bind fun t202 => (if t202 = true then ((impl_backwards.f k l0).bind fun t203 => ((impl_tritBytes.f k t203).bind fun t206 => (some t206))) else (some (⟨#[]⟩ : ByteArray)))
theorem impl_FormatWord.mono : ∀ a0 k, LeO (impl_FormatWord.f k a0) (impl_FormatWord.f (k + 1) a0) := by
 intro a0 k
 unfold impl_FormatWord.f
 repeat' first
   | (with_reducible exact impl_IsWord.mono _ _)
   | (with_reducible exact impl_backwards.mono _ _)
   | (with_reducible exact impl_tritBytes.mono _ _)
   | (with_reducible exact LeO.refl _)
   | (with_reducible exact LeO.none _)
   | (with_reducible refine LeO.ite ?_ ?_)
   | (with_reducible refine LeO.bind ?_ (fun _ => ?_))
   | exact impl_IsWord.mono _ _
   | exact impl_backwards.mono _ _
   | exact impl_tritBytes.mono _ _
   | exact LeO.none _
   | refine LeO.ite ?_ ?_
   | refine LeO.bind ?_ (fun _ => ?_)
theorem impl_FormatWord.calls (k : Nat) (A0 : Option Addr) (c0 : Nat) (l0 : List Int) (r : ByteArray) (w : World) (hr0 : Kd.C (Kd.int .i64) w A0 l0.length l0) (hc0 : l0.length ≤ c0) (h : impl_FormatWord.f k l0 = some r) :
  Calls Tryd.prog 35 #[.slice A0 l0.length c0] w fun e w' => e = .returned (.string r) ∧ Below w.heap.size w w' := by
 have HR0 := Ak hr0
 have HC0 := Ak hc0
 clear hr0 hc0
 have HB := Ak (Below.refl w.heap.size w)
 have H : ((impl_IsWord.f k l0).bind fun t202 => (if t202 = true then ((impl_backwards.f k l0).bind fun t203 => ((impl_tritBytes.f k t203).bind fun t206 => (some t206))) else (some (⟨#[]⟩ : ByteArray)))) = some r := h
 clear h
 replace H := Option.bind_eq_some_iff.mp H
 obtain ⟨t202, A20, H⟩ := H
 replace H : (if t202 = true then ((impl_backwards.f k l0).bind fun t203 => ((impl_tritBytes.f k t203).bind fun t206 => (some t206))) else (some (⟨#[]⟩ : ByteArray))) = some r := H
 have A2 := Ak A20
 clear A20
 by_cases c3 : t202 = true
 ·(try subst c3)
  have H1 : ((impl_backwards.f k l0).bind fun t203 => ((impl_tritBytes.f k t203).bind fun t206 => (some t206))) = some r := by rw [if_pos rfl] at H; exact H
  clear H
  have H := H1
  clear H1
  replace H := Option.bind_eq_some_iff.mp H
  obtain ⟨t203, A40, H⟩ := H
  replace H : ((impl_tritBytes.f k t203).bind fun t206 => (some t206)) = some r := H
  have A4 := Ak A40
  clear A40
  replace H := Option.bind_eq_some_iff.mp H
  obtain ⟨t206, A50, H⟩ := H
  replace H : (some t206) = some r := H
  have A5 := Ak A50
  clear A50
  obtain rfl := Option.some.inj H
  go_enter Tryd.func35, Tryd.ntmps35
  go_wp2_with (first | ((with_reducible refine gate_callee (f := 76) rfl ?_); refine Qj (some 4) Tryd.func76 #[.slice A0 l0.length c0] ?_; (with_reducible refine (impl_IsWord.calls k _ _ l0 true _ ?side1 ?side2 A2.out).mono ?_); (case side1 => repeat (first | exact HR0.out | (with_reducible refine Kd.C_alloc ?_ _) | (with_reducible refine Kd.C_drewN ?_ _) | (with_reducible refine Kd.C_drew ?_))); (case side2 => exact HC0.out); rintro e w' ⟨rfl, ⟨nd, rfl⟩⟩; refine ⟨_, rfl, ?_⟩) | ((with_reducible refine gate_callee (f := 79) rfl ?_); refine Qj (some 7) Tryd.func79 #[.slice A0 l0.length c0] ?_; (with_reducible refine (impl_backwards.calls k _ _ l0 t203 _ ?side1 ?side2 A4.out).mono ?_); (case side1 => repeat (first | exact HR0.out | (with_reducible refine Kd.C_alloc ?_ _) | (with_reducible refine Kd.C_drewN ?_ _) | (with_reducible refine Kd.C_drew ?_))); (case side2 => exact HC0.out); rintro e w6 ⟨v204, rfl, ho0, hb⟩; refine ⟨_, rfl, ?_⟩; have n0_ := Ak (Kd.R_lower ho0 (below_size (Qb HB.out))); have n1_ := Ak (below_step (Qb HB.out) hb); clear HB; have HO205 := n0_; have HB := n1_; clear n0_ n1_; (try clear hb); (try clear hb2); (try clear hk); (try clear hi); (try clear ho0); obtain ⟨Ao7, co7, eo7⟩ := Kd.R_slice HO205.out; subst eo7) | ((with_reducible refine gate_callee (f := 78) rfl ?_); refine Qj (some 8) Tryd.func78 #[.slice Ao7 t203.length co7] ?_; (with_reducible refine (impl_tritBytes.calls k _ _ t203 t206 _ ?side1 ?side2 A5.out).mono ?_); (case side1 => repeat (first | exact (Kd.R_reads' HO205.out).2.2 | (with_reducible refine Kd.C_alloc ?_ _) | (with_reducible refine Kd.C_drewN ?_ _) | (with_reducible refine Kd.C_drew ?_))); (case side2 => exact (Kd.R_reads' HO205.out).2.1); rintro e w8 ⟨rfl, hb⟩; refine ⟨_, rfl, ?_⟩; have n0_ := Ak (Kd.R_below (Qc HO205.out) hb); have n1_ := Ak (below_step (Qb HB.out) hb); clear HO205 HB; have HO205 := n0_; have HB := n1_; clear n0_ n1_; (try clear hb); (try clear hb2); (try clear hk); (try clear hi)))
  go_ret
  exact ⟨Qh, Qb HB.out⟩
 ·replace c3 := Bool.eq_false_iff.mpr c3
  (try subst c3)
  have H1 : (some (⟨#[]⟩ : ByteArray)) = some r := by rw [if_neg (show ¬ (false = true) by decide)] at H; exact H
  clear H
  have H := H1
  clear H1
  obtain rfl := Option.some.inj H
  go_enter Tryd.func35, Tryd.ntmps35
  go_wp2_with (first | ((with_reducible refine gate_callee (f := 76) rfl ?_); refine Qj (some 4) Tryd.func76 #[.slice A0 l0.length c0] ?_; (with_reducible refine (impl_IsWord.calls k _ _ l0 false _ ?side1 ?side2 A2.out).mono ?_); (case side1 => repeat (first | exact HR0.out | (with_reducible refine Kd.C_alloc ?_ _) | (with_reducible refine Kd.C_drewN ?_ _) | (with_reducible refine Kd.C_drew ?_))); (case side2 => exact HC0.out); rintro e w' ⟨rfl, ⟨nd, rfl⟩⟩; refine ⟨_, rfl, ?_⟩))
  go_ret
  exact ⟨Qh, Qb HB.out⟩

/-! ### impl_Op_134: function 134 -/
set_option maxHeartbeats 2000000 in
theorem index134 (g : Nat) (lb : Array Value) (p : Nat → Bool) (x0 x1 x2 x3 : Nat → Value) (eg : ∀ args w, (callFunc g args).run Tryd.prog w = .ok (.enter g args) w) (A : Option Addr) (n c : Nat) (w : World)
  (hn : n ≤ 9223372036854775807) (hv : ∀ W, Below w.heap.size w W → ∀ j, j < n → ∃ ad, A = some ad ∧ W.cell? (ad.add (j * 4)) = some (x0 j) ∧ W.cell? ⟨(ad.add (j * 4)).block, (ad.add (j * 4)).off + 1, none⟩ = some (x1 j) ∧ W.cell? ⟨(ad.add (j * 4)).block, (ad.add (j * 4)).off + 2, none⟩ = some (x2 j) ∧ W.cell? ⟨(ad.add (j * 4)).block, (ad.add (j * 4)).off + 3, none⟩ = some (x3 j))
  (hp : ∀ (W : World) (j : Nat), Below w.heap.size w W → j < n → Calls Tryd.prog g (#[.agg #[x0 j, x1 j, x2 j, x3 j]] ++ lb) W fun e w' => e = .returned (.bool (p j)) ∧ Below w.heap.size w w') :
  Calls Tryd.prog 134 #[.slice A n c, .func (.func g) #[] lb] w fun e w' => e = .returned (.int .i64 (Go.Proofs.YtjfgcipbbcplmaaDoor.Any.fstP p 0 n)) ∧ Below w.heap.size w w' := by
 go_enter Tryd.func134, Tryd.ntmps134
 go_wp2
 go_loopg [5, 8] n (fun gg _ s8 wr => ∃ kk : Nat, kk ≤ n ∧ n - kk ≤ gg ∧ s8 = .int .i64 kk ∧ Aside (Below w.heap.size w wr) ∧ Aside (∀ j, j < kk → p j = false))
 case atStart => exact ⟨0, Nat.zero_le _, by omega, rfl, Below.refl _ w, fun j hj => absurd hj (Nat.not_lt_zero _)⟩
 case round =>
  obtain ⟨kk, hkk, hg, rfl, BW, A0⟩ := hrel
  by_cases hlt : kk < n
  ·have hltz : (kk : Int) < (n : Int) := by omega
   obtain ⟨ad, rfl, l2, l3, l4, l5⟩ := hv wr BW.out kk hlt
   have hcall := hp wr kk BW.out hlt
   clear hv hp
   have hq : ∃ y, p kk = y := ⟨_, rfl⟩
   obtain ⟨y, hy⟩ := hq
   have B : Aside (p kk = y) := hy
   rw [hy] at hcall
   clear hy
   cases y with
   | true =>
    go_wp2
    refine hcall.mono ?_
    rintro e w' ⟨rfl, hb'⟩
    go_wp2
    go_ret
    refine ⟨?_, hb'⟩
    rw [Go.Proofs.YtjfgcipbbcplmaaDoor.Any.fstP_hit B.out n 0 (by omega) (by omega) (fun m _ hm => A0.out m hm)]
    rfl
   | false =>
    go_wp2
    refine hcall.mono ?_
    rintro e w' ⟨rfl, hb'⟩
    go_wp2
    go_roundg (n - (kk + 1))
    case measure => omega
    case rel =>
     refine ⟨kk + 1, by omega, by omega, by go_num, hb', (show Aside _ from fun j hj => ?_)⟩
     by_cases e : j = kk
     ·subst e
      exact B.out
     ·exact A0.out j (by omega)
  ·have hltz : ¬ (kk : Int) < (n : Int) := by omega
   have : kk = n := by omega
   subst this
   go_wp2
   go_ret
   refine ⟨?_, BW.out⟩
   rw [Go.Proofs.YtjfgcipbbcplmaaDoor.Any.fstP_miss kk 0 (fun m _ hm => A0.out m (by omega))]
   rfl

/-! ### impl_Op_103: function 103 -/
set_option maxHeartbeats 2000000 in
theorem contains103 (g : Nat) (lb : Array Value) (p : Nat → Bool) (x0 x1 x2 x3 : Nat → Value) (eg : ∀ args w, (callFunc g args).run Tryd.prog w = .ok (.enter g args) w) (A : Option Addr) (n c : Nat) (r : Bool) (w : World)
  (hn : n ≤ 9223372036854775807) (hv : ∀ W, Below w.heap.size w W → ∀ j, j < n → ∃ ad, A = some ad ∧ W.cell? (ad.add (j * 4)) = some (x0 j) ∧ W.cell? ⟨(ad.add (j * 4)).block, (ad.add (j * 4)).off + 1, none⟩ = some (x1 j) ∧ W.cell? ⟨(ad.add (j * 4)).block, (ad.add (j * 4)).off + 2, none⟩ = some (x2 j) ∧ W.cell? ⟨(ad.add (j * 4)).block, (ad.add (j * 4)).off + 3, none⟩ = some (x3 j))
  (hp : ∀ (W : World) (j : Nat), Below w.heap.size w W → j < n → Calls Tryd.prog g (#[.agg #[x0 j, x1 j, x2 j, x3 j]] ++ lb) W fun e w' => e = .returned (.bool (p j)) ∧ Below w.heap.size w w')
  (hr : decide (0 ≤ Go.Proofs.YtjfgcipbbcplmaaDoor.Any.fstP p 0 n) = r) :
  Calls Tryd.prog 103 #[.slice A n c, .func (.func g) #[] lb] w fun e w' => e = .returned (.bool r) ∧ Below w.heap.size w w' := by
 have h := index134 g lb p x0 x1 x2 x3 eg A n c w hn hv hp
 generalize Go.Proofs.YtjfgcipbbcplmaaDoor.Any.fstP p 0 n = i at h hr
 subst hr
 clear hv hp
 go_enter Tryd.func103, Tryd.ntmps103
 go_wp2_with (go_at_call 134; refine h.mono ?_; rintro e w' ⟨rfl, hb'⟩)
 go_ret
 exact ⟨rfl, hb'⟩

/-! ### impl_power: function 131 -/
def impl_power.l0 : Nat → Int → Int → Int → Option (Int)
 | 0, _, _, _ => none
 | k + 1, x3, x4, x5 => if x5 < x4 then (impl_power.l0 k (wrap64 (x3 * 3)) x4 (wrap64 (x5 + 1))) else (some x3)
def impl_power.f (k : Nat) (a0 : Int) : Option (Int) := impl_power.l0 k 1 a0 0
theorem impl_power.mono_l : ∀ k, (∀ y0 y1 y2, LeO (impl_power.l0 k y0 y1 y2) (impl_power.l0 (k + 1) y0 y1 y2))
 | 0 => fun _ _ _ r h => by simp [impl_power.l0] at h
 | k + 1 => by
  have ih0 := impl_power.mono_l k
  ·intro y0 y1 y2
   unfold impl_power.l0
   repeat' first
   | (with_reducible exact ih0 _ _ _)
   | (with_reducible exact LeO.refl _)
   | (with_reducible exact LeO.none _)
   | (with_reducible refine LeO.ite ?_ ?_)
   | (with_reducible refine LeO.bind ?_ (fun _ => ?_))
   | exact ih0 _ _ _
   | exact LeO.none _
   | refine LeO.ite ?_ ?_
   | refine LeO.bind ?_ (fun _ => ?_)
theorem impl_power.mono : ∀ a0 k, LeO (impl_power.f k a0) (impl_power.f (k + 1) a0) := by
 intro a0 k
 have ih0 := impl_power.mono_l k
 unfold impl_power.f
 repeat' first
   | (with_reducible exact ih0 _ _ _)
   | (with_reducible exact LeO.refl _)
   | (with_reducible exact LeO.none _)
   | (with_reducible refine LeO.ite ?_ ?_)
   | (with_reducible refine LeO.bind ?_ (fun _ => ?_))
   | exact ih0 _ _ _
   | exact LeO.none _
   | refine LeO.ite ?_ ?_
   | refine LeO.bind ?_ (fun _ => ?_)
theorem impl_power.calls (k : Nat) (a0 : Int) (r : Int) (w : World) (h : impl_power.f k a0 = some r) :
  Calls Tryd.prog 131 #[.int .i64 a0] w fun e w' => e = .returned (.int .i64 r) ∧ Drawn0 w w' := by
 have H : (impl_power.l0 k 1 a0 0) = some r := h
 clear h
 have H' := Ak H
 clear H
 go_enter Tryd.func131, Tryd.ntmps131
 go_wp2
 go_loopg [3, 5] k (fun kq v3 v5 w' => ∃ (x3_1 : Int) (x5_1 : Int), v3 = .int .i64 x3_1 ∧ v5 = .int .i64 x5_1 ∧ Aside0 (impl_power.l0 kq x3_1 a0 x5_1 = some r) ∧ Aside0 (kq ≤ k) ∧ Drawn0 w w')
 case atStart => exact ⟨(1), (0), Qi, Qi, H', ⟨Nat.le_refl _⟩, Ql⟩
 case round =>
  clear H'
  try clear c1
  obtain ⟨x3_1, x5_1, rfl, rfl, HA, HK1, ⟨m1, rfl⟩⟩ := hrel
  cases gk with
  | zero => exact absurd HA.out (by simp [impl_power.l0])
  | succ k1 =>
   have H := HA.out
   clear HA
   simp only [impl_power.l0] at H
   by_cases c2 : x5_1 < a0
   ·rw [if_pos c2] at H
    have c2b0 : decide (x5_1 < a0) = true := decide_eq_true c2
    clear c2
    have H' := Ak H
    clear H
    go_wp2
    go_roundg k1
    case measure => have := HK1.out; omega
    case rel => exact ⟨(wrap64 (x3_1 * 3)), (wrap64 (x5_1 + 1)), Qi, Qi, H', ⟨by have := HK1.out; omega⟩, Ql⟩
   ·rw [if_neg c2] at H
    have c2b0 : decide (x5_1 < a0) = false := decide_eq_false c2
    clear c2
    obtain rfl := Option.some.inj H
    go_wp2
    go_ret
    exact ⟨Qi, Ql⟩

/-! ### impl_LimitOf: function 90 -/
def impl_LimitOf.f (k : Nat) (a0 : Int) : Option (Int) := if a0 < 1 then (some 0) else (if a0 > 30 then (some 0) else ((impl_power.f k a0).bind fun t207 => (some (wrap64 (Int.tdiv (wrap64 (t207 - 1)) 2)))))
theorem impl_LimitOf.mono : ∀ a0 k, LeO (impl_LimitOf.f k a0) (impl_LimitOf.f (k + 1) a0) := by
 intro a0 k
 unfold impl_LimitOf.f
 repeat' first
   | (with_reducible exact impl_power.mono _ _)
   | (with_reducible exact LeO.refl _)
   | (with_reducible exact LeO.none _)
   | (with_reducible refine LeO.ite ?_ ?_)
   | (with_reducible refine LeO.bind ?_ (fun _ => ?_))
   | exact impl_power.mono _ _
   | exact LeO.none _
   | refine LeO.ite ?_ ?_
   | refine LeO.bind ?_ (fun _ => ?_)
theorem impl_LimitOf.calls (k : Nat) (a0 : Int) (r : Int) (w : World) (h : impl_LimitOf.f k a0 = some r) :
  Calls Tryd.prog 90 #[.int .i64 a0] w fun e w' => e = .returned (.int .i64 r) ∧ Drawn0 w w' := by
 have H : (if a0 < 1 then (some 0) else (if a0 > 30 then (some 0) else ((impl_power.f k a0).bind fun t207 => (some (wrap64 (Int.tdiv (wrap64 (t207 - 1)) 2)))))) = some r := h
 clear h
 by_cases c2 : a0 < 1
 ·rw [if_pos c2] at H
  have c2b0 : decide (a0 < 1) = true := decide_eq_true c2
  clear c2
  obtain rfl := Option.some.inj H
  go_enter Tryd.func90, Tryd.ntmps90
  go_wp2
  go_ret
  exact ⟨Qi, Ql⟩
 ·rw [if_neg c2] at H
  have c2b0 : decide (a0 < 1) = false := decide_eq_false c2
  clear c2
  by_cases c3 : a0 > 30
  ·rw [if_pos c3] at H
   have c3b0 : decide (30 < a0) = true := decide_eq_true c3
   clear c3
   obtain rfl := Option.some.inj H
   go_enter Tryd.func90, Tryd.ntmps90
   go_wp2
   go_ret
   exact ⟨Qi, Ql⟩
  ·rw [if_neg c3] at H
   have c3b0 : decide (30 < a0) = false := decide_eq_false c3
   clear c3
   replace H := Option.bind_eq_some_iff.mp H
   obtain ⟨t207, A40, H⟩ := H
   replace H : (some (wrap64 (Int.tdiv (wrap64 (t207 - 1)) 2))) = some r := H
   have A4 := Ak A40
   clear A40
   obtain rfl := Option.some.inj H
   go_enter Tryd.func90, Tryd.ntmps90
   go_wp2_with (first | ((with_reducible refine gate_callee (f := 131) rfl ?_); refine Qj (some 10) Tryd.func131 #[.int .i64 a0] ?_; (with_reducible refine (impl_power.calls k a0 t207 _ A4.out).mono ?_); rintro e w' ⟨rfl, ⟨nd, rfl⟩⟩; refine ⟨_, rfl, ?_⟩))
   go_ret
   exact ⟨Qi, Ql⟩

/-! ### impl_fits: function 96 -/
def impl_fits.f (k : Nat) (a0 : Int) (a1 : Int) : Option (Bool) := (impl_LimitOf.f k a1).bind fun t208 => (if a0 ≥ (wrap64 (-t208)) then ((impl_LimitOf.f k a1).bind fun t209 => (some (decide (a0 ≤ t209)))) else (some false))
theorem impl_fits.mono : ∀ a0 a1 k, LeO (impl_fits.f k a0 a1) (impl_fits.f (k + 1) a0 a1) := by
 intro a0 a1 k
 unfold impl_fits.f
 repeat' first
   | (with_reducible exact impl_LimitOf.mono _ _)
   | (with_reducible exact LeO.refl _)
   | (with_reducible exact LeO.none _)
   | (with_reducible refine LeO.ite ?_ ?_)
   | (with_reducible refine LeO.bind ?_ (fun _ => ?_))
   | exact impl_LimitOf.mono _ _
   | exact LeO.none _
   | refine LeO.ite ?_ ?_
   | refine LeO.bind ?_ (fun _ => ?_)
theorem impl_fits.calls (k : Nat) (a0 : Int) (a1 : Int) (r : Bool) (w : World) (h : impl_fits.f k a0 a1 = some r) :
  Calls Tryd.prog 96 #[.int .i64 a0, .int .i64 a1] w fun e w' => e = .returned (.bool r) ∧ Drawn0 w w' := by
 have H : ((impl_LimitOf.f k a1).bind fun t208 => (if a0 ≥ (wrap64 (-t208)) then ((impl_LimitOf.f k a1).bind fun t209 => (some (decide (a0 ≤ t209)))) else (some false))) = some r := h
 clear h
 replace H := Option.bind_eq_some_iff.mp H
 obtain ⟨t208, A30, H⟩ := H
 replace H : (if a0 ≥ (wrap64 (-t208)) then ((impl_LimitOf.f k a1).bind fun t209 => (some (decide (a0 ≤ t209)))) else (some false)) = some r := H
 have A3 := Ak A30
 clear A30
 by_cases c4 : a0 ≥ (wrap64 (-t208))
 ·rw [if_pos c4] at H
  have c4b0 : decide ((wrap64 (-t208)) ≤ a0) = true := decide_eq_true c4
  clear c4
  replace H := Option.bind_eq_some_iff.mp H
  obtain ⟨t209, A50, H⟩ := H
  replace H : (some (decide (a0 ≤ t209))) = some r := H
  have A5 := Ak A50
  clear A50
  obtain rfl := Option.some.inj H
  go_enter Tryd.func96, Tryd.ntmps96
  go_wp2_with (first | ((with_reducible refine gate_callee (f := 90) rfl ?_); refine Qj (some 7) Tryd.func90 #[.int .i64 a1] ?_; (with_reducible refine (impl_LimitOf.calls k a1 t208 _ A3.out).mono ?_); rintro e w' ⟨rfl, ⟨nd, rfl⟩⟩; refine ⟨_, rfl, ?_⟩) | (go_at_call 90; (with_reducible refine (impl_LimitOf.calls k a1 t209 _ A5.out).mono ?_); rintro e w' ⟨rfl, ⟨nd, rfl⟩⟩))
  go_ret
  exact ⟨Qi, Ql⟩
 ·rw [if_neg c4] at H
  have c4b0 : decide ((wrap64 (-t208)) ≤ a0) = false := decide_eq_false c4
  clear c4
  obtain rfl := Option.some.inj H
  go_enter Tryd.func96, Tryd.ntmps96
  go_wp2_with (first | ((with_reducible refine gate_callee (f := 90) rfl ?_); refine Qj (some 7) Tryd.func90 #[.int .i64 a1] ?_; (with_reducible refine (impl_LimitOf.calls k a1 t208 _ A3.out).mono ?_); rintro e w' ⟨rfl, ⟨nd, rfl⟩⟩; refine ⟨_, rfl, ?_⟩))
  go_ret
  exact ⟨Qi, Ql⟩

/-! ### impl_isOp_1: function 135 -/
set_option maxHeartbeats 2000000 in
theorem place135 (n size : Int) (b : Nat) (r : Bool) (w : World) (hr : (decide (0 ≤ n) && decide (n ≤ size)) = r) (hc : w.cell? ⟨b, 0, none⟩ = some (.int .i64 size)) :
  Calls Tryd.prog 135 #[.int .i64 n, .pointer (some ⟨b, 0, none⟩)] w fun e w' => e = .returned (.bool r) ∧ Drawn0 w w' := by
 subst hr
 cases h1 : decide (0 ≤ n) <;> cases h2 : decide (n ≤ size) <;>
 ·go_enter Tryd.func135, Tryd.ntmps135
  go_wp2
  go_ret
  exact ⟨by first | rfl | simp [*], Ql⟩

/-! ### impl_isOp: function 105 -/
/-- What isOp says, with what 'fits' says of A. -/
def isOpB (f : Bool) (c a b d n : Int) : Bool :=
 if c = 1 then f && decide (b = 0) && decide (d = 0)
 else if c = 10 then decide (-9 ≤ a) && decide (a ≤ 9) && decide (b = 0) && decide (d = 0)
 else if c = 13 then (decide (0 ≤ a) && decide (a ≤ n)) && decide (b = 0) && decide (d = 0)
 else if c = 14 then (decide (0 ≤ a) && decide (a ≤ n)) && (decide (0 ≤ b) && decide (b ≤ n)) && (decide (0 ≤ d) && decide (d ≤ n))
 else decide (1 ≤ c) && decide (c ≤ 15) && (decide (a = 0) && decide (b = 0) && decide (d = 0))
def impl_isOp.f (k : Nat) (c a b d n : Int) : Option Bool := (impl_fits.f k a 9).bind fun f => some (isOpB f c a b d n)
theorem impl_isOp.mono : ∀ c a b d n k, LeO (impl_isOp.f k c a b d n) (impl_isOp.f (k + 1) c a b d n) := fun c a b d n k => LeO.bind (impl_fits.mono a 9 k) (fun _ => LeO.refl _)
theorem impl_isOp.calls (k : Nat) (a0_0 : Int) (a0_1 : Int) (a0_2 : Int) (a0_3 : Int) (a1 : Int) (r : Bool) (w : World) (h : impl_isOp.f k a0_0 a0_1 a0_2 a0_3 a1 = some r) :
  Calls Tryd.prog 105 #[.agg #[.int .i64 a0_0, .int .i64 a0_1, .int .i64 a0_2, .int .i64 a0_3], .int .i64 a1] w fun e w' => e = .returned (.bool r) ∧ Below w.heap.size w w' := by
 obtain ⟨c, ec⟩ : ∃ z, z = a0_0 := ⟨_, rfl⟩
 obtain ⟨a, ea⟩ : ∃ z, z = a0_1 := ⟨_, rfl⟩
 obtain ⟨b, eb⟩ : ∃ z, z = a0_2 := ⟨_, rfl⟩
 obtain ⟨d, ed⟩ : ∃ z, z = a0_3 := ⟨_, rfl⟩
 obtain ⟨n, en⟩ : ∃ z, z = a1 := ⟨_, rfl⟩
 rw [← ec, ← ea, ← eb, ← ed, ← en] at h ⊢
 clear ec ea eb ed en
 obtain ⟨f, hf, h⟩ := Option.bind_eq_some_iff.1 h
 have hr := Option.some.inj h
 clear h
 have hb : (b == 0) = decide (b = 0) := by rw [Bool.eq_iff_iff]; simp
 have hd : (d == 0) = decide (d = 0) := by rw [Bool.eq_iff_iff]; simp
 by_cases c1 : c = 1
 ·(try subst c1)
  rw [isOpB, if_pos rfl] at hr
  subst hr
  cases f <;> cases h1 : decide (b = 0) <;> cases h2 : decide (d = 0) <;>
  ·rw [h1] at hb
   rw [h2] at hd
   go_enter Tryd.func105, Tryd.ntmps105
   go_wp2_with (go_at_call 96; refine (impl_fits.calls k a 9 _ _ hf).mono ?_; rintro e w' ⟨rfl, ⟨nd, rfl⟩⟩)
   go_ret
   exact ⟨by first | rfl | simp [*], by repeat (first | (with_reducible first | exact Below.refl _ _ | apply below_alloc | apply pw_below_drewN | apply below_drew1) | exact Below.refl _ _)⟩
 ·clear hf
  by_cases c10 : c = 10
  ·(try subst c10)
   rw [isOpB, if_neg (by decide), if_pos rfl] at hr
   subst hr
   cases h3 : decide (-9 ≤ a) <;> cases h4 : decide (a ≤ 9) <;> cases h1 : decide (b = 0) <;> cases h2 : decide (d = 0) <;>
   ·rw [h1] at hb
    rw [h2] at hd
    go_enter Tryd.func105, Tryd.ntmps105
    go_wp2
    go_ret
    exact ⟨by first | rfl | simp [*], by repeat (first | (with_reducible first | exact Below.refl _ _ | apply below_alloc | apply pw_below_drewN | apply below_drew1) | exact Below.refl _ _)⟩
  ·by_cases c13 : c = 13
   ·(try subst c13)
    rw [isOpB, if_neg (by decide), if_neg (by decide), if_pos rfl] at hr
    subst hr
    cases pa : (decide (0 ≤ a) && decide (a ≤ n)) <;> cases h1 : decide (b = 0) <;> cases h2 : decide (d = 0) <;>
    ·rw [h1] at hb
     rw [h2] at hd
     go_enter Tryd.func105, Tryd.ntmps105
     go_wp2_with (go_at_call 135; with_reducible refine (place135 a n _ _ _ pa (by simp)).mono ?_; rintro e w' ⟨rfl, ⟨nda, rfl⟩⟩)
     go_ret
     exact ⟨by first | rfl | simp [*], by repeat (first | (with_reducible first | exact Below.refl _ _ | apply below_alloc | apply pw_below_drewN | apply below_drew1) | exact Below.refl _ _)⟩
   ·by_cases c14 : c = 14
    ·(try subst c14)
     rw [isOpB, if_neg (by decide), if_neg (by decide), if_neg (by decide), if_pos rfl] at hr
     subst hr
     clear hb hd
     cases pa : (decide (0 ≤ a) && decide (a ≤ n)) <;> cases pb : (decide (0 ≤ b) && decide (b ≤ n)) <;> cases pd : (decide (0 ≤ d) && decide (d ≤ n)) <;>
     ·go_enter Tryd.func105, Tryd.ntmps105
      go_wp2_with (first | (go_at_call 135; with_reducible refine (place135 a n _ _ _ pa (by simp)).mono ?_; rintro e w' ⟨rfl, ⟨nda, rfl⟩⟩) | (go_at_call 135; with_reducible refine (place135 b n _ _ _ pb (by simp)).mono ?_; rintro e w' ⟨rfl, ⟨ndb, rfl⟩⟩) | (go_at_call 135; with_reducible refine (place135 d n _ _ _ pd (by simp)).mono ?_; rintro e w' ⟨rfl, ⟨ndd, rfl⟩⟩))
      go_ret
      exact ⟨by first | rfl | simp [*], by repeat (first | (with_reducible first | exact Below.refl _ _ | apply below_alloc | apply pw_below_drewN | apply below_drew1) | exact Below.refl _ _)⟩
    ·have e1 : (c == 1) = false := beq_eq_false_iff_ne.mpr c1
     have e10 : (c == 10) = false := beq_eq_false_iff_ne.mpr c10
     have e13 : (c == 13) = false := beq_eq_false_iff_ne.mpr c13
     have e14 : (c == 14) = false := beq_eq_false_iff_ne.mpr c14
     rw [isOpB, if_neg c1, if_neg c10, if_neg c13, if_neg c14] at hr
     subst hr
     clear hb hd
     cases h3 : decide (1 ≤ c) <;> cases h4 : decide (c ≤ 15) <;>
     ·go_enter Tryd.func105, Tryd.ntmps105
      go_wp2
      all_goals go_ret
      all_goals exact ⟨by first | rfl | simp [*], by repeat (first | (with_reducible first | exact Below.refl _ _ | apply below_alloc | apply pw_below_drewN | apply below_drew1) | exact Below.refl _ _)⟩

/-! ### impl_IsCode_1: function 104 -/
set_option maxHeartbeats 2000000 in
theorem closure104 (k : Nat) (c a b d : Int) (n cap : Nat) (A : Option Addr) (blk : Nat) (r : Bool) (w : World) (hB : blk < w.heap.size) (hc : w.cell? ⟨blk, 0, none⟩ = some (.slice A n cap)) (h : impl_isOp.f k c a b d n = some r) :
  Calls Tryd.prog 104 #[.agg #[.int .i64 c, .int .i64 a, .int .i64 b, .int .i64 d], .pointer (some ⟨blk, 0, none⟩)] w fun e w' => e = .returned (.bool (!r)) ∧ Below w.heap.size w w' := by
 have hne : blk ≠ w.heap.size := by omega
 go_enter Tryd.func104, Tryd.ntmps104
 go_wp2_with (go_at_call 105; refine (impl_isOp.calls k c a b d n r _ h).mono ?_; rintro e w' ⟨rfl, hb'⟩)
 go_ret
 exact ⟨by first | rfl | simp, ((Below.refl _ w).alloc (Nat.le_refl _) _).trans (hb'.mono (by simp))⟩

/-! ### impl_IsCode: function 63 -/
def impl_IsCode.f (k : Nat) (l : List S54) : Option Bool := if l.length ≥ 1 then (if l.length ≤ 80 then (Go.Proofs.YtjfgcipbbcplmaaDoor.Any.anyO (fun x => (impl_isOp.f k x.f0 x.f1 x.f2 x.f3 (l.length : Int)).bind fun t => some (!t)) l).bind fun b => some (!b) else some false) else some false
theorem impl_IsCode.mono : ∀ l k, LeO (impl_IsCode.f k l) (impl_IsCode.f (k + 1) l) := fun l k => LeO.ite (LeO.ite (LeO.bind (Go.Proofs.YtjfgcipbbcplmaaDoor.Any.anyO_le (fun x => LeO.bind (impl_isOp.mono _ _ _ _ _ k) (fun _ => LeO.refl _)) l) (fun _ => LeO.refl _)) (LeO.refl _)) (LeO.refl _)
theorem impl_IsCode.calls (k : Nat) (A0 : Option Addr) (c0 : Nat) (l0 : List (S54)) (r : Bool) (w : World) (hr0 : Kd.C k54 w A0 l0.length l0) (hc0 : l0.length ≤ c0) (h : impl_IsCode.f k l0 = some r) :
  Calls Tryd.prog 63 #[.slice A0 l0.length c0] w fun e w' => e = .returned (.bool r) ∧ Below w.heap.size w w' := by
 unfold impl_IsCode.f at h
 by_cases c1 : l0.length ≥ 1
 ·rw [if_pos c1] at h
  have c1b : decide (1 ≤ (l0.length : Int)) = true := decide_eq_true (by omega)
  by_cases c2 : l0.length ≤ 80
  ·rw [if_pos c2] at h
   have c2b : decide ((l0.length : Int) ≤ 80) = true := decide_eq_true (by omega)
   obtain ⟨b, hb, h⟩ := Option.bind_eq_some_iff.1 h
   obtain rfl := Option.some.inj h
   obtain ⟨p, h1, h2⟩ := Go.Proofs.YtjfgcipbbcplmaaDoor.Any.anyO_some' hb
   have hcon := fun (w : World) (blk : Nat) (hB : blk < w.heap.size) (hcl : w.cell? ⟨blk, 0, none⟩ = some (.slice A0 l0.length c0)) (hr : Kd.C k54 w A0 l0.length l0) => contains103 104 #[.pointer (some ⟨blk, 0, none⟩)] p (fun j => .int .i64 (rd_T54 l0 j).f0) (fun j => .int .i64 (rd_T54 l0 j).f1) (fun j => .int .i64 (rd_T54 l0 j).f2) (fun j => .int .i64 (rd_T54 l0 j).f3) (fun args w => enters_ Tryd.func104 (by kernel_rfl) rfl args w) A0 l0.length c0 b w (by have := hr.2.1; omega)
    (fun W hW j hj => by
     obtain ⟨ad, e, hx⟩ := at_T54 (Kd.C_below hr hW) (j : Int) (by omega) (by omega)
     exact ⟨ad, e, by simpa using hx⟩)
    (fun W j hW hj => by
     have e := h1 j hj
     obtain ⟨t, ht, e⟩ := Option.bind_eq_some_iff.1 e
     have e := Option.some.inj e
     have eg : rd_T54 l0 (j : Int) = l0[j] := by simp [rd_T54, List.getD_eq_getElem?_getD, List.getElem?_eq_getElem hj]
     rw [← e]
     refine (closure104 k _ _ _ _ l0.length c0 A0 blk t W (Nat.lt_of_lt_of_le hB hW.size) ((hW.cell (p := ⟨blk, 0, none⟩) hB).trans hcl) (by rw [eg]; exact ht)).mono ?_
     rintro e w' ⟨rfl, hb'⟩
     exact ⟨rfl, hW.trans (hb'.mono hW.size)⟩) h2
   clear h1 h2 hb
   go_enter Tryd.func63, Tryd.ntmps63
   go_wp2_with (go_at_call 103; refine (hcon _ w.heap.size (by simp) (by simp) (by with_reducible repeat (first | exact hr0 | refine Kd.C_alloc ?_ _ | refine Kd.C_drewN ?_ _ | refine Kd.C_drew ?_))).mono ?_; rintro e w' ⟨rfl, hb'⟩)
   go_ret
   exact ⟨by first | rfl | simp, ((Below.refl _ w).alloc (Nat.le_refl _) _).trans (hb'.mono (by simp))⟩
  ·rw [if_neg c2] at h
   have c2b : decide ((l0.length : Int) ≤ 80) = false := decide_eq_false (by omega)
   obtain rfl := Option.some.inj h
   go_enter Tryd.func63, Tryd.ntmps63
   go_wp2
   go_ret
   exact ⟨by first | rfl | simp, (Below.refl _ w).alloc (Nat.le_refl _) _⟩
 ·rw [if_neg c1] at h
  have c1b : decide (1 ≤ (l0.length : Int)) = false := decide_eq_false (by omega)
  obtain rfl := Option.some.inj h
  go_enter Tryd.func63, Tryd.ntmps63
  go_wp2
  go_ret
  exact ⟨by first | rfl | simp, (Below.refl _ w).alloc (Nat.le_refl _) _⟩

/-! ### impl_carried: function 106 -/
def impl_carried.f (a0 : Int) : Option (Int × Int) := if a0 > 1 then (some (wrap64 (a0 - 3), 1)) else (if a0 < (-1) then (some (wrap64 (a0 + 3), (-1))) else (some (a0, 0)))
theorem impl_carried.calls (a0 : Int) (r1 : Int) (r2 : Int) (w : World) (h : impl_carried.f a0 = some (r1, r2)) :
  Calls Tryd.prog 106 #[.int .i64 a0] w fun e w' => e = .returned (.tuple #[.int .i64 r1, .int .i64 r2]) ∧ Drawn0 w w' := by
 have H : (if a0 > 1 then (some (wrap64 (a0 - 3), 1)) else (if a0 < (-1) then (some (wrap64 (a0 + 3), (-1))) else (some (a0, 0)))) = some (r1, r2) := h
 clear h
 by_cases c2 : a0 > 1
 ·rw [if_pos c2] at H
  have c2b0 : decide (1 < a0) = true := decide_eq_true c2
  clear c2
  simp only [Option.some.injEq, Prod.mk.injEq] at H
  obtain ⟨rfl, rfl⟩ := H
  go_enter Tryd.func106, Tryd.ntmps106
  go_wp2
  go_ret2
  exact ⟨Qi, Ql⟩
 ·rw [if_neg c2] at H
  have c2b0 : decide (1 < a0) = false := decide_eq_false c2
  clear c2
  by_cases c3 : a0 < (-1)
  ·rw [if_pos c3] at H
   have c3b0 : decide (a0 < (-1)) = true := decide_eq_true c3
   clear c3
   simp only [Option.some.injEq, Prod.mk.injEq] at H
   obtain ⟨rfl, rfl⟩ := H
   go_enter Tryd.func106, Tryd.ntmps106
   go_wp2
   go_ret2
   exact ⟨Qi, Ql⟩
  ·rw [if_neg c3] at H
   have c3b0 : decide (a0 < (-1)) = false := decide_eq_false c3
   clear c3
   simp only [Option.some.injEq, Prod.mk.injEq] at H
   obtain ⟨rfl, rfl⟩ := H
   go_enter Tryd.func106, Tryd.ntmps106
   go_wp2
   go_ret2
   exact ⟨Qi, Ql⟩

/-! ### impl_WordOf: function 64 -/
mutual
def impl_WordOf.j0 : Nat → Int → Int → Bool → Option (List Int × Bool)
 | 0, _, _, _ => none
 | k + 1, x0, x1, x20 => if x20 = true then (some (([] : List Int), false)) else (impl_WordOf.l0 k x0 (([] : List Int)) x1 0)
def impl_WordOf.l0 : Nat → Int → List Int → Int → Int → Option (List Int × Bool)
 | 0, _, _, _, _ => none
 | k + 1, x0, x6, x22, x23 => if x23 < x22 then ((impl_carried.f (Int.tmod x0 3)).bind fun bt214 => (if x6.length < 17592186044416 then (impl_WordOf.l0 k (wrap64 (Int.tdiv (wrap64 (x0 - bt214.1)) 3)) (x6 ++ [bt214.1]) x22 (wrap64 (x23 + 1))) else (none))) else (some (x6, true))
end
def impl_WordOf.f (k : Nat) (a0 : Int) (a1 : Int) : Option (List Int × Bool) := if a1 < 1 then (impl_WordOf.j0 k a0 a1 true) else (if a1 > 30 then (impl_WordOf.j0 k a0 a1 true) else ((impl_fits.f k a0 a1).bind fun t210 => (impl_WordOf.j0 k a0 a1 (!t210))))
theorem impl_WordOf.mono_l : ∀ k, (∀ y0 y1 y2, LeO (impl_WordOf.j0 k y0 y1 y2) (impl_WordOf.j0 (k + 1) y0 y1 y2)) ∧ (∀ y0 y1 y2 y3, LeO (impl_WordOf.l0 k y0 y1 y2 y3) (impl_WordOf.l0 (k + 1) y0 y1 y2 y3))
 | 0 => ⟨fun _ _ _ r h => by simp [impl_WordOf.j0] at h, fun _ _ _ _ r h => by simp [impl_WordOf.l0] at h⟩
 | k + 1 => by
  obtain ⟨ih0, ih1⟩ := impl_WordOf.mono_l k
  refine ⟨?_, ?_⟩
  ·intro y0 y1 y2
   unfold impl_WordOf.j0
   repeat' first
   | (with_reducible exact ih0 _ _ _)
   | (with_reducible exact ih1 _ _ _ _)
   | (with_reducible exact impl_fits.mono _ _ _)
   | (with_reducible exact LeO.refl _)
   | (with_reducible exact LeO.none _)
   | (with_reducible refine LeO.ite ?_ ?_)
   | (with_reducible refine LeO.bind ?_ (fun _ => ?_))
   | exact ih0 _ _ _
   | exact ih1 _ _ _ _
   | exact impl_fits.mono _ _ _
   | exact LeO.none _
   | refine LeO.ite ?_ ?_
   | refine LeO.bind ?_ (fun _ => ?_)
  ·intro y0 y1 y2 y3
   unfold impl_WordOf.l0
   repeat' first
   | (with_reducible exact ih0 _ _ _)
   | (with_reducible exact ih1 _ _ _ _)
   | (with_reducible exact impl_fits.mono _ _ _)
   | (with_reducible exact LeO.refl _)
   | (with_reducible exact LeO.none _)
   | (with_reducible refine LeO.ite ?_ ?_)
   | (with_reducible refine LeO.bind ?_ (fun _ => ?_))
   | exact ih0 _ _ _
   | exact ih1 _ _ _ _
   | exact impl_fits.mono _ _ _
   | exact LeO.none _
   | refine LeO.ite ?_ ?_
   | refine LeO.bind ?_ (fun _ => ?_)
theorem impl_WordOf.mono : ∀ a0 a1 k, LeO (impl_WordOf.f k a0 a1) (impl_WordOf.f (k + 1) a0 a1) := by
 intro a0 a1 k
 obtain ⟨ih0, ih1⟩ := impl_WordOf.mono_l k
 unfold impl_WordOf.f
 repeat' first
   | (with_reducible exact ih0 _ _ _)
   | (with_reducible exact ih1 _ _ _ _)
   | (with_reducible exact impl_fits.mono _ _ _)
   | (with_reducible exact LeO.refl _)
   | (with_reducible exact LeO.none _)
   | (with_reducible refine LeO.ite ?_ ?_)
   | (with_reducible refine LeO.bind ?_ (fun _ => ?_))
   | exact ih0 _ _ _
   | exact ih1 _ _ _ _
   | exact impl_fits.mono _ _ _
   | exact LeO.none _
   | refine LeO.ite ?_ ?_
   | refine LeO.bind ?_ (fun _ => ?_)
theorem impl_WordOf.calls (k : Nat) (a0 : Int) (a1 : Int) (r1 : List Int) (r2 : Bool) (w : World) (h : impl_WordOf.f k a0 a1 = some (r1, r2)) :
  Calls Tryd.prog 64 #[.int .i64 a0, .int .i64 a1] w fun e w' => ∃ v0_ : Value, e = .returned (.tuple #[v0_, .bool r2]) ∧ Kd.R (Kd.int .i64) 3 w' w.heap.size (fun _ => True) v0_ r1 ∧ Below w.heap.size w w' := by
 have HB := Ak (Below.refl w.heap.size w)
 have H : (if a1 < 1 then (impl_WordOf.j0 k a0 a1 true) else (if a1 > 30 then (impl_WordOf.j0 k a0 a1 true) else ((impl_fits.f k a0 a1).bind fun t210 => (impl_WordOf.j0 k a0 a1 (!t210))))) = some (r1, r2) := h
 clear h
 have HC3 := Ak H
 clear H
 go_enter Tryd.func64, Tryd.ntmps64
 go_upto_region 1 with (fail)
 go_cut [20] (fun v20 wc => ∃ (kq : Nat) (x20_2 : Bool), v20 = .bool x20_2 ∧ Aside0 (impl_WordOf.j0 kq a0 a1 x20_2 = some (r1, r2)) ∧ Aside0 (kq ≤ k) ∧ Aside0 (Below w.heap.size w wc))
 case first =>
  have H := HC3.out
  clear HC3
  by_cases c4 : a1 < 1
  ·rw [if_pos c4] at H
   have c4b0 : decide (a1 < 1) = true := decide_eq_true c4
   clear c4
   (first | rw [c4b0] | (simp only [i64_w, i32_w]; rw [c4b0]) | skip)
   have H' := Ak H
   clear H
   go_wp2
   go_meet
   case rel => exact ⟨_, (true), Qi, H', ⟨by first | omega | exact Nat.le_refl _⟩, ⟨Qb HB.out⟩⟩
  ·rw [if_neg c4] at H
   have c4b0 : decide (a1 < 1) = false := decide_eq_false c4
   clear c4
   (first | rw [c4b0] | (simp only [i64_w, i32_w]; rw [c4b0]) | skip)
   by_cases c5 : a1 > 30
   ·rw [if_pos c5] at H
    have c5b0 : decide (30 < a1) = true := decide_eq_true c5
    clear c5
    have H' := Ak H
    clear H
    go_wp2
    go_meet
    case rel => exact ⟨_, (true), Qi, H', ⟨by first | omega | exact Nat.le_refl _⟩, ⟨Qb HB.out⟩⟩
   ·rw [if_neg c5] at H
    have c5b0 : decide (30 < a1) = false := decide_eq_false c5
    clear c5
    replace H := Option.bind_eq_some_iff.mp H
    obtain ⟨t210, A60, H⟩ := H
    replace H : (impl_WordOf.j0 k a0 a1 (!t210)) = some (r1, r2) := H
    have A6 := Ak A60
    clear A60
    have H' := Ak H
    clear H
    go_wp2_with (first | (go_at_call 96; (with_reducible refine (impl_fits.calls k a0 a1 t210 _ A6.out).mono ?_); rintro e w' ⟨rfl, ⟨nd, rfl⟩⟩))
    go_meet
    case rel => exact ⟨_, (!t210), Qi, H', ⟨by first | omega | exact Nat.le_refl _⟩, ⟨Qb HB.out⟩⟩
 case rest =>
  clear HC3
  (try clear p2); (try clear c4); (try clear c4b0); (try clear c5); (try clear c5b0); (try clear c6)
  obtain ⟨kq, x20_2, rfl, HA, HJ2, HB⟩ := hcut
  cases kq with
  | zero => exact absurd HA.out (by simp [impl_WordOf.j0])
  | succ kj2 =>
   have H := HA.out
   clear HA
   simp only [impl_WordOf.j0] at H
   by_cases c7 : x20_2 = true
   ·(try subst c7)
    have H1 : (some (([] : List Int), false)) = some (r1, r2) := by rw [if_pos rfl] at H; exact H
    clear H
    have H := H1
    clear H1
    simp only [Option.some.injEq, Prod.mk.injEq] at H
    obtain ⟨rfl, rfl⟩ := H
    go_wp2
    go_ret2
    exact ⟨_, Qh, by first | exact Kd.R_nil _ _ _ _ _ | exact Kd.N_nil _ _ _ _ _ | exact Kd.V_nil _ _ _ _ _ | exact Kd.Q_nil _ _ _ _ _ | exact Kd.S_nil _ _ _ _ _, Qb HB.out⟩
   ·replace c7 := Bool.eq_false_iff.mpr c7
    (try subst c7)
    have H1 : (impl_WordOf.l0 kj2 a0 (([] : List Int)) a1 0) = some (r1, r2) := by rw [if_neg (show ¬ (false = true) by decide)] at H; exact H
    clear H
    have H := H1
    clear H1
    obtain ⟨y211, hy211⟩ : ∃ y_ : List Int, y_ = (([] : List Int)) := ⟨_, rfl⟩
    replace H : (impl_WordOf.l0 kj2 a0 y211 a1 0) = some (r1, r2) := by first | (rw [hy211]; with_reducible exact H) | (have H2_ := (Option.bind_some _ _).symm.trans H; rw [hy211]; with_reducible exact H2_) | (have H2_ := (Option.bind_some _ _).symm.trans H; with_reducible exact H2_) | with_reducible exact H | (rw [hy211]; exact H) | exact H
    have Ny211 := Ak hy211
    clear hy211
    have H' := Ak H
    clear H
    go_wp2_with (first | ((with_reducible refine gate_dst (N := 21) rfl ?_); refine Kd.R_lit (Kd.int .i64) _ 3 ?hg (N := 21) ?hd (xs := ([] : List Int)) (inner := []) (ok := fun _ => True) (okp := fun _ => True) ?hr ?hp (fun _ hk => hk) trivial (Below.refl _ _) (Nat.le_refl _) (by simp) ?_; (case hd => rfl); (case hg => rfl); (case hr => first | (go_simp; done) | (go_simp; rfl)); (case hp => exact (Reps.none _ _)); intro v212 w8 ho9 hb hg_ hnew_; clear hg_ hnew_; (first | rw [← Ny211.out] at ho9 | (simp only [Int.reduceToNat] at ho9; rw [← Ny211.out] at ho9)); have n0_ := Ak (Kd.R_lower ho9 (below_size (Qb HB.out))); have n1_ := Ak (below_step (Qb HB.out) hb); clear HB; have HO213 := n0_; have HB := n1_; clear n0_ n1_; clear hb ho9))
    go_loopg [0, 6, 23] kj2 (fun kq v0 v6 v23 w' => ∃ (x0_2 : Int) (x6_2 : List Int) (x23_2 : Int), v0 = .int .i64 x0_2 ∧ v23 = .int .i64 x23_2 ∧ Aside0 (impl_WordOf.l0 kq x0_2 x6_2 a1 x23_2 = some (r1, r2)) ∧ Aside0 (kq ≤ kj2) ∧ Aside0 (Kd.R (Kd.int .i64) 3 w' w.heap.size (fun _ => True) v6 x6_2) ∧ Aside0 (Below w.heap.size w w'))
    case atStart => exact ⟨(a0), (y211), (0), Qi, Qi, H', ⟨Nat.le_refl _⟩, ⟨by refine Qf ?_; exact HO213.out⟩, ⟨Qb HB.out⟩⟩
    case round =>
     clear H'
     (try clear p2); (try clear c4); (try clear c4b0); (try clear c5); (try clear c5b0); (try clear c6); (try clear c7); (try clear p2)
     obtain ⟨x0_2, x6_2, x23_2, rfl, rfl, HA, HK2, HO_6, HB⟩ := hrel
     cases gk with
     | zero => exact absurd HA.out (by simp [impl_WordOf.l0])
     | succ k2 =>
      have H := HA.out
      clear HA
      simp only [impl_WordOf.l0] at H
      by_cases c10 : x23_2 < a1
      ·rw [if_pos c10] at H
       have c10b0 : decide (x23_2 < a1) = true := decide_eq_true c10
       clear c10
       replace H := Option.bind_eq_some_iff.mp H
       obtain ⟨⟨t214, t215⟩, A110, H⟩ := H
       replace H : (if x6_2.length < 17592186044416 then (impl_WordOf.l0 k2 (wrap64 (Int.tdiv (wrap64 (x0_2 - t214)) 3)) (x6_2 ++ [t214]) a1 (wrap64 (x23_2 + 1))) else (none)) = some (r1, r2) := H
       have A11 := Ak A110
       clear A110
       by_cases c12 : x6_2.length < 17592186044416
       ·rw [if_pos c12] at H
        have LMc12 := Ak c12
        clear c12
        obtain ⟨y216, hy216⟩ : ∃ y_ : List Int, y_ = (x6_2 ++ [t214]) := ⟨_, rfl⟩
        replace H : (impl_WordOf.l0 k2 (wrap64 (Int.tdiv (wrap64 (x0_2 - t214)) 3)) y216 a1 (wrap64 (x23_2 + 1))) = some (r1, r2) := by first | (rw [hy216]; with_reducible exact H) | (have H2_ := (Option.bind_some _ _).symm.trans H; rw [hy216]; with_reducible exact H2_) | (have H2_ := (Option.bind_some _ _).symm.trans H; with_reducible exact H2_) | with_reducible exact H | (rw [hy216]; exact H) | exact H
        have Ny216 := Ak hy216
        clear hy216
        have H' := Ak H
        clear H
        go_wp2_with (first | ((with_reducible refine gate_callee (f := 106) rfl ?_); refine Qj (some 28) Tryd.func106 #[.int .i64 (Int.tmod x0_2 3)] ?_; (with_reducible refine (impl_carried.calls (Int.tmod x0_2 3) t214 t215 _ A11.out).mono ?_); rintro e w' ⟨rfl, ⟨nd, rfl⟩⟩; refine ⟨_, rfl, ?_⟩) | ((with_reducible refine gate_builtin (b := .append) (xs := #[.tmp 31, .tmp 33]) rfl ?_); at_builtin; refine Kd.R_append (Kd.int .i64) (w0 := w) w.heap.size rfl (.tmp 31) (.tmp 33) 57 3 (.int .i64 0) 8 rfl Tryd.underlying57 info3 rfl (by decide) (by omega) u6 x6_2 t214 [.int .i64 t214] (fun _ => True) (fun _ => False) rfl rfl ?aP (fun _ hk => hk.elim) ?aF ?aO ?aB ?aS ?aL ?_; (case aP => exact rfl); (case aB => exact (Qb HB.out)); (case aF => exact (fun _ _ => trivial)); (case aO => exact (Qc HO_6.out)); (case aS => exact (below_size (Qb HB.out))); (case aL => have := LMc12.out; omega); intro v217 w13 ho hb hg hat; rw [← Ny216.out] at ho; have n0_ := Ak (hb); have n1_ := Ak (ho); clear HB HO_6; have HB := n0_; have HO218 := n1_; clear n0_ n1_; clear ho hb hg hat))
        go_roundg k2
        case measure => have := HJ2.out; have := HK2.out; omega
        case rel => exact ⟨(wrap64 (Int.tdiv (wrap64 (x0_2 - t214)) 3)), (y216), (wrap64 (x23_2 + 1)), Qi, Qi, H', ⟨by have := HJ2.out; have := HK2.out; omega⟩, ⟨by refine Qf ?_; exact HO218.out⟩, ⟨Qb HB.out⟩⟩
       ·rw [if_neg c12] at H
        exact absurd H (by simp)
      ·rw [if_neg c10] at H
       have c10b0 : decide (x23_2 < a1) = false := decide_eq_false c10
       clear c10
       simp only [Option.some.injEq, Prod.mk.injEq] at H
       obtain ⟨rfl, rfl⟩ := H
       go_wp2
       go_ret2
       exact ⟨_, Qh, by refine Qf ?_; exact HO_6.out, Qb HB.out⟩

/-! ### strconv_Itoa: function 65 -/
def strconv_Itoa.f (a0 : Int) : Option ByteArray := if -9223372036854775808 ≤ a0 ∧ a0 ≤ 9223372036854775807 then some ⟨(Lib.itoa a0).toArray⟩ else none
theorem strconv_Itoa.calls (a0 : Int) (r : ByteArray) (w : World) (hL : Aside0 (Laid w)) (h : strconv_Itoa.f a0 = some r) :
  Calls Tryd.prog 65 #[.int .i64 a0] w fun e w' => e = .returned (.string r) ∧ Below w.heap.size w w' := by
 unfold strconv_Itoa.f at h
 by_cases hc : -9223372036854775808 ≤ a0 ∧ a0 ≤ 9223372036854775807
 ·rw [if_pos hc] at h
  obtain rfl := Option.some.inj h
  refine (Tryd.strconv_Itoa a0 hc.1 hc.2 w hL.out.here.pow).mono ?_
  rintro e w' ⟨rfl, k, os, rfl⟩
  exact ⟨rfl, Lib.below_grow _ w (Nat.le_refl _) k os⟩
 ·rw [if_neg hc] at h
  exact absurd h (by simp)

/-! ### strings_Join: function 66 -/
def strings_Join.f (l0 : List ByteArray) (a1 : ByteArray) : Option ByteArray := if l0.length ≤ 140737488355328 ∧ (Lib.join (l0.map (·.data.toList)) a1.data.toList).length ≤ 140737488355328 then some ⟨(Lib.join (l0.map (·.data.toList)) a1.data.toList).toArray⟩ else none
theorem strings_Join.calls (A0 : Option Addr) (c0 : Nat) (l0 : List ByteArray) (a1 : ByteArray) (r : ByteArray) (w : World) (hr0 : Kd.C Kd.string w A0 l0.length l0) (hc0 : l0.length ≤ c0) (h : strings_Join.f l0 a1 = some r) :
  Calls Tryd.prog 66 #[.slice A0 l0.length c0, .string a1] w fun e w' => e = .returned (.string r) ∧ Below w.heap.size w w' := by
 unfold strings_Join.f at h
 by_cases hc : l0.length ≤ 140737488355328 ∧ (Lib.join (l0.map (·.data.toList)) a1.data.toList).length ≤ 140737488355328
 ·rw [if_pos hc] at h
  obtain rfl := Option.some.inj h
  cases l0 with
  | nil =>
   refine (Tryd.strings_Join_none A0 c0 a1 w).mono ?_
   rintro e w' ⟨rfl, rfl⟩
   exact ⟨by rfl, Below.refl _ _⟩
  | cons x xs =>
   have hcell : ∀ (j : Nat) (y : ByteArray), (x :: xs)[j]? = some y → ∃ ad, A0 = some ad ∧ w.cell? (ad.add j) = some (.string y) := by
    intro j y hj
    obtain ⟨hl, hy⟩ := List.getElem?_eq_some_iff.1 hj
    obtain ⟨ad, e, hcl⟩ := Kd.at_string hr0 (j : Int) (by omega) (by omega)
    refine ⟨ad, e, ?_⟩
    rw [Int.toNat_natCast] at hcl
    rw [hcl]
    have : rdOf ByteArray.empty (x :: xs) (j : Int) = y := by simp [rdOf, List.getD_eq_getElem?_getD, hj]
    rw [this]
   obtain ⟨ad, e, h0⟩ := hcell 0 x rfl
   subst e
   obtain ⟨bk, o, fr, hfr⟩ : ∃ bk o fr, ad = ⟨bk, o, fr⟩ := ⟨_, _, _, rfl⟩
   subst hfr
   have hlt := World.block_lt_of_cell? w _ h0
   obtain rfl : fr = none := by
    cases fr with
    | none => rfl
    | some z =>
     exfalso
     simp only [Addr.add, if_true] at h0
     unfold World.cell? at h0
     split at h0
     ·simp at h0
     ·cases h0
   have hb : bk < w.heap.size := by simpa [Addr.add] using hlt
   refine (Tryd.strings_Join bk o c0 (x :: xs) a1 w ?_ hb hc.1 hc0 hc.2).mono ?_
   ·intro j y hj
    obtain ⟨ad, e, hcl⟩ := hcell j y hj
    obtain rfl := Option.some.inj e
    have ea : (⟨bk, o, none⟩ : Addr).add j = ⟨bk, o + j, none⟩ := by
     unfold Addr.add
     by_cases hj0 : j = 0
     ·rw [if_pos hj0, hj0]; rfl
     ·rw [if_neg hj0]
    rw [← ea]
    exact hcl
   ·rintro e w' ⟨rfl, hb'⟩
    exact ⟨rfl, hb'⟩
 ·rw [if_neg hc] at h
  exact absurd h (by simp)

end Go.Proofs.YtjfgcipbbcplmaaDoor.HFnExactFormatCode
