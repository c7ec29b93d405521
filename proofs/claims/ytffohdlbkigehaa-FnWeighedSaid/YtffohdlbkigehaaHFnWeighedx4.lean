/- Text for FnWeighed: written by a program of this session on the pattern of the kit's print. -/
import Derived.Test.YtffohdlbkigehaaHFnWeighedx0
import Derived.Test.YtffohdlbkigehaaHFnWeighedx1
import Derived.Test.YtffohdlbkigehaaHFnWeighedx2
import Derived.Test.YtffohdlbkigehaaHFnWeighedx3
namespace Go.Proofs.Ytffohdlbkigehaa.HFnWeighed
open Go.RowKit Go.Proofs.YtffohdlbkigehaaW.PrintWords Go.Proofs.YtffohdlbkigehaaW.PrintLast Go.Proofs.YtffohdlbkigehaaW.PrintMore
attribute [local go_sem] max2_int min2_int max_two min_two max_three min_three max_four min_four   -- for this text's walks alone
set_option linter.unusedVariables false
set_option linter.unusedSimpArgs false

/-! ### impl_BalanceOf: function 41 -/
/-- Is there a place out of range, or one seen twice? -/
def impl_BalanceOf.bad : List Int → List Int → Bool
  | _, [] => false
  | seen, i :: is => decide (i < 0) || decide (30 ≤ i) || seen.contains i || impl_BalanceOf.bad (seen ++ [i]) is
def impl_BalanceOf.s1 (k : Nat) : List Int → Int → Option Int
  | [], s => some s
  | i :: is, s => (impl_power.f k i).bind fun p => impl_BalanceOf.s1 k is (wrap64 (s + p))
def impl_BalanceOf.s2 (k : Nat) : List Int → Int → Option Int
  | [], s => some s
  | i :: is, s => (impl_power.f k i).bind fun p => impl_BalanceOf.s2 k is (wrap64 (s - p))
theorem impl_BalanceOf.s1_mono (k : Nat) : ∀ l s, LeO (impl_BalanceOf.s1 k l s) (impl_BalanceOf.s1 (k + 1) l s)
  | [], s => LeO.refl _
  | i :: is, s => LeO.bind (impl_power.mono i k) (fun p => impl_BalanceOf.s1_mono k is _)
theorem impl_BalanceOf.s2_mono (k : Nat) : ∀ l s, LeO (impl_BalanceOf.s2 k l s) (impl_BalanceOf.s2 (k + 1) l s)
  | [], s => LeO.refl _
  | i :: is, s => LeO.bind (impl_power.mono i k) (fun p => impl_BalanceOf.s2_mono k is _)
def impl_BalanceOf.sc (s : List Int) : Array Value := s.foldl (fun a (i : Int) => a.setIfInBounds i.toNat (.bool true)) (Array.replicate 30 (.bool false))
theorem impl_BalanceOf.sc_snoc (s : List Int) (i : Int) : impl_BalanceOf.sc (s ++ [i]) = (impl_BalanceOf.sc s).setIfInBounds i.toNat (.bool true) := by simp [impl_BalanceOf.sc, List.foldl_append]
theorem impl_BalanceOf.sc_fold : ∀ (s pre : List Int) (a : Array Value), a.size = 30 → (∀ j : Int, 0 ≤ j → j < 30 → a[j.toNat]? = some (.bool (pre.contains j))) → (∀ x ∈ s, 0 ≤ x ∧ x < 30) → ∀ j : Int, 0 ≤ j → j < 30 → (s.foldl (fun a (i : Int) => a.setIfInBounds i.toNat (.bool true)) a)[j.toNat]? = some (.bool ((pre ++ s).contains j))
  | [], pre, a, _, h, _, j, h0, h1 => by simpa using h j h0 h1
  | i :: s, pre, a, ha, h, hs, j, h0, h1 => by
    have hi := hs i (by simp)
    have h2 := impl_BalanceOf.sc_fold s (pre ++ [i]) (a.setIfInBounds i.toNat (.bool true)) (by simpa using ha) (fun m m0 m1 => by
      rw [Array.getElem?_setIfInBounds]
      by_cases he : i.toNat = m.toNat
      · have : i = m := by omega
        subst this
        have h4 : i.toNat < 30 := by omega
        simp [ha, h4]
      · have h5 : ¬ m = i := by omega
        simp [he, h m m0 m1, h5]) (fun x hx => hs x (by simp [hx])) j h0 h1
    simpa using h2
theorem impl_BalanceOf.sc_at (s : List Int) (hs : ∀ x ∈ s, 0 ≤ x ∧ x < 30) (j : Int) (h0 : 0 ≤ j) (h1 : j < 30) : (impl_BalanceOf.sc s)[j.toNat]? = some (.bool (s.contains j)) := by
  have h := impl_BalanceOf.sc_fold s [] (Array.replicate 30 (.bool false)) (by simp) (fun m m0 m1 => by
    have h4 : m.toNat < 30 := by omega
    simp [Array.getElem?_replicate, h4]) hs j h0 h1
  simpa [impl_BalanceOf.sc] using h
theorem impl_BalanceOf.arr (w : World) (x y z : Obj) (nd : Nat) : ((((w.alloc x).drewN nd).alloc y).alloc z).heap[w.heap.size + 1]? = some y :=
  (Below.heap_alloc _ _ _ (by simp)).trans (by have h := heap_alloc_new ((w.alloc x).drewN nd) y; simpa using h)
theorem impl_BalanceOf.put {w : World} {b i : Nat} {cs : Array Value} {T : TypeId} {fr : Nat × Nat} (hb : w.heap[b]? = some (.cells cs T fr)) (v : Value) : (w.setCell ⟨b, i, none⟩ v).heap[b]? = some (.cells (cs.setIfInBounds i v) T fr) := by
  simp [World.setCell, Array.getElem?_modify, hb]
theorem impl_BalanceOf.arr0 (w : World) (x y z : Obj) (nd : Nat) : ((((w.alloc x).drewN nd).alloc y).alloc z).heap[w.heap.size]? = some x :=
  (Below.heap_alloc _ _ _ (by simp; omega)).trans ((Below.heap_alloc _ _ _ (by simp)).trans (by have h := heap_alloc_new w x; simpa using h))
def impl_BalanceOf.f (k : Nat) (l r : List Int) (n : Int) : Option (Int × Bool) := (impl_LengthOf.f k n).bind fun t => if t = 0 then some (0, false) else (slices_Concat_int_int.f k [l, r]).bind fun c => if c = l ++ r then (if impl_BalanceOf.bad [] c = true then some (0, false) else (impl_BalanceOf.s1 k l n).bind fun a => (impl_BalanceOf.s2 k r a).bind fun b => (impl_SignOf.f b).bind fun v => some (v, true)) else none
theorem impl_BalanceOf.mono : ∀ l r n k, LeO (impl_BalanceOf.f k l r n) (impl_BalanceOf.f (k + 1) l r n) := fun l r n k => LeO.bind (impl_LengthOf.mono n k) (fun _ => LeO.ite (LeO.refl _) (LeO.bind (slices_Concat_int_int.mono _ k) (fun _ => LeO.ite (LeO.ite (LeO.refl _) (LeO.bind (impl_BalanceOf.s1_mono k l n) (fun _ => LeO.bind (impl_BalanceOf.s2_mono k r _) (fun _ => LeO.refl _)))) (LeO.refl _))))
set_option maxHeartbeats 8000000 in
set_option maxRecDepth 100000 in
theorem impl_BalanceOf.calls (k : Nat) (A0_0 : Option Addr) (c0_0 : Nat) (l0_0 : List Int) (A0_1 : Option Addr) (c0_1 : Nat) (l0_1 : List Int) (a1 : Int) (r1 : Int) (r2 : Bool) (w : World) (hr0_0 : Kd.C (Kd.int .i64) w A0_0 l0_0.length l0_0) (hc0_0 : l0_0.length ≤ c0_0) (hr0_1 : Kd.C (Kd.int .i64) w A0_1 l0_1.length l0_1) (hc0_1 : l0_1.length ≤ c0_1) (h : impl_BalanceOf.f k l0_0 l0_1 a1 = some (r1, r2)) :
    Calls Try.prog 41 #[.agg #[.slice A0_0 l0_0.length c0_0, .slice A0_1 l0_1.length c0_1], .int .i64 a1] w fun e w' => e = .returned (.tuple #[.int .i64 r1, .bool r2]) ∧ Below w.heap.size w w' := by
  obtain ⟨t, ht, h⟩ := Option.bind_eq_some_iff.1 h
  by_cases c0t : t = 0
  · rw [if_pos c0t] at h
    obtain ⟨rfl, rfl⟩ := Prod.mk.inj (Option.some.inj h)
    have e1 : (t == 0) = true := beq_iff_eq.mpr c0t
    go_enter Try.func41, Try.ntmps41
    go_wp2_with (go_at_call 81; with_reducible refine (impl_LengthOf.calls k a1 t _ ht).mono ?_; rintro e w1 ⟨rfl, ⟨nd, rfl⟩⟩)
    go_ret2
    exact ⟨by first | rfl | simp, by repeat (first | (with_reducible first | exact Below.refl _ _ | apply below_alloc | apply pw_below_drewN | apply below_drew1) | exact Below.refl _ _)⟩
  · rw [if_neg c0t] at h
    have e1 : (t == 0) = false := beq_eq_false_iff_ne.mpr c0t
    obtain ⟨c, hcat, h⟩ := Option.bind_eq_some_iff.1 h
    by_cases hc : c = l0_0 ++ l0_1
    · rw [if_pos hc] at h
      have hcon2 : ∀ (W : World) (b : Nat), W.cell? ⟨b, 0, none⟩ = some (.slice A0_0 l0_0.length c0_0) → W.cell? ⟨b, 1, none⟩ = some (.slice A0_1 l0_1.length c0_1) → Kd.C (Kd.int .i64) W A0_0 l0_0.length l0_0 → Kd.C (Kd.int .i64) W A0_1 l0_1.length l0_1 →
          Calls Try.prog 64 #[.slice (some ⟨b, 0, none⟩) 2 2] W fun e w' => ∃ (A : Option Addr) (n' : Nat), e = .returned (.slice A c.length n') ∧ Kd.R (Kd.int .i64) 3 w' W.heap.size (fun k => W.heap.size ≤ k) (.slice A c.length n') c ∧ Below W.heap.size W w' := by
        intro W b m0 m1 r0 r1
        refine (slices_Concat_int_int.calls k (some ⟨b, 0, none⟩) 2 [l0_0, l0_1] c W ⟨rfl, by simp, fun _ => ⟨_, rfl, fun j p hp => ?_⟩⟩ (by simp) hcat).mono ?_
        · match j, hp with
          | 0, hp =>
            obtain rfl := Option.some.inj hp
            refine ⟨[.slice A0_0 l0_0.length c0_0], rfl, ⟨A0_0, c0_0, rfl, hc0_0, r0⟩, fun i u hu => ?_⟩
            match i, hu with
            | 0, hu => obtain rfl := Option.some.inj hu; simpa [Addr.add, Kd.slice] using m0
          | 1, hp =>
            obtain rfl := Option.some.inj hp
            refine ⟨[.slice A0_1 l0_1.length c0_1], rfl, ⟨A0_1, c0_1, rfl, hc0_1, r1⟩, fun i u hu => ?_⟩
            match i, hu with
            | 0, hu => obtain rfl := Option.some.inj hu; simpa [Addr.add, Kd.slice] using m1
        · rintro e w' ⟨v, rfl, hR, hB⟩
          obtain ⟨A, n', rfl⟩ := Kd.R_slice hR
          exact ⟨A, n', rfl, Kd.R_mono (Kd.R_bound hR) (fun k hk => hk.2.1), hB⟩
      clear hcat
      replace hc := Aside0.mk hc
      by_cases hbad : impl_BalanceOf.bad [] c = true
      · rw [if_pos hbad] at h
        obtain ⟨rfl, rfl⟩ := Prod.mk.inj (Option.some.inj h)
        have hbad := Aside0.mk hbad
        go_enter Try.func41, Try.ntmps41
        go_wp2_with (first | (go_at_call 81; with_reducible refine (impl_LengthOf.calls k a1 t _ ht).mono ?_; rintro e w1 ⟨rfl, ⟨nd, rfl⟩⟩) | (go_at_call 64; with_reducible refine (hcon2 _ (w.heap.size + 1 + 1) (by go_simp; done) (by go_simp; done) (by with_reducible repeat (first | exact hr0_0 | refine Kd.C_alloc ?_ _ | refine Kd.C_drewN ?_ _ | refine Kd.C_drew ?_)) (by with_reducible repeat (first | exact hr0_1 | refine Kd.C_alloc ?_ _ | refine Kd.C_drewN ?_ _ | refine Kd.C_drew ?_))).mono ?_; rintro e w2 ⟨A2, n2, rfl, RR, hb2⟩; have mA : w2.heap[w.heap.size + 1]? = some (.cells (impl_BalanceOf.sc []) 79 (0, 0)) := (hb2.block (w.heap.size + 1) (by first | omega | (simp; done) | (simp; omega))).trans ((impl_BalanceOf.arr _ _ _ _ _).trans rfl); have m0 : w2.cell? ⟨w.heap.size, 0, none⟩ = some (.slice A0_0 l0_0.length c0_0) := (hb2.cell (p := ⟨w.heap.size, 0, none⟩) (by first | omega | (simp; done) | (simp; omega))).trans (by first | (go_simp; done) | simp); have m1 : w2.cell? ⟨w.heap.size, 1, none⟩ = some (.slice A0_1 l0_1.length c0_1) := (hb2.cell (p := ⟨w.heap.size, 1, none⟩) (by first | omega | (simp; done) | (simp; omega))).trans (by first | (go_simp; done) | simp); have HB2 : Below w.heap.size w w2 := (show Below w.heap.size w _ by repeat (first | (with_reducible first | exact Below.refl _ _ | apply below_alloc | apply pw_below_drewN | apply below_drew1) | exact Below.refl _ _)).trans (hb2.mono (by first | omega | (simp; done) | (simp; omega))); have hs2 : w.heap.size + 3 ≤ w2.heap.size := (by have := hb2.size; simp at this; omega); replace RR : Kd.R (Kd.int .i64) 3 w2 w.heap.size (fun k => w.heap.size + 3 ≤ k) (.slice A2 c.length n2) c := Kd.R_mono (Kd.R_lower RR (by first | omega | (simp; done) | (simp; omega))) (fun k_ hk_ => by first | omega | (simp at hk_; omega)); clear hb2))
        go_loopg [8, 23] c.length (fun gg _ s23 wr => ∃ kk : Nat, kk ≤ c.length ∧ c.length - kk ≤ gg ∧ s23 = .int .i64 kk ∧ Aside0 (∀ x ∈ c.take kk, 0 ≤ x ∧ x < 30) ∧ Aside0 (impl_BalanceOf.bad (c.take kk) (c.drop kk) = true) ∧ Aside0 (wr.heap[w.heap.size + 1]? = some (.cells (impl_BalanceOf.sc (c.take kk)) 79 (0, 0))) ∧ Aside0 (Kd.R (Kd.int .i64) 3 wr w.heap.size (fun k => w.heap.size + 3 ≤ k) (.slice A2 c.length n2) c) ∧ Aside0 (Below w.heap.size w wr))
        case atStart => exact ⟨0, Nat.zero_le _, by omega, rfl, ⟨by simp⟩, ⟨by simpa using hbad.out⟩, ⟨mA⟩, ⟨RR⟩, ⟨HB2⟩⟩
        case round =>
          clear mA m0 m1 hs2 RR HB2
          obtain ⟨kk, hkk, hg, rfl, hin, hbd, mA, RR, HB⟩ := hrel
          by_cases hlt : kk < c.length
          · have hltz : decide ((kk : Int) < (c.length : Int)) = true := decide_eq_true (by omega)
            obtain ⟨adx, ex, hx⟩ := Kd.at_int (Kd.R_reads' RR.out).2.2 (kk : Int) (by omega) (by omega)
            cases ex
            have e : rd c (kk : Int) = c[kk] := by simp [rd, List.getD_eq_getElem?_getD, List.getElem?_eq_getElem hlt]
            rw [show ((kk : Int)).toNat = kk by omega, e] at hx
            have hbd' := hbd.out
            rw [List.drop_eq_getElem_cons hlt] at hbd'
            simp only [impl_BalanceOf.bad] at hbd'
            have htk := List.take_succ_eq_append_getElem hlt
            have hkl : c.length ≤ 9223372036854775807 := (Kd.R_reads' RR.out).2.2.2.1
            obtain ⟨x, hxx⟩ : ∃ x, x = c[kk] := ⟨_, rfl⟩
            rw [← hxx] at hx hbd' htk
            clear hxx e
            have b3 : (kk < c.length) = True := eq_true hlt
            have b4 : (0 ≤ (kk : Int)) = True := eq_true (by omega)
            have b5 : ((kk : Int) < (c.length : Int)) = True := eq_true (by omega)
            by_cases x0 : x < 0
            · have x0b : decide (x < 0) = true := decide_eq_true x0
              go_wp2
              go_ret2
              exact ⟨by first | rfl | simp, HB.out⟩
            · have x0b : decide (x < 0) = false := decide_eq_false x0
              by_cases x1 : 30 ≤ x
              · have x1b : decide (30 ≤ x) = true := decide_eq_true x1
                go_wp2
                go_ret2
                exact ⟨by first | rfl | simp, HB.out⟩
              · have x1b : decide (30 ≤ x) = false := decide_eq_false x1
                have b6 : (0 ≤ x) = True := eq_true (by omega)
                have b7 : (x < 30) = True := eq_true (by omega)
                have hA := mA.out
                have hseen : wr.cell? ⟨w.heap.size + 1, x.toNat, none⟩ = some (.bool ((c.take kk).contains x)) := by
                  have h1 := impl_BalanceOf.sc_at (c.take kk) hin.out x (by omega) (by omega)
                  simp [World.cell?, hA, h1]
                have hfr : wr.frozen? ⟨w.heap.size + 1, x.toNat, none⟩ = false := by
                  simp [World.frozen?, hA]
                clear hA
                cases hs : (c.take kk).contains x with
                | true =>
                  rw [hs] at hseen
                  clear hs hbd'
                  go_wp2
                  go_ret2
                  exact ⟨by first | rfl | simp, HB.out⟩
                | false =>
                  rw [hs] at hseen
                  have hbn : impl_BalanceOf.bad (c.take (kk + 1)) (c.drop (kk + 1)) = true := by
                    rw [htk]
                    rw [x0b, x1b, hs] at hbd'
                    simpa using hbd'
                  have hin1 : ∀ y ∈ c.take (kk + 1), 0 ≤ y ∧ y < 30 := by
                    rw [htk]
                    intro y hy
                    rcases List.mem_append.1 hy with hy | hy
                    · exact hin.out y hy
                    · rw [List.mem_singleton.1 hy]; omega
                  have mA1 : (wr.setCell ⟨w.heap.size + 1, x.toNat, none⟩ (.bool true)).heap[w.heap.size + 1]? = some (.cells (impl_BalanceOf.sc (c.take (kk + 1))) 79 (0, 0)) := by
                    rw [htk, impl_BalanceOf.sc_snoc]
                    exact impl_BalanceOf.put mA.out _
                  have RR1 := Kd.R_far RR.out (p := ⟨w.heap.size + 1, x.toNat, none⟩) (fun k hk => by dsimp only; omega) (.bool true)
                  have HB1 := Below.setCell HB.out (p := ⟨w.heap.size + 1, x.toNat, none⟩) (by dsimp only; omega) (.bool true)
                  replace hbn := Aside0.mk hbn
                  replace hin1 := Aside0.mk hin1
                  replace mA1 := Aside0.mk mA1
                  replace RR1 := Aside0.mk RR1
                  replace HB1 := Aside0.mk HB1
                  clear hs hbd' htk
                  have hk1 : kk + 1 ≤ c.length := hlt
                  go_wp2
                  go_roundg (c.length - (kk + 1))
                  case measure => omega
                  case rel => exact ⟨kk + 1, by omega, by omega, by go_num, hin1, hbn, mA1, RR1, HB1⟩
          · exfalso
            have : kk = c.length := by omega
            have h1 := hbd.out
            rw [this] at h1
            simp [impl_BalanceOf.bad] at h1
      · rw [if_neg hbad] at h
        obtain ⟨va, hva, h⟩ := Option.bind_eq_some_iff.1 h
        obtain ⟨vb, hvb, h⟩ := Option.bind_eq_some_iff.1 h
        obtain ⟨vv, hvv, h⟩ := Option.bind_eq_some_iff.1 h
        obtain ⟨rfl, rfl⟩ := Prod.mk.inj (Option.some.inj h)
        replace hva := Aside0.mk hva
        replace hvb := Aside0.mk hvb
        clear h
        replace hbad : impl_BalanceOf.bad [] c = false := by simpa using hbad
        have hbad := Aside0.mk hbad
        go_enter Try.func41, Try.ntmps41
        go_wp2_with (first | (go_at_call 81; with_reducible refine (impl_LengthOf.calls k a1 t _ ht).mono ?_; rintro e w1 ⟨rfl, ⟨nd, rfl⟩⟩) | (go_at_call 64; with_reducible refine (hcon2 _ (w.heap.size + 1 + 1) (by go_simp; done) (by go_simp; done) (by with_reducible repeat (first | exact hr0_0 | refine Kd.C_alloc ?_ _ | refine Kd.C_drewN ?_ _ | refine Kd.C_drew ?_)) (by with_reducible repeat (first | exact hr0_1 | refine Kd.C_alloc ?_ _ | refine Kd.C_drewN ?_ _ | refine Kd.C_drew ?_))).mono ?_; rintro e w2 ⟨A2, n2, rfl, RR, hb2⟩; have mA : w2.heap[w.heap.size + 1]? = some (.cells (impl_BalanceOf.sc []) 79 (0, 0)) := (hb2.block (w.heap.size + 1) (by first | omega | (simp; done) | (simp; omega))).trans ((impl_BalanceOf.arr _ _ _ _ _).trans rfl); have mB : w2.heap[w.heap.size]? = some (.cells #[.slice A0_0 l0_0.length c0_0, .slice A0_1 l0_1.length c0_1] 29 (0, 0)) := (hb2.block w.heap.size (by first | omega | (simp; done) | (simp; omega))).trans (impl_BalanceOf.arr0 _ _ _ _ _); have HB2 : Below w.heap.size w w2 := (show Below w.heap.size w _ by repeat (first | (with_reducible first | exact Below.refl _ _ | apply below_alloc | apply pw_below_drewN | apply below_drew1) | exact Below.refl _ _)).trans (hb2.mono (by first | omega | (simp; done) | (simp; omega))); have hs2 : w.heap.size + 3 ≤ w2.heap.size := (by have := hb2.size; simp at this; omega); replace RR : Kd.R (Kd.int .i64) 3 w2 w.heap.size (fun k => w.heap.size + 3 ≤ k) (.slice A2 c.length n2) c := Kd.R_mono (Kd.R_lower RR (by first | omega | (simp; done) | (simp; omega))) (fun k_ hk_ => by first | omega | (simp at hk_; omega)); clear hb2))
        go_loopg [8, 23] c.length (fun gg _ s23 wr => ∃ kk : Nat, kk ≤ c.length ∧ c.length - kk ≤ gg ∧ s23 = .int .i64 kk ∧ Aside0 (∀ x ∈ c.take kk, 0 ≤ x ∧ x < 30) ∧ Aside0 (impl_BalanceOf.bad (c.take kk) (c.drop kk) = false) ∧ Aside0 (wr.heap[w.heap.size + 1]? = some (.cells (impl_BalanceOf.sc (c.take kk)) 79 (0, 0))) ∧ Aside0 (wr.heap[w.heap.size]? = some (.cells #[.slice A0_0 l0_0.length c0_0, .slice A0_1 l0_1.length c0_1] 29 (0, 0))) ∧ Aside0 (Kd.R (Kd.int .i64) 3 wr w.heap.size (fun k => w.heap.size + 3 ≤ k) (.slice A2 c.length n2) c) ∧ Aside0 (Below w.heap.size w wr))
        case atStart => exact ⟨0, Nat.zero_le _, by omega, rfl, ⟨by simp⟩, ⟨by simpa using hbad.out⟩, ⟨mA⟩, ⟨mB⟩, ⟨RR⟩, ⟨HB2⟩⟩
        case round =>
          clear mA mB hs2 RR HB2
          obtain ⟨kk, hkk, hg, rfl, hin, hbd, mA, mB, RR, HB⟩ := hrel
          by_cases hlt : kk < c.length
          · have hltz : decide ((kk : Int) < (c.length : Int)) = true := decide_eq_true (by omega)
            obtain ⟨adx, ex, hx⟩ := Kd.at_int (Kd.R_reads' RR.out).2.2 (kk : Int) (by omega) (by omega)
            cases ex
            have e : rd c (kk : Int) = c[kk] := by simp [rd, List.getD_eq_getElem?_getD, List.getElem?_eq_getElem hlt]
            rw [show ((kk : Int)).toNat = kk by omega, e] at hx
            have hbd' := hbd.out
            rw [List.drop_eq_getElem_cons hlt] at hbd'
            simp only [impl_BalanceOf.bad] at hbd'
            have htk := List.take_succ_eq_append_getElem hlt
            have hkl : c.length ≤ 9223372036854775807 := (Kd.R_reads' RR.out).2.2.2.1
            obtain ⟨x, hxx⟩ : ∃ x, x = c[kk] := ⟨_, rfl⟩
            rw [← hxx] at hx hbd' htk
            clear hxx e
            have b3 : (kk < c.length) = True := eq_true hlt
            have b4 : (0 ≤ (kk : Int)) = True := eq_true (by omega)
            have b5 : ((kk : Int) < (c.length : Int)) = True := eq_true (by omega)
            by_cases x0 : x < 0
            · have x0b : decide (x < 0) = true := decide_eq_true x0
              rw [x0b] at hbd'
              simp at hbd'
            · have x0b : decide (x < 0) = false := decide_eq_false x0
              by_cases x1 : 30 ≤ x
              · have x1b : decide (30 ≤ x) = true := decide_eq_true x1
                rw [x1b] at hbd'
                simp at hbd'
              · have x1b : decide (30 ≤ x) = false := decide_eq_false x1
                have b6 : (0 ≤ x) = True := eq_true (by omega)
                have b7 : (x < 30) = True := eq_true (by omega)
                have hA := mA.out
                have hseen : wr.cell? ⟨w.heap.size + 1, x.toNat, none⟩ = some (.bool ((c.take kk).contains x)) := by
                  have h1 := impl_BalanceOf.sc_at (c.take kk) hin.out x (by omega) (by omega)
                  simp [World.cell?, hA, h1]
                have hfr : wr.frozen? ⟨w.heap.size + 1, x.toNat, none⟩ = false := by
                  simp [World.frozen?, hA]
                clear hA
                cases hs : (c.take kk).contains x with
                | true =>
                  rw [hs] at hbd'
                  simp at hbd'
                | false =>
                  rw [hs] at hseen
                  have hbn : impl_BalanceOf.bad (c.take (kk + 1)) (c.drop (kk + 1)) = false := by
                    rw [htk]
                    rw [x0b, x1b, hs] at hbd'
                    simpa using hbd'
                  have hin1 : ∀ y ∈ c.take (kk + 1), 0 ≤ y ∧ y < 30 := by
                    rw [htk]
                    intro y hy
                    rcases List.mem_append.1 hy with hy | hy
                    · exact hin.out y hy
                    · rw [List.mem_singleton.1 hy]; omega
                  have mA1 : (wr.setCell ⟨w.heap.size + 1, x.toNat, none⟩ (.bool true)).heap[w.heap.size + 1]? = some (.cells (impl_BalanceOf.sc (c.take (kk + 1))) 79 (0, 0)) := by
                    rw [htk, impl_BalanceOf.sc_snoc]
                    exact impl_BalanceOf.put mA.out _
                  have mB1 := (Below.heap_setCell wr ⟨w.heap.size + 1, x.toNat, none⟩ (.bool true) w.heap.size (by dsimp only; omega)).trans mB.out
                  have RR1 := Kd.R_far RR.out (p := ⟨w.heap.size + 1, x.toNat, none⟩) (fun k hk => by dsimp only; omega) (.bool true)
                  have HB1 := Below.setCell HB.out (p := ⟨w.heap.size + 1, x.toNat, none⟩) (by dsimp only; omega) (.bool true)
                  replace hbn := Aside0.mk hbn
                  replace hin1 := Aside0.mk hin1
                  replace mA1 := Aside0.mk mA1
                  replace mB1 := Aside0.mk mB1
                  replace RR1 := Aside0.mk RR1
                  replace HB1 := Aside0.mk HB1
                  clear hs hbd' htk
                  have hk1 : kk + 1 ≤ c.length := hlt
                  go_wp2
                  go_roundg (c.length - (kk + 1))
                  case measure => omega
                  case rel => exact ⟨kk + 1, by omega, by omega, by go_num, hin1, hbn, mA1, mB1, RR1, HB1⟩
          · have hltz : decide ((kk : Int) < (c.length : Int)) = false := decide_eq_false (by omega)
            have q0 : wr.cell? ⟨w.heap.size, 0, none⟩ = some (.slice A0_0 l0_0.length c0_0) := by simp [World.cell?, mB.out]
            have q1 : wr.cell? ⟨w.heap.size, 1, none⟩ = some (.slice A0_1 l0_1.length c0_1) := by simp [World.cell?, mB.out]
            have hs4 : w.heap.size < wr.heap.size := by
              rcases Nat.lt_or_ge w.heap.size wr.heap.size with h1 | h1
              · exact h1
              · have := mB.out; rw [Array.getElem?_eq_none h1] at this; exact absurd this (by simp)
            have HB4 := HB.out
            clear mA mB RR HB hin hbd hg
            obtain ⟨w4, hw4⟩ : ∃ w4, w4 = wr := ⟨_, rfl⟩
            rw [← hw4] at q0 q1 HB4 hs4 ⊢
            clear hw4
            have : kk = c.length := by omega
            subst this
            go_wp2
            go_loopg [1, 10, 44] l0_0.length (fun gg s1 _ sc wr => ∃ (kk : Nat) (acc : Int), kk ≤ l0_0.length ∧ l0_0.length - kk ≤ gg ∧ sc = .int .i64 kk ∧ s1 = .int .i64 acc ∧ Aside0 (impl_BalanceOf.s1 k (l0_0.drop kk) acc = some va) ∧ Aside0 (Below w4.heap.size w4 wr))
            case atStart => exact ⟨0, a1, Nat.zero_le _, by omega, rfl, rfl, ⟨by simpa using hva.out⟩, ⟨Below.refl _ _⟩⟩
            case round =>
              obtain ⟨kk, acc, hkk, hg, rfl, rfl, hs, BW⟩ := hrel
              by_cases hlt : kk < l0_0.length
              · have hltz : decide ((kk : Int) < (l0_0.length : Int)) = true := decide_eq_true (by omega)
                obtain ⟨adx, ex, hx⟩ := Kd.at_int (Kd.C_below hr0_0 (HB4.trans (BW.out.mono (by omega)))) (kk : Int) (by omega) (by omega)
                cases ex
                have e : rd l0_0 (kk : Int) = l0_0[kk] := by simp [rd, List.getD_eq_getElem?_getD, List.getElem?_eq_getElem hlt]
                rw [show ((kk : Int)).toNat = kk by omega, e] at hx
                have hs' := hs.out
                rw [List.drop_eq_getElem_cons hlt] at hs'
                simp only [impl_BalanceOf.s1] at hs'
                obtain ⟨pw, hpw, hs'⟩ := Option.bind_eq_some_iff.1 hs'
                have hkl : l0_0.length ≤ 9223372036854775807 := hr0_0.2.1
                obtain ⟨x, hxx⟩ : ∃ x, x = l0_0[kk] := ⟨_, rfl⟩
                rw [← hxx] at hx hpw
                clear hxx e
                replace hs' := Aside0.mk hs'
                have b3 : (kk < l0_0.length) = True := eq_true hlt
                have b4 : (0 ≤ (kk : Int)) = True := eq_true (by omega)
                have b5 : ((kk : Int) < (l0_0.length : Int)) = True := eq_true (by omega)
                have hk1 : kk + 1 ≤ l0_0.length := hlt
                go_wp2_with (go_at_call 78; with_reducible refine (impl_power.calls k x pw _ hpw).mono ?_; rintro e w' ⟨rfl, ⟨nd, rfl⟩⟩)
                go_roundg (l0_0.length - (kk + 1))
                case measure => omega
                case rel => exact ⟨kk + 1, wrap64 (acc + pw), by omega, by omega, by go_num, by first | rfl | go_num, hs', ⟨by repeat (first | (with_reducible first | exact BW.out | apply below_alloc | apply pw_below_drewN | apply below_drew1) | exact BW.out)⟩⟩
              · have hltz : decide ((kk : Int) < (l0_0.length : Int)) = false := decide_eq_false (by omega)
                have hs' := hs.out
                rw [List.drop_eq_nil_of_le (by omega)] at hs'
                obtain rfl := Option.some.inj hs'
                clear hs hs' hg
                have : kk = l0_0.length := by omega
                subst this
                have r1 := (BW.out.cell (p := ⟨w.heap.size, 1, none⟩) hs4).trans q1
                have HB5 := HB4.trans (BW.out.mono (by omega))
                clear BW q0 q1
                obtain ⟨w5, hw5⟩ : ∃ w5, w5 = wr := ⟨_, rfl⟩
                rw [← hw5] at r1 HB5 ⊢
                have hs5 : w.heap.size ≤ w5.heap.size := HB5.size
                clear hw5
                go_wp2
                go_loopg [1, 12, 56] l0_1.length (fun gg s1 _ sc wr => ∃ (kk : Nat) (acc : Int), kk ≤ l0_1.length ∧ l0_1.length - kk ≤ gg ∧ sc = .int .i64 kk ∧ s1 = .int .i64 acc ∧ Aside0 (impl_BalanceOf.s2 k (l0_1.drop kk) acc = some vb) ∧ Aside0 (Below w5.heap.size w5 wr))
                case atStart => exact ⟨0, acc, Nat.zero_le _, by omega, rfl, rfl, ⟨by simpa using hvb.out⟩, ⟨Below.refl _ _⟩⟩
                case round =>
                  obtain ⟨kk, acc, hkk, hg, rfl, rfl, hs, BW⟩ := hrel
                  by_cases hlt : kk < l0_1.length
                  · have hltz : decide ((kk : Int) < (l0_1.length : Int)) = true := decide_eq_true (by omega)
                    obtain ⟨adx, ex, hx⟩ := Kd.at_int (Kd.C_below hr0_1 (HB5.trans (BW.out.mono (by omega)))) (kk : Int) (by omega) (by omega)
                    cases ex
                    have e : rd l0_1 (kk : Int) = l0_1[kk] := by simp [rd, List.getD_eq_getElem?_getD, List.getElem?_eq_getElem hlt]
                    rw [show ((kk : Int)).toNat = kk by omega, e] at hx
                    have hs' := hs.out
                    rw [List.drop_eq_getElem_cons hlt] at hs'
                    simp only [impl_BalanceOf.s2] at hs'
                    obtain ⟨pw, hpw, hs'⟩ := Option.bind_eq_some_iff.1 hs'
                    have hkl : l0_1.length ≤ 9223372036854775807 := hr0_1.2.1
                    obtain ⟨x, hxx⟩ : ∃ x, x = l0_1[kk] := ⟨_, rfl⟩
                    rw [← hxx] at hx hpw
                    clear hxx e
                    replace hs' := Aside0.mk hs'
                    have b3 : (kk < l0_1.length) = True := eq_true hlt
                    have b4 : (0 ≤ (kk : Int)) = True := eq_true (by omega)
                    have b5 : ((kk : Int) < (l0_1.length : Int)) = True := eq_true (by omega)
                    have hk1 : kk + 1 ≤ l0_1.length := hlt
                    go_wp2_with (go_at_call 78; with_reducible refine (impl_power.calls k x pw _ hpw).mono ?_; rintro e w' ⟨rfl, ⟨nd, rfl⟩⟩)
                    go_roundg (l0_1.length - (kk + 1))
                    case measure => omega
                    case rel => exact ⟨kk + 1, wrap64 (acc - pw), by omega, by omega, by go_num, by first | rfl | go_num, hs', ⟨by repeat (first | (with_reducible first | exact BW.out | apply below_alloc | apply pw_below_drewN | apply below_drew1) | exact BW.out)⟩⟩
                  · have hltz : decide ((kk : Int) < (l0_1.length : Int)) = false := decide_eq_false (by omega)
                    have hs' := hs.out
                    rw [List.drop_eq_nil_of_le (by omega)] at hs'
                    obtain rfl := Option.some.inj hs'
                    clear hs hs' hg
                    have : kk = l0_1.length := by omega
                    subst this
                    have HB6 := HB5.trans (BW.out.mono (by omega))
                    clear BW
                    go_wp2_with (go_at_call 66; with_reducible refine (impl_SignOf.calls _ vv _ hvv).mono ?_; rintro e w' ⟨rfl, ⟨nd, rfl⟩⟩)
                    go_ret2
                    exact ⟨by first | rfl | simp, by repeat (first | (with_reducible first | exact HB6 | apply below_alloc | apply pw_below_drewN | apply below_drew1) | exact HB6)⟩
    · rw [if_neg hc] at h
      exact absurd h (by simp)

/-! ### spec_l2Value: function 80 -/
def spec_l2Value.l0 : Nat → List Int → Int → Int → Option (Int)
  | 0, _, _, _ => none
  | k + 1, x0, x3, x4 => if x4 ≥ 0 then (if 0 ≤ x4 then (if x4 < (x0.length : Int) then (spec_l2Value.l0 k x0 (wrap64 ((wrap64 (3 * x3)) + (rd x0 x4))) (wrap64 (x4 - 1))) else (none)) else (none)) else (some x3)
def spec_l2Value.f (k : Nat) (l0 : List Int) : Option (Int) := spec_l2Value.l0 k l0 0 (wrap64 ((l0.length : Int) - 1))
theorem spec_l2Value.mono_l : ∀ k, (∀ y0 y1 y2, LeO (spec_l2Value.l0 k y0 y1 y2) (spec_l2Value.l0 (k + 1) y0 y1 y2))
  | 0 => fun _ _ _ r h => by simp [spec_l2Value.l0] at h
  | k + 1 => by
    have ih0 := spec_l2Value.mono_l k
    · intro y0 y1 y2
      unfold spec_l2Value.l0
      repeat' first
      | (with_reducible exact ih0 _ _ _)
      | (with_reducible exact LeO.refl _)
      | (with_reducible exact LeO.none _)
      | (with_reducible refine LeO.ite ?_ ?_)
      | (with_reducible refine LeO.bind ?_ (fun _ => ?_))
      | exact ih0 _ _ _
      | exact LeO.none _
      | refine LeO.ite ?_ ?_
      | refine LeO.bind ?_ (fun _ => ?_)
theorem spec_l2Value.mono : ∀ a0 k, LeO (spec_l2Value.f k a0) (spec_l2Value.f (k + 1) a0) := by
  intro a0 k
  have ih0 := spec_l2Value.mono_l k
  unfold spec_l2Value.f
  repeat' first
      | (with_reducible exact ih0 _ _ _)
      | (with_reducible exact LeO.refl _)
      | (with_reducible exact LeO.none _)
      | (with_reducible refine LeO.ite ?_ ?_)
      | (with_reducible refine LeO.bind ?_ (fun _ => ?_))
      | exact ih0 _ _ _
      | exact LeO.none _
      | refine LeO.ite ?_ ?_
      | refine LeO.bind ?_ (fun _ => ?_)
set_option maxHeartbeats 8000000 in
set_option maxRecDepth 100000 in
theorem spec_l2Value.calls (k : Nat) (A0 : Option Addr) (c0 : Nat) (l0 : List Int) (r : Int) (w : World) (hr0 : Kd.C (Kd.int .i64) w A0 l0.length l0) (hc0 : l0.length ≤ c0) (h : spec_l2Value.f k l0 = some r) :
    Calls Try.prog 80 #[.slice A0 l0.length c0] w fun e w' => e = .returned (.int .i64 r) ∧ Drawn0 w w' := by
  have HR0 := Aside0.mk hr0
  have HC0 := Aside0.mk hc0
  clear hr0 hc0
  have H : (spec_l2Value.l0 k l0 0 (wrap64 ((l0.length : Int) - 1))) = some r := h
  clear h
  have H' := Aside0.mk H
  clear H
  go_enter Try.func80, Try.ntmps80
  go_wp2
  go_loopg [3, 4] k (fun kq v3 v4 w' => ∃ (x3_1 : Int) (x4_1 : Int), v3 = .int .i64 x3_1 ∧ v4 = .int .i64 x4_1 ∧ Aside0 (spec_l2Value.l0 kq l0 x3_1 x4_1 = some r) ∧ Aside0 (kq ≤ k) ∧ Drawn0 w w')
  case atStart => exact ⟨(0), (wrap64 ((l0.length : Int) - 1)), (by first | rfl | (simp; done) | (simp [*]; done)), (by first | rfl | (simp; done) | (simp [*]; done)), H', ⟨Nat.le_refl _⟩, by repeat (first | exact Drawn0.refl _ | apply Drawn0.step)⟩
  case round =>
    clear H'
    obtain ⟨x3_1, x4_1, rfl, rfl, HA, HK1, ⟨m1, rfl⟩⟩ := hrel
    cases gk with
    | zero => exact absurd HA.out (by simp [spec_l2Value.l0])
    | succ k1 =>
      have H := HA.out
      clear HA
      simp only [spec_l2Value.l0] at H
      by_cases c2 : x4_1 ≥ 0
      · rw [if_pos c2] at H
        have c2b0 : decide (0 ≤ x4_1) = true := decide_eq_true c2
        clear c2
        by_cases c3 : 0 ≤ x4_1
        · rw [if_pos c3] at H
          have c3b0 : decide (0 ≤ x4_1) = true := decide_eq_true c3
          clear c3
          by_cases c4 : x4_1 < (l0.length : Int)
          · rw [if_pos c4] at H
            have c4b0 : decide (x4_1 < (l0.length : Int)) = true := decide_eq_true c4
            clear c4
            have H' := Aside0.mk H
            clear H
            have p204 : 0 ≤ (x4_1 : Int) := of_decide_eq_true (by first | (with_reducible assumption) | assumption)
            have q204 : x4_1 < (l0.length : Int) := of_decide_eq_true (by first | (with_reducible assumption) | assumption)
            obtain ⟨ad204, e204, hx204_0⟩ := Kd.at_int HR0.out x4_1 p204 q204
            cases e204
            replace p204 := eq_true p204
            replace q204 := eq_true q204
            go_wp2
            go_roundg k1
            case measure => have := HK1.out; omega
            case rel => exact ⟨(wrap64 ((wrap64 (3 * x3_1)) + (rd l0 x4_1))), (wrap64 (x4_1 - 1)), (by first | rfl | (simp; done) | (simp [*]; done)), (by first | rfl | (simp; done) | (simp [*]; done)), H', ⟨by have := HK1.out; omega⟩, by repeat (first | exact Drawn0.refl _ | apply Drawn0.step)⟩
          · rw [if_neg c4] at H
            exact absurd H (by simp)
        · rw [if_neg c3] at H
          exact absurd H (by simp)
      · rw [if_neg c2] at H
        have c2b0 : decide (0 ≤ x4_1) = false := decide_eq_false c2
        clear c2
        obtain rfl := Option.some.inj H
        go_wp2
        go_ret
        exact ⟨by first | rfl | (simp; done) | (simp [*]; done), by repeat (first | exact Drawn0.refl _ | apply Drawn0.step)⟩

/-! ### spec_IsTrit: function 68 -/
def spec_IsTrit.f (a0 : Int) : Option (Bool) := (spec_l1In.f a0 (-1) 1).bind fun t205 => (some t205)
set_option maxHeartbeats 8000000 in
set_option maxRecDepth 100000 in
theorem spec_IsTrit.calls (a0 : Int) (r : Bool) (w : World) (h : spec_IsTrit.f a0 = some r) :
    Calls Try.prog 68 #[.int .i64 a0] w fun e w' => e = .returned (.bool r) ∧ Drawn0 w w' := by
  have H : ((spec_l1In.f a0 (-1) 1).bind fun t205 => (some t205)) = some r := h
  clear h
  replace H := Option.bind_eq_some_iff.mp H
  obtain ⟨t205, A20, H⟩ := H
  replace H : (some t205) = some r := H
  have A2 := Aside0.mk A20
  clear A20
  obtain rfl := Option.some.inj H
  go_enter Try.func68, Try.ntmps68
  go_wp2_with (first | ((with_reducible refine gate_callee (f := 60) rfl ?_); refine goesL_ (some 4) rfl rfl Try.func60 (by kernel_rfl) rfl #[.int .i64 a0, .int .i64 (-1), .int .i64 1] rfl (by (try simp only [List.map_toArray, List.map_cons, List.map_nil]); first | done | rfl | (simp only [List.length_drop, List.length_take]; rfl)) ?_; (with_reducible refine (spec_l1In.calls a0 (-1) 1 t205 _ A2.out).mono ?_); rintro e w' ⟨rfl, ⟨nd, rfl⟩⟩; refine ⟨_, rfl, ?_⟩))
  go_ret
  exact ⟨by first | rfl | (simp; done) | (simp [*]; done), by repeat (first | exact Drawn0.refl _ | apply Drawn0.step)⟩

/-! ### spec_IsWord: function 85 -/
def spec_IsWord.l0 : Nat → List Int → List Int → Int → Int → Option (Bool)
  | 0, _, _, _, _ => none
  | k + 1, x0, x5, x6, x7 => if x7 < x6 then (if 0 ≤ x7 then (if x7 < (x5.length : Int) then ((spec_IsTrit.f (rd x5 x7)).bind fun t207 => (if t207 = true then (spec_IsWord.l0 k x0 x5 x6 (wrap64 (x7 + 1))) else (some false))) else (none)) else (none)) else ((spec_l1In.f (x0.length : Int) 1 30).bind fun t208 => (some t208))
def spec_IsWord.f (k : Nat) (l0 : List Int) : Option (Bool) := spec_IsWord.l0 k l0 l0 (l0.length : Int) 0
theorem spec_IsWord.mono_l : ∀ k, (∀ y0 y1 y2 y3, LeO (spec_IsWord.l0 k y0 y1 y2 y3) (spec_IsWord.l0 (k + 1) y0 y1 y2 y3))
  | 0 => fun _ _ _ _ r h => by simp [spec_IsWord.l0] at h
  | k + 1 => by
    have ih0 := spec_IsWord.mono_l k
    · intro y0 y1 y2 y3
      unfold spec_IsWord.l0
      repeat' first
      | (with_reducible exact ih0 _ _ _ _)
      | (with_reducible exact LeO.refl _)
      | (with_reducible exact LeO.none _)
      | (with_reducible refine LeO.ite ?_ ?_)
      | (with_reducible refine LeO.bind ?_ (fun _ => ?_))
      | exact ih0 _ _ _ _
      | exact LeO.none _
      | refine LeO.ite ?_ ?_
      | refine LeO.bind ?_ (fun _ => ?_)
theorem spec_IsWord.mono : ∀ a0 k, LeO (spec_IsWord.f k a0) (spec_IsWord.f (k + 1) a0) := by
  intro a0 k
  have ih0 := spec_IsWord.mono_l k
  unfold spec_IsWord.f
  repeat' first
      | (with_reducible exact ih0 _ _ _ _)
      | (with_reducible exact LeO.refl _)
      | (with_reducible exact LeO.none _)
      | (with_reducible refine LeO.ite ?_ ?_)
      | (with_reducible refine LeO.bind ?_ (fun _ => ?_))
      | exact ih0 _ _ _ _
      | exact LeO.none _
      | refine LeO.ite ?_ ?_
      | refine LeO.bind ?_ (fun _ => ?_)
set_option maxHeartbeats 8000000 in
set_option maxRecDepth 100000 in
theorem spec_IsWord.calls (k : Nat) (A0 : Option Addr) (c0 : Nat) (l0 : List Int) (r : Bool) (w : World) (hr0 : Kd.C (Kd.int .i64) w A0 l0.length l0) (hc0 : l0.length ≤ c0) (h : spec_IsWord.f k l0 = some r) :
    Calls Try.prog 85 #[.slice A0 l0.length c0] w fun e w' => e = .returned (.bool r) ∧ Drawn0 w w' := by
  have HR0 := Aside0.mk hr0
  have HC0 := Aside0.mk hc0
  clear hr0 hc0
  have H : (spec_IsWord.l0 k l0 l0 (l0.length : Int) 0) = some r := h
  clear h
  have H' := Aside0.mk H
  clear H
  go_enter Try.func85, Try.ntmps85
  go_wp2
  go_loopg [7] k (fun kq v7 w' => ∃ (x7_1 : Int), v7 = .int .i64 x7_1 ∧ Aside0 (spec_IsWord.l0 kq l0 l0 (l0.length : Int) x7_1 = some r) ∧ Aside0 (kq ≤ k) ∧ Drawn0 w w')
  case atStart => exact ⟨(0), (by first | rfl | (simp; done) | (simp [*]; done)), H', ⟨Nat.le_refl _⟩, by repeat (first | exact Drawn0.refl _ | apply Drawn0.step)⟩
  case round =>
    clear H'
    obtain ⟨x7_1, rfl, HA, HK1, ⟨m1, rfl⟩⟩ := hrel
    cases gk with
    | zero => exact absurd HA.out (by simp [spec_IsWord.l0])
    | succ k1 =>
      have H := HA.out
      clear HA
      simp only [spec_IsWord.l0] at H
      by_cases c2 : x7_1 < (l0.length : Int)
      · rw [if_pos c2] at H
        have c2b0 : decide (x7_1 < (l0.length : Int)) = true := decide_eq_true c2
        clear c2
        by_cases c3 : 0 ≤ x7_1
        · rw [if_pos c3] at H
          have c3b0 : decide (0 ≤ x7_1) = true := decide_eq_true c3
          clear c3
          by_cases c4 : x7_1 < (l0.length : Int)
          · rw [if_pos c4] at H
            have c4b0 : decide (x7_1 < (l0.length : Int)) = true := decide_eq_true c4
            clear c4
            replace H := Option.bind_eq_some_iff.mp H
            obtain ⟨t207, A50, H⟩ := H
            replace H : (if t207 = true then (spec_IsWord.l0 k1 l0 l0 (l0.length : Int) (wrap64 (x7_1 + 1))) else (some false)) = some r := H
            have A5 := Aside0.mk A50
            clear A50
            by_cases c6 : t207 = true
            · (try subst c6)
              have H1 : (spec_IsWord.l0 k1 l0 l0 (l0.length : Int) (wrap64 (x7_1 + 1))) = some r := by rw [if_pos rfl] at H; exact H
              clear H
              have H := H1
              clear H1
              have H' := Aside0.mk H
              clear H
              have p206 : 0 ≤ (x7_1 : Int) := of_decide_eq_true (by first | (with_reducible assumption) | assumption)
              have q206 : x7_1 < (l0.length : Int) := of_decide_eq_true (by first | (with_reducible assumption) | assumption)
              obtain ⟨ad206, e206, hx206_0⟩ := Kd.at_int HR0.out x7_1 p206 q206
              cases e206
              replace p206 := eq_true p206
              replace q206 := eq_true q206
              go_wp2_with (first | ((with_reducible refine gate_callee (f := 68) rfl ?_); refine goesL_ (some 12) rfl rfl Try.func68 (by kernel_rfl) rfl #[.int .i64 (rd l0 x7_1)] rfl (by (try simp only [List.map_toArray, List.map_cons, List.map_nil]); first | done | rfl | (simp only [List.length_drop, List.length_take]; rfl)) ?_; (with_reducible refine (spec_IsTrit.calls (rd l0 x7_1) true _ A5.out).mono ?_); rintro e w' ⟨rfl, ⟨nd, rfl⟩⟩; refine ⟨_, rfl, ?_⟩))
              go_roundg k1
              case measure => have := HK1.out; omega
              case rel => exact ⟨(wrap64 (x7_1 + 1)), (by first | rfl | (simp; done) | (simp [*]; done)), H', ⟨by have := HK1.out; omega⟩, by repeat (first | exact Drawn0.refl _ | apply Drawn0.step)⟩
            · replace c6 := Bool.eq_false_iff.mpr c6
              (try subst c6)
              have H1 : (some false) = some r := by rw [if_neg (show ¬ (false = true) by decide)] at H; exact H
              clear H
              have H := H1
              clear H1
              obtain rfl := Option.some.inj H
              have p206 : 0 ≤ (x7_1 : Int) := of_decide_eq_true (by first | (with_reducible assumption) | assumption)
              have q206 : x7_1 < (l0.length : Int) := of_decide_eq_true (by first | (with_reducible assumption) | assumption)
              obtain ⟨ad206, e206, hx206_0⟩ := Kd.at_int HR0.out x7_1 p206 q206
              cases e206
              replace p206 := eq_true p206
              replace q206 := eq_true q206
              go_wp2_with (first | ((with_reducible refine gate_callee (f := 68) rfl ?_); refine goesL_ (some 12) rfl rfl Try.func68 (by kernel_rfl) rfl #[.int .i64 (rd l0 x7_1)] rfl (by (try simp only [List.map_toArray, List.map_cons, List.map_nil]); first | done | rfl | (simp only [List.length_drop, List.length_take]; rfl)) ?_; (with_reducible refine (spec_IsTrit.calls (rd l0 x7_1) false _ A5.out).mono ?_); rintro e w' ⟨rfl, ⟨nd, rfl⟩⟩; refine ⟨_, rfl, ?_⟩))
              go_ret
              exact ⟨by first | rfl | (simp; done) | (simp [*]; done), by repeat (first | exact Drawn0.refl _ | apply Drawn0.step)⟩
          · rw [if_neg c4] at H
            exact absurd H (by simp)
        · rw [if_neg c3] at H
          exact absurd H (by simp)
      · rw [if_neg c2] at H
        have c2b0 : decide (x7_1 < (l0.length : Int)) = false := decide_eq_false c2
        clear c2
        replace H := Option.bind_eq_some_iff.mp H
        obtain ⟨t208, A70, H⟩ := H
        replace H : (some t208) = some r := H
        have A7 := Aside0.mk A70
        clear A70
        obtain rfl := Option.some.inj H
        go_wp2_with (first | ((with_reducible refine gate_callee (f := 60) rfl ?_); refine goesL_ (some 17) rfl rfl Try.func60 (by kernel_rfl) rfl #[.int .i64 (l0.length : Int), .int .i64 1, .int .i64 30] rfl (by (try simp only [List.map_toArray, List.map_cons, List.map_nil]); first | done | rfl | (simp only [List.length_drop, List.length_take]; rfl)) ?_; (with_reducible refine (spec_l1In.calls (l0.length : Int) 1 30 t208 _ A7.out).mono ?_); rintro e w' ⟨rfl, ⟨nd, rfl⟩⟩; refine ⟨_, rfl, ?_⟩))
        go_ret
        exact ⟨by first | rfl | (simp; done) | (simp [*]; done), by repeat (first | exact Drawn0.refl _ | apply Drawn0.step)⟩

/-! ### spec_ValueOf: function 49 -/
def spec_ValueOf.f (k : Nat) (l0 : List Int) : Option (Int) := (spec_IsWord.f k l0).bind fun t209 => (if t209 = true then ((spec_l2Value.f k l0).bind fun t210 => (some t210)) else (some 0))
theorem spec_ValueOf.mono : ∀ a0 k, LeO (spec_ValueOf.f k a0) (spec_ValueOf.f (k + 1) a0) := by
  intro a0 k
  unfold spec_ValueOf.f
  repeat' first
      | (with_reducible exact spec_IsWord.mono _ _)
      | (with_reducible exact spec_l2Value.mono _ _)
      | (with_reducible exact LeO.refl _)
      | (with_reducible exact LeO.none _)
      | (with_reducible refine LeO.ite ?_ ?_)
      | (with_reducible refine LeO.bind ?_ (fun _ => ?_))
      | exact spec_IsWord.mono _ _
      | exact spec_l2Value.mono _ _
      | exact LeO.none _
      | refine LeO.ite ?_ ?_
      | refine LeO.bind ?_ (fun _ => ?_)
set_option maxHeartbeats 8000000 in
set_option maxRecDepth 100000 in
theorem spec_ValueOf.calls (k : Nat) (A0 : Option Addr) (c0 : Nat) (l0 : List Int) (r : Int) (w : World) (hr0 : Kd.C (Kd.int .i64) w A0 l0.length l0) (hc0 : l0.length ≤ c0) (h : spec_ValueOf.f k l0 = some r) :
    Calls Try.prog 49 #[.slice A0 l0.length c0] w fun e w' => e = .returned (.int .i64 r) ∧ Drawn0 w w' := by
  have HR0 := Aside0.mk hr0
  have HC0 := Aside0.mk hc0
  clear hr0 hc0
  have H : ((spec_IsWord.f k l0).bind fun t209 => (if t209 = true then ((spec_l2Value.f k l0).bind fun t210 => (some t210)) else (some 0))) = some r := h
  clear h
  replace H := Option.bind_eq_some_iff.mp H
  obtain ⟨t209, A20, H⟩ := H
  replace H : (if t209 = true then ((spec_l2Value.f k l0).bind fun t210 => (some t210)) else (some 0)) = some r := H
  have A2 := Aside0.mk A20
  clear A20
  by_cases c3 : t209 = true
  · (try subst c3)
    have H1 : ((spec_l2Value.f k l0).bind fun t210 => (some t210)) = some r := by rw [if_pos rfl] at H; exact H
    clear H
    have H := H1
    clear H1
    replace H := Option.bind_eq_some_iff.mp H
    obtain ⟨t210, A40, H⟩ := H
    replace H : (some t210) = some r := H
    have A4 := Aside0.mk A40
    clear A40
    obtain rfl := Option.some.inj H
    go_enter Try.func49, Try.ntmps49
    go_wp2_with (first | ((with_reducible refine gate_callee (f := 85) rfl ?_); refine goesL_ (some 4) rfl rfl Try.func85 (by kernel_rfl) rfl #[.slice A0 l0.length c0] rfl (by (try simp only [List.map_toArray, List.map_cons, List.map_nil]); first | done | rfl | (simp only [List.length_drop, List.length_take]; rfl)) ?_; (with_reducible refine (spec_IsWord.calls k _ _ l0 true _ ?side1 ?side2 A2.out).mono ?_); (case side1 => repeat (first | exact HR0.out | (with_reducible refine Kd.C_alloc ?_ _) | (with_reducible refine Kd.C_drewN ?_ _) | (with_reducible refine Kd.C_drew ?_))); (case side2 => exact HC0.out); rintro e w' ⟨rfl, ⟨nd, rfl⟩⟩; refine ⟨_, rfl, ?_⟩) | ((with_reducible refine gate_callee (f := 80) rfl ?_); refine goesL_ (some 7) rfl rfl Try.func80 (by kernel_rfl) rfl #[.slice A0 l0.length c0] rfl (by (try simp only [List.map_toArray, List.map_cons, List.map_nil]); first | done | rfl | (simp only [List.length_drop, List.length_take]; rfl)) ?_; (with_reducible refine (spec_l2Value.calls k _ _ l0 t210 _ ?side1 ?side2 A4.out).mono ?_); (case side1 => repeat (first | exact HR0.out | (with_reducible refine Kd.C_alloc ?_ _) | (with_reducible refine Kd.C_drewN ?_ _) | (with_reducible refine Kd.C_drew ?_))); (case side2 => exact HC0.out); rintro e w' ⟨rfl, ⟨nd, rfl⟩⟩; refine ⟨_, rfl, ?_⟩))
    go_ret
    exact ⟨by first | rfl | (simp; done) | (simp [*]; done), by repeat (first | exact Drawn0.refl _ | apply Drawn0.step)⟩
  · replace c3 := Bool.eq_false_iff.mpr c3
    (try subst c3)
    have H1 : (some 0) = some r := by rw [if_neg (show ¬ (false = true) by decide)] at H; exact H
    clear H
    have H := H1
    clear H1
    obtain rfl := Option.some.inj H
    go_enter Try.func49, Try.ntmps49
    go_wp2_with (first | ((with_reducible refine gate_callee (f := 85) rfl ?_); refine goesL_ (some 4) rfl rfl Try.func85 (by kernel_rfl) rfl #[.slice A0 l0.length c0] rfl (by (try simp only [List.map_toArray, List.map_cons, List.map_nil]); first | done | rfl | (simp only [List.length_drop, List.length_take]; rfl)) ?_; (with_reducible refine (spec_IsWord.calls k _ _ l0 false _ ?side1 ?side2 A2.out).mono ?_); (case side1 => repeat (first | exact HR0.out | (with_reducible refine Kd.C_alloc ?_ _) | (with_reducible refine Kd.C_drewN ?_ _) | (with_reducible refine Kd.C_drew ?_))); (case side2 => exact HC0.out); rintro e w' ⟨rfl, ⟨nd, rfl⟩⟩; refine ⟨_, rfl, ?_⟩))
    go_ret
    exact ⟨by first | rfl | (simp; done) | (simp [*]; done), by repeat (first | exact Drawn0.refl _ | apply Drawn0.step)⟩

/-! ### spec_l5Lift: function 86 -/
def spec_l5Lift.l0 : Nat → Int → Int → Option (Int)
  | 0, _, _ => none
  | k + 1, x0, x1 => if x1 > 0 then (spec_l5Lift.l0 k (wrap64 (3 * x0)) (wrap64 (x1 - 1))) else (some x0)
def spec_l5Lift.f (k : Nat) (a0 : Int) (a1 : Int) : Option (Int) := spec_l5Lift.l0 k a0 a1
theorem spec_l5Lift.mono_l : ∀ k, (∀ y0 y1, LeO (spec_l5Lift.l0 k y0 y1) (spec_l5Lift.l0 (k + 1) y0 y1))
  | 0 => fun _ _ r h => by simp [spec_l5Lift.l0] at h
  | k + 1 => by
    have ih0 := spec_l5Lift.mono_l k
    · intro y0 y1
      unfold spec_l5Lift.l0
      repeat' first
      | (with_reducible exact ih0 _ _)
      | (with_reducible exact LeO.refl _)
      | (with_reducible exact LeO.none _)
      | (with_reducible refine LeO.ite ?_ ?_)
      | (with_reducible refine LeO.bind ?_ (fun _ => ?_))
      | exact ih0 _ _
      | exact LeO.none _
      | refine LeO.ite ?_ ?_
      | refine LeO.bind ?_ (fun _ => ?_)
theorem spec_l5Lift.mono : ∀ a0 a1 k, LeO (spec_l5Lift.f k a0 a1) (spec_l5Lift.f (k + 1) a0 a1) := by
  intro a0 a1 k
  have ih0 := spec_l5Lift.mono_l k
  unfold spec_l5Lift.f
  repeat' first
      | (with_reducible exact ih0 _ _)
      | (with_reducible exact LeO.refl _)
      | (with_reducible exact LeO.none _)
      | (with_reducible refine LeO.ite ?_ ?_)
      | (with_reducible refine LeO.bind ?_ (fun _ => ?_))
      | exact ih0 _ _
      | exact LeO.none _
      | refine LeO.ite ?_ ?_
      | refine LeO.bind ?_ (fun _ => ?_)
set_option maxHeartbeats 8000000 in
set_option maxRecDepth 100000 in
theorem spec_l5Lift.calls (k : Nat) (a0 : Int) (a1 : Int) (r : Int) (w : World) (h : spec_l5Lift.f k a0 a1 = some r) :
    Calls Try.prog 86 #[.int .i64 a0, .int .i64 a1] w fun e w' => e = .returned (.int .i64 r) ∧ Drawn0 w w' := by
  have H : (spec_l5Lift.l0 k a0 a1) = some r := h
  clear h
  have H' := Aside0.mk H
  clear H
  go_enter Try.func86, Try.ntmps86
  go_wp2
  go_loopg [0, 1] k (fun kq v0 v1 w' => ∃ (x0_1 : Int) (x1_1 : Int), v0 = .int .i64 x0_1 ∧ v1 = .int .i64 x1_1 ∧ Aside0 (spec_l5Lift.l0 kq x0_1 x1_1 = some r) ∧ Aside0 (kq ≤ k) ∧ Drawn0 w w')
  case atStart => exact ⟨(a0), (a1), (by first | rfl | (simp; done) | (simp [*]; done)), (by first | rfl | (simp; done) | (simp [*]; done)), H', ⟨Nat.le_refl _⟩, by repeat (first | exact Drawn0.refl _ | apply Drawn0.step)⟩
  case round =>
    clear H'
    try clear p2
    obtain ⟨x0_1, x1_1, rfl, rfl, HA, HK1, ⟨m1, rfl⟩⟩ := hrel
    cases gk with
    | zero => exact absurd HA.out (by simp [spec_l5Lift.l0])
    | succ k1 =>
      have H := HA.out
      clear HA
      simp only [spec_l5Lift.l0] at H
      by_cases c3 : x1_1 > 0
      · rw [if_pos c3] at H
        have c3b0 : decide (0 < x1_1) = true := decide_eq_true c3
        clear c3
        have H' := Aside0.mk H
        clear H
        go_wp2
        go_roundg k1
        case measure => have := HK1.out; omega
        case rel => exact ⟨(wrap64 (3 * x0_1)), (wrap64 (x1_1 - 1)), (by first | rfl | (simp; done) | (simp [*]; done)), (by first | rfl | (simp; done) | (simp [*]; done)), H', ⟨by have := HK1.out; omega⟩, by repeat (first | exact Drawn0.refl _ | apply Drawn0.step)⟩
      · rw [if_neg c3] at H
        have c3b0 : decide (0 < x1_1) = false := decide_eq_false c3
        clear c3
        obtain rfl := Option.some.inj H
        go_wp2
        go_ret
        exact ⟨by first | rfl | (simp; done) | (simp [*]; done), by repeat (first | exact Drawn0.refl _ | apply Drawn0.step)⟩

/-! ### spec_MakePower: function 50 -/
def spec_MakePower.f (k : Nat) (a0 : Int) : Option (Int) := (spec_l5Lift.f k 1 (mx 0 (mn a0 30))).bind fun t211 => (some t211)
theorem spec_MakePower.mono : ∀ a0 k, LeO (spec_MakePower.f k a0) (spec_MakePower.f (k + 1) a0) := by
  intro a0 k
  unfold spec_MakePower.f
  repeat' first
      | (with_reducible exact spec_l5Lift.mono _ _ _)
      | (with_reducible exact LeO.refl _)
      | (with_reducible exact LeO.none _)
      | (with_reducible refine LeO.ite ?_ ?_)
      | (with_reducible refine LeO.bind ?_ (fun _ => ?_))
      | exact spec_l5Lift.mono _ _ _
      | exact LeO.none _
      | refine LeO.ite ?_ ?_
      | refine LeO.bind ?_ (fun _ => ?_)
set_option maxHeartbeats 8000000 in
set_option maxRecDepth 100000 in
theorem spec_MakePower.calls (k : Nat) (a0 : Int) (r : Int) (w : World) (h : spec_MakePower.f k a0 = some r) :
    Calls Try.prog 50 #[.int .i64 a0] w fun e w' => e = .returned (.int .i64 r) ∧ Below w.heap.size w w' := by
  have HB := Aside0.mk (Below.refl w.heap.size w)
  have H : ((spec_l5Lift.f k 1 (mx 0 (mn a0 30))).bind fun t211 => (some t211)) = some r := h
  clear h
  obtain ⟨ji2, hji2⟩ : ∃ j_ : Int, (mn a0 30) = j_ := ⟨_, rfl⟩
  replace H : ((spec_l5Lift.f k 1 (mx 0 (ji2))).bind fun t211 => (some t211)) = some r := by first | (rw [hji2] at H; exact H) | (simp only [hji2] at H ⊢; exact H)
  (try (have hji2h : ji2 ≤ 30 := by (rw [← hji2]; unfold mn; (repeat' split) <;> omega)))
  (try (have hji2g : ji2 ≤ 64 := by omega))
  have hji2_ : (if 30 < a0 then 30 else a0) = ji2 := hji2
  obtain ⟨ji3, hji3⟩ : ∃ j_ : Int, (mx 0 (ji2)) = j_ := ⟨_, rfl⟩
  replace H : ((spec_l5Lift.f k 1 (ji3)).bind fun t211 => (some t211)) = some r := by first | (rw [hji3] at H; exact H) | (simp only [hji3] at H ⊢; exact H)
  have hji3_ : (if 0 < (ji2) then (ji2) else 0) = ji3 := hji3
  replace H := Option.bind_eq_some_iff.mp H
  obtain ⟨t211, A40, H⟩ := H
  replace H : (some t211) = some r := H
  have A4 := Aside0.mk A40
  clear A40
  obtain rfl := Option.some.inj H
  go_enter Try.func50, Try.ntmps50
  go_wp2_with (first | ((with_reducible refine gate_callee (f := 86) rfl ?_); refine goesL_ (some 6) rfl rfl Try.func86 (by kernel_rfl) rfl #[.int .i64 1, .int .i64 ji3] rfl (by (try simp only [List.map_toArray, List.map_cons, List.map_nil]); first | done | (simp only [hji3]; rfl) | rfl | (simp only [List.length_drop, List.length_take]; rfl)) ?_; (with_reducible refine (spec_l5Lift.calls k 1 ji3 t211 _ A4.out).mono ?_); rintro e w' ⟨rfl, ⟨nd, rfl⟩⟩; refine ⟨_, rfl, ?_⟩))
  go_ret
  exact ⟨by first | rfl | (simp [errW_none, errW_some] <;> rfl) | (simp only [← hji2, ← hji3]; first | rfl | (simp [errW_none, errW_some] <;> rfl)) | (simp [*, errW_none, errW_some] <;> rfl), by repeat (first | (with_reducible first | exact HB.out | apply below_alloc | apply pw_below_drewN | apply below_drew1) | exact HB.out)⟩

/-! ### spec_LengthOf: function 51 -/
def spec_LengthOf.l0 : Nat → Int → Int → Option (Int)
  | 0, _, _ => none
  | k + 1, x0, x3 => if x3 ≤ 30 then ((spec_LimitOf.f k x3).bind fun t212 => ((spec_LimitOf.f k x3).bind fun t213 => ((spec_l1In.f x0 (wrap64 (-t212)) t213).bind fun t214 => (if t214 = true then (some x3) else (spec_LengthOf.l0 k x0 (wrap64 (x3 + 1))))))) else (some 0)
def spec_LengthOf.f (k : Nat) (a0 : Int) : Option (Int) := spec_LengthOf.l0 k a0 1
theorem spec_LengthOf.mono_l : ∀ k, (∀ y0 y1, LeO (spec_LengthOf.l0 k y0 y1) (spec_LengthOf.l0 (k + 1) y0 y1))
  | 0 => fun _ _ r h => by simp [spec_LengthOf.l0] at h
  | k + 1 => by
    have ih0 := spec_LengthOf.mono_l k
    · intro y0 y1
      unfold spec_LengthOf.l0
      repeat' first
      | (with_reducible exact ih0 _ _)
      | (with_reducible exact spec_LimitOf.mono _ _)
      | (with_reducible exact LeO.refl _)
      | (with_reducible exact LeO.none _)
      | (with_reducible refine LeO.ite ?_ ?_)
      | (with_reducible refine LeO.bind ?_ (fun _ => ?_))
      | exact ih0 _ _
      | exact spec_LimitOf.mono _ _
      | exact LeO.none _
      | refine LeO.ite ?_ ?_
      | refine LeO.bind ?_ (fun _ => ?_)
theorem spec_LengthOf.mono : ∀ a0 k, LeO (spec_LengthOf.f k a0) (spec_LengthOf.f (k + 1) a0) := by
  intro a0 k
  have ih0 := spec_LengthOf.mono_l k
  unfold spec_LengthOf.f
  repeat' first
      | (with_reducible exact ih0 _ _)
      | (with_reducible exact spec_LimitOf.mono _ _)
      | (with_reducible exact LeO.refl _)
      | (with_reducible exact LeO.none _)
      | (with_reducible refine LeO.ite ?_ ?_)
      | (with_reducible refine LeO.bind ?_ (fun _ => ?_))
      | exact ih0 _ _
      | exact spec_LimitOf.mono _ _
      | exact LeO.none _
      | refine LeO.ite ?_ ?_
      | refine LeO.bind ?_ (fun _ => ?_)
set_option maxHeartbeats 8000000 in
set_option maxRecDepth 100000 in
theorem spec_LengthOf.calls (k : Nat) (a0 : Int) (r : Int) (w : World) (h : spec_LengthOf.f k a0 = some r) :
    Calls Try.prog 51 #[.int .i64 a0] w fun e w' => e = .returned (.int .i64 r) ∧ Drawn0 w w' := by
  have H : (spec_LengthOf.l0 k a0 1) = some r := h
  clear h
  have H' := Aside0.mk H
  clear H
  go_enter Try.func51, Try.ntmps51
  go_wp2
  go_loopg [3] k (fun kq v3 w' => ∃ (x3_1 : Int), v3 = .int .i64 x3_1 ∧ Aside0 (spec_LengthOf.l0 kq a0 x3_1 = some r) ∧ Aside0 (kq ≤ k) ∧ Drawn0 w w')
  case atStart => exact ⟨(1), (by first | rfl | (simp; done) | (simp [*]; done)), H', ⟨Nat.le_refl _⟩, by repeat (first | exact Drawn0.refl _ | apply Drawn0.step)⟩
  case round =>
    clear H'
    obtain ⟨x3_1, rfl, HA, HK1, ⟨m1, rfl⟩⟩ := hrel
    cases gk with
    | zero => exact absurd HA.out (by simp [spec_LengthOf.l0])
    | succ k1 =>
      have H := HA.out
      clear HA
      simp only [spec_LengthOf.l0] at H
      by_cases c2 : x3_1 ≤ 30
      · rw [if_pos c2] at H
        have c2b0 : decide (x3_1 ≤ 30) = true := decide_eq_true c2
        clear c2
        replace H := Option.bind_eq_some_iff.mp H
        obtain ⟨t212, A30, H⟩ := H
        replace H : ((spec_LimitOf.f k1 x3_1).bind fun t213 => ((spec_l1In.f a0 (wrap64 (-t212)) t213).bind fun t214 => (if t214 = true then (some x3_1) else (spec_LengthOf.l0 k1 a0 (wrap64 (x3_1 + 1)))))) = some r := H
        have A3 := Aside0.mk A30
        clear A30
        replace H := Option.bind_eq_some_iff.mp H
        obtain ⟨t213, A40, H⟩ := H
        replace H : ((spec_l1In.f a0 (wrap64 (-t212)) t213).bind fun t214 => (if t214 = true then (some x3_1) else (spec_LengthOf.l0 k1 a0 (wrap64 (x3_1 + 1))))) = some r := H
        have A4 := Aside0.mk A40
        clear A40
        replace H := Option.bind_eq_some_iff.mp H
        obtain ⟨t214, A50, H⟩ := H
        replace H : (if t214 = true then (some x3_1) else (spec_LengthOf.l0 k1 a0 (wrap64 (x3_1 + 1)))) = some r := H
        have A5 := Aside0.mk A50
        clear A50
        by_cases c6 : t214 = true
        · (try subst c6)
          have H1 : (some x3_1) = some r := by rw [if_pos rfl] at H; exact H
          clear H
          have H := H1
          clear H1
          obtain rfl := Option.some.inj H
          go_wp2_with (first | ((with_reducible refine gate_callee (f := 79) rfl ?_); refine goesL_ (some 10) rfl rfl Try.func79 (by kernel_rfl) rfl #[.int .i64 x3_1] rfl (by (try simp only [List.map_toArray, List.map_cons, List.map_nil]); first | done | rfl | (simp only [List.length_drop, List.length_take]; rfl)) ?_; (with_reducible refine (spec_LimitOf.calls k1 x3_1 t212 _ A3.out).mono ?_); rintro e w' ⟨rfl, ⟨nd, rfl⟩⟩; refine ⟨_, rfl, ?_⟩) | ((with_reducible refine gate_callee (f := 79) rfl ?_); refine goesL_ (some 13) rfl rfl Try.func79 (by kernel_rfl) rfl #[.int .i64 x3_1] rfl (by (try simp only [List.map_toArray, List.map_cons, List.map_nil]); first | done | rfl | (simp only [List.length_drop, List.length_take]; rfl)) ?_; (with_reducible refine (spec_LimitOf.calls k1 x3_1 t213 _ A4.out).mono ?_); rintro e w' ⟨rfl, ⟨nd, rfl⟩⟩; refine ⟨_, rfl, ?_⟩) | ((with_reducible refine gate_callee (f := 60) rfl ?_); refine goesL_ (some 14) rfl rfl Try.func60 (by kernel_rfl) rfl #[.int .i64 a0, .int .i64 (wrap64 (-t212)), .int .i64 t213] rfl (by (try simp only [List.map_toArray, List.map_cons, List.map_nil]); first | done | rfl | (simp only [List.length_drop, List.length_take]; rfl)) ?_; (with_reducible refine (spec_l1In.calls a0 (wrap64 (-t212)) t213 true _ A5.out).mono ?_); rintro e w' ⟨rfl, ⟨nd, rfl⟩⟩; refine ⟨_, rfl, ?_⟩))
          go_ret
          exact ⟨by first | rfl | (simp; done) | (simp [*]; done), by repeat (first | exact Drawn0.refl _ | apply Drawn0.step)⟩
        · replace c6 := Bool.eq_false_iff.mpr c6
          (try subst c6)
          have H1 : (spec_LengthOf.l0 k1 a0 (wrap64 (x3_1 + 1))) = some r := by rw [if_neg (show ¬ (false = true) by decide)] at H; exact H
          clear H
          have H := H1
          clear H1
          have H' := Aside0.mk H
          clear H
          go_wp2_with (first | ((with_reducible refine gate_callee (f := 79) rfl ?_); refine goesL_ (some 10) rfl rfl Try.func79 (by kernel_rfl) rfl #[.int .i64 x3_1] rfl (by (try simp only [List.map_toArray, List.map_cons, List.map_nil]); first | done | rfl | (simp only [List.length_drop, List.length_take]; rfl)) ?_; (with_reducible refine (spec_LimitOf.calls k1 x3_1 t212 _ A3.out).mono ?_); rintro e w' ⟨rfl, ⟨nd, rfl⟩⟩; refine ⟨_, rfl, ?_⟩) | ((with_reducible refine gate_callee (f := 79) rfl ?_); refine goesL_ (some 13) rfl rfl Try.func79 (by kernel_rfl) rfl #[.int .i64 x3_1] rfl (by (try simp only [List.map_toArray, List.map_cons, List.map_nil]); first | done | rfl | (simp only [List.length_drop, List.length_take]; rfl)) ?_; (with_reducible refine (spec_LimitOf.calls k1 x3_1 t213 _ A4.out).mono ?_); rintro e w' ⟨rfl, ⟨nd, rfl⟩⟩; refine ⟨_, rfl, ?_⟩) | ((with_reducible refine gate_callee (f := 60) rfl ?_); refine goesL_ (some 14) rfl rfl Try.func60 (by kernel_rfl) rfl #[.int .i64 a0, .int .i64 (wrap64 (-t212)), .int .i64 t213] rfl (by (try simp only [List.map_toArray, List.map_cons, List.map_nil]); first | done | rfl | (simp only [List.length_drop, List.length_take]; rfl)) ?_; (with_reducible refine (spec_l1In.calls a0 (wrap64 (-t212)) t213 false _ A5.out).mono ?_); rintro e w' ⟨rfl, ⟨nd, rfl⟩⟩; refine ⟨_, rfl, ?_⟩))
          go_roundg k1
          case measure => have := HK1.out; omega
          case rel => exact ⟨(wrap64 (x3_1 + 1)), (by first | rfl | (simp; done) | (simp [*]; done)), H', ⟨by have := HK1.out; omega⟩, by repeat (first | exact Drawn0.refl _ | apply Drawn0.step)⟩
      · rw [if_neg c2] at H
        have c2b0 : decide (x3_1 ≤ 30) = false := decide_eq_false c2
        clear c2
        obtain rfl := Option.some.inj H
        go_wp2
        go_ret
        exact ⟨by first | rfl | (simp; done) | (simp [*]; done), by repeat (first | exact Drawn0.refl _ | apply Drawn0.step)⟩

end Go.Proofs.Ytffohdlbkigehaa.HFnWeighed
