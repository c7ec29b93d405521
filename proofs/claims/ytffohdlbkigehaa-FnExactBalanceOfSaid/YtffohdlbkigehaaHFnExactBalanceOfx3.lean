/- Text for FnExactBalanceOf: written by a program of this session on the pattern of the kit's print. -/
import Derived.Test.YtffohdlbkigehaaHFnExactBalanceOfx0
import Derived.Test.YtffohdlbkigehaaHFnExactBalanceOfx1
import Derived.Test.YtffohdlbkigehaaHFnExactBalanceOfx2
namespace Go.Proofs.Ytffohdlbkigehaa.HFnExactBalanceOf
open Go.RowKit Go.Proofs.YtffohdlbkigehaaW.PrintWords Go.Proofs.YtffohdlbkigehaaW.PrintLast Go.Proofs.YtffohdlbkigehaaW.PrintMore
attribute [local go_sem] max2_int min2_int max_two min_two max_three min_three max_four min_four   -- for this text's walks alone
set_option linter.unusedVariables false
set_option linter.unusedSimpArgs false

/-! ### impl_BalanceOf: function 41 -/
/-- Is there a place out of range, or one seen twice? -/
def impl_BalanceOf.bad : List Int → List Int → Bool
  | _, [] => false
  | seen, i :: is => decide (i < 0) || decide (30 ≤ i) || seen.contains i || impl_BalanceOf.bad (seen ++ [i]) is
def impl_BalanceOf.s1 (k : Nat) : List Int → Int → Option Int
  | [], s => some s
  | i :: is, s => (impl_power.f k i).bind fun p => impl_BalanceOf.s1 k is (wrap64 (s + p))
def impl_BalanceOf.s2 (k : Nat) : List Int → Int → Option Int
  | [], s => some s
  | i :: is, s => (impl_power.f k i).bind fun p => impl_BalanceOf.s2 k is (wrap64 (s - p))
theorem impl_BalanceOf.s1_mono (k : Nat) : ∀ l s, LeO (impl_BalanceOf.s1 k l s) (impl_BalanceOf.s1 (k + 1) l s)
  | [], s => LeO.refl _
  | i :: is, s => LeO.bind (impl_power.mono i k) (fun p => impl_BalanceOf.s1_mono k is _)
theorem impl_BalanceOf.s2_mono (k : Nat) : ∀ l s, LeO (impl_BalanceOf.s2 k l s) (impl_BalanceOf.s2 (k + 1) l s)
  | [], s => LeO.refl _
  | i :: is, s => LeO.bind (impl_power.mono i k) (fun p => impl_BalanceOf.s2_mono k is _)
def impl_BalanceOf.sc (s : List Int) : Array Value := s.foldl (fun a (i : Int) => a.setIfInBounds i.toNat (.bool true)) (Array.replicate 30 (.bool false))
theorem impl_BalanceOf.sc_snoc (s : List Int) (i : Int) : impl_BalanceOf.sc (s ++ [i]) = (impl_BalanceOf.sc s).setIfInBounds i.toNat (.bool true) := by simp [impl_BalanceOf.sc, List.foldl_append]
theorem impl_BalanceOf.sc_fold : ∀ (s pre : List Int) (a : Array Value), a.size = 30 → (∀ j : Int, 0 ≤ j → j < 30 → a[j.toNat]? = some (.bool (pre.contains j))) → (∀ x ∈ s, 0 ≤ x ∧ x < 30) → ∀ j : Int, 0 ≤ j → j < 30 → (s.foldl (fun a (i : Int) => a.setIfInBounds i.toNat (.bool true)) a)[j.toNat]? = some (.bool ((pre ++ s).contains j))
  | [], pre, a, _, h, _, j, h0, h1 => by simpa using h j h0 h1
  | i :: s, pre, a, ha, h, hs, j, h0, h1 => by
    have hi := hs i (by simp)
    have h2 := impl_BalanceOf.sc_fold s (pre ++ [i]) (a.setIfInBounds i.toNat (.bool true)) (by simpa using ha) (fun m m0 m1 => by
      rw [Array.getElem?_setIfInBounds]
      by_cases he : i.toNat = m.toNat
      · have : i = m := by omega
        subst this
        have h4 : i.toNat < 30 := by omega
        simp [ha, h4]
      · have h5 : ¬ m = i := by omega
        simp [he, h m m0 m1, h5]) (fun x hx => hs x (by simp [hx])) j h0 h1
    simpa using h2
theorem impl_BalanceOf.sc_at (s : List Int) (hs : ∀ x ∈ s, 0 ≤ x ∧ x < 30) (j : Int) (h0 : 0 ≤ j) (h1 : j < 30) : (impl_BalanceOf.sc s)[j.toNat]? = some (.bool (s.contains j)) := by
  have h := impl_BalanceOf.sc_fold s [] (Array.replicate 30 (.bool false)) (by simp) (fun m m0 m1 => by
    have h4 : m.toNat < 30 := by omega
    simp [Array.getElem?_replicate, h4]) hs j h0 h1
  simpa [impl_BalanceOf.sc] using h
theorem impl_BalanceOf.arr (w : World) (x y z : Obj) (nd : Nat) : ((((w.alloc x).drewN nd).alloc y).alloc z).heap[w.heap.size + 1]? = some y :=
  (Below.heap_alloc _ _ _ (by simp)).trans (by have h := heap_alloc_new ((w.alloc x).drewN nd) y; simpa using h)
theorem impl_BalanceOf.put {w : World} {b i : Nat} {cs : Array Value} {T : TypeId} {fr : Nat × Nat} (hb : w.heap[b]? = some (.cells cs T fr)) (v : Value) : (w.setCell ⟨b, i, none⟩ v).heap[b]? = some (.cells (cs.setIfInBounds i v) T fr) := by
  simp [World.setCell, Array.getElem?_modify, hb]
theorem impl_BalanceOf.arr0 (w : World) (x y z : Obj) (nd : Nat) : ((((w.alloc x).drewN nd).alloc y).alloc z).heap[w.heap.size]? = some x :=
  (Below.heap_alloc _ _ _ (by simp; omega)).trans ((Below.heap_alloc _ _ _ (by simp)).trans (by have h := heap_alloc_new w x; simpa using h))
def impl_BalanceOf.f (k : Nat) (l r : List Int) (n : Int) : Option (Int × Bool) := (impl_LengthOf.f k n).bind fun t => if t = 0 then some (0, false) else (slices_Concat_int_int.f k [l, r]).bind fun c => if c = l ++ r then (if impl_BalanceOf.bad [] c = true then some (0, false) else (impl_BalanceOf.s1 k l n).bind fun a => (impl_BalanceOf.s2 k r a).bind fun b => (impl_SignOf.f b).bind fun v => some (v, true)) else none
theorem impl_BalanceOf.mono : ∀ l r n k, LeO (impl_BalanceOf.f k l r n) (impl_BalanceOf.f (k + 1) l r n) := fun l r n k => LeO.bind (impl_LengthOf.mono n k) (fun _ => LeO.ite (LeO.refl _) (LeO.bind (slices_Concat_int_int.mono _ k) (fun _ => LeO.ite (LeO.ite (LeO.refl _) (LeO.bind (impl_BalanceOf.s1_mono k l n) (fun _ => LeO.bind (impl_BalanceOf.s2_mono k r _) (fun _ => LeO.refl _)))) (LeO.refl _))))
set_option maxHeartbeats 8000000 in
set_option maxRecDepth 100000 in
theorem impl_BalanceOf.calls (k : Nat) (A0_0 : Option Addr) (c0_0 : Nat) (l0_0 : List Int) (A0_1 : Option Addr) (c0_1 : Nat) (l0_1 : List Int) (a1 : Int) (r1 : Int) (r2 : Bool) (w : World) (hr0_0 : Kd.C (Kd.int .i64) w A0_0 l0_0.length l0_0) (hc0_0 : l0_0.length ≤ c0_0) (hr0_1 : Kd.C (Kd.int .i64) w A0_1 l0_1.length l0_1) (hc0_1 : l0_1.length ≤ c0_1) (h : impl_BalanceOf.f k l0_0 l0_1 a1 = some (r1, r2)) :
    Calls Try.prog 41 #[.agg #[.slice A0_0 l0_0.length c0_0, .slice A0_1 l0_1.length c0_1], .int .i64 a1] w fun e w' => e = .returned (.tuple #[.int .i64 r1, .bool r2]) ∧ Below w.heap.size w w' := by
  obtain ⟨t, ht, h⟩ := Option.bind_eq_some_iff.1 h
  by_cases c0t : t = 0
  · rw [if_pos c0t] at h
    obtain ⟨rfl, rfl⟩ := Prod.mk.inj (Option.some.inj h)
    have e1 : (t == 0) = true := beq_iff_eq.mpr c0t
    go_enter Try.func41, Try.ntmps41
    go_wp2_with (go_at_call 81; with_reducible refine (impl_LengthOf.calls k a1 t _ ht).mono ?_; rintro e w1 ⟨rfl, ⟨nd, rfl⟩⟩)
    go_ret2
    exact ⟨by first | rfl | simp, by repeat (first | (with_reducible first | exact Below.refl _ _ | apply below_alloc | apply pw_below_drewN | apply below_drew1) | exact Below.refl _ _)⟩
  · rw [if_neg c0t] at h
    have e1 : (t == 0) = false := beq_eq_false_iff_ne.mpr c0t
    obtain ⟨c, hcat, h⟩ := Option.bind_eq_some_iff.1 h
    by_cases hc : c = l0_0 ++ l0_1
    · rw [if_pos hc] at h
      have hcon2 : ∀ (W : World) (b : Nat), W.cell? ⟨b, 0, none⟩ = some (.slice A0_0 l0_0.length c0_0) → W.cell? ⟨b, 1, none⟩ = some (.slice A0_1 l0_1.length c0_1) → Kd.C (Kd.int .i64) W A0_0 l0_0.length l0_0 → Kd.C (Kd.int .i64) W A0_1 l0_1.length l0_1 →
          Calls Try.prog 64 #[.slice (some ⟨b, 0, none⟩) 2 2] W fun e w' => ∃ (A : Option Addr) (n' : Nat), e = .returned (.slice A c.length n') ∧ Kd.R (Kd.int .i64) 3 w' W.heap.size (fun k => W.heap.size ≤ k) (.slice A c.length n') c ∧ Below W.heap.size W w' := by
        intro W b m0 m1 r0 r1
        refine (slices_Concat_int_int.calls k (some ⟨b, 0, none⟩) 2 [l0_0, l0_1] c W ⟨rfl, by simp, fun _ => ⟨_, rfl, fun j p hp => ?_⟩⟩ (by simp) hcat).mono ?_
        · match j, hp with
          | 0, hp =>
            obtain rfl := Option.some.inj hp
            refine ⟨[.slice A0_0 l0_0.length c0_0], rfl, ⟨A0_0, c0_0, rfl, hc0_0, r0⟩, fun i u hu => ?_⟩
            match i, hu with
            | 0, hu => obtain rfl := Option.some.inj hu; simpa [Addr.add, Kd.slice] using m0
          | 1, hp =>
            obtain rfl := Option.some.inj hp
            refine ⟨[.slice A0_1 l0_1.length c0_1], rfl, ⟨A0_1, c0_1, rfl, hc0_1, r1⟩, fun i u hu => ?_⟩
            match i, hu with
            | 0, hu => obtain rfl := Option.some.inj hu; simpa [Addr.add, Kd.slice] using m1
        · rintro e w' ⟨v, rfl, hR, hB⟩
          obtain ⟨A, n', rfl⟩ := Kd.R_slice hR
          exact ⟨A, n', rfl, Kd.R_mono (Kd.R_bound hR) (fun k hk => hk.2.1), hB⟩
      clear hcat
      replace hc := Aside0.mk hc
      by_cases hbad : impl_BalanceOf.bad [] c = true
      · rw [if_pos hbad] at h
        obtain ⟨rfl, rfl⟩ := Prod.mk.inj (Option.some.inj h)
        have hbad := Aside0.mk hbad
        go_enter Try.func41, Try.ntmps41
        go_wp2_with (first | (go_at_call 81; with_reducible refine (impl_LengthOf.calls k a1 t _ ht).mono ?_; rintro e w1 ⟨rfl, ⟨nd, rfl⟩⟩) | (go_at_call 64; with_reducible refine (hcon2 _ (w.heap.size + 1 + 1) (by go_simp; done) (by go_simp; done) (by with_reducible repeat (first | exact hr0_0 | refine Kd.C_alloc ?_ _ | refine Kd.C_drewN ?_ _ | refine Kd.C_drew ?_)) (by with_reducible repeat (first | exact hr0_1 | refine Kd.C_alloc ?_ _ | refine Kd.C_drewN ?_ _ | refine Kd.C_drew ?_))).mono ?_; rintro e w2 ⟨A2, n2, rfl, RR, hb2⟩; have mA : w2.heap[w.heap.size + 1]? = some (.cells (impl_BalanceOf.sc []) 79 (0, 0)) := (hb2.block (w.heap.size + 1) (by first | omega | (simp; done) | (simp; omega))).trans ((impl_BalanceOf.arr _ _ _ _ _).trans rfl); have m0 : w2.cell? ⟨w.heap.size, 0, none⟩ = some (.slice A0_0 l0_0.length c0_0) := (hb2.cell (p := ⟨w.heap.size, 0, none⟩) (by first | omega | (simp; done) | (simp; omega))).trans (by first | (go_simp; done) | simp); have m1 : w2.cell? ⟨w.heap.size, 1, none⟩ = some (.slice A0_1 l0_1.length c0_1) := (hb2.cell (p := ⟨w.heap.size, 1, none⟩) (by first | omega | (simp; done) | (simp; omega))).trans (by first | (go_simp; done) | simp); have HB2 : Below w.heap.size w w2 := (show Below w.heap.size w _ by repeat (first | (with_reducible first | exact Below.refl _ _ | apply below_alloc | apply pw_below_drewN | apply below_drew1) | exact Below.refl _ _)).trans (hb2.mono (by first | omega | (simp; done) | (simp; omega))); have hs2 : w.heap.size + 3 ≤ w2.heap.size := (by have := hb2.size; simp at this; omega); replace RR : Kd.R (Kd.int .i64) 3 w2 w.heap.size (fun k => w.heap.size + 3 ≤ k) (.slice A2 c.length n2) c := Kd.R_mono (Kd.R_lower RR (by first | omega | (simp; done) | (simp; omega))) (fun k_ hk_ => by first | omega | (simp at hk_; omega)); clear hb2))
        go_loopg [8, 23] c.length (fun gg _ s23 wr => ∃ kk : Nat, kk ≤ c.length ∧ c.length - kk ≤ gg ∧ s23 = .int .i64 kk ∧ Aside0 (∀ x ∈ c.take kk, 0 ≤ x ∧ x < 30) ∧ Aside0 (impl_BalanceOf.bad (c.take kk) (c.drop kk) = true) ∧ Aside0 (wr.heap[w.heap.size + 1]? = some (.cells (impl_BalanceOf.sc (c.take kk)) 79 (0, 0))) ∧ Aside0 (Kd.R (Kd.int .i64) 3 wr w.heap.size (fun k => w.heap.size + 3 ≤ k) (.slice A2 c.length n2) c) ∧ Aside0 (Below w.heap.size w wr))
        case atStart => exact ⟨0, Nat.zero_le _, by omega, rfl, ⟨by simp⟩, ⟨by simpa using hbad.out⟩, ⟨mA⟩, ⟨RR⟩, ⟨HB2⟩⟩
        case round =>
          clear mA m0 m1 hs2 RR HB2
          obtain ⟨kk, hkk, hg, rfl, hin, hbd, mA, RR, HB⟩ := hrel
          by_cases hlt : kk < c.length
          · have hltz : decide ((kk : Int) < (c.length : Int)) = true := decide_eq_true (by omega)
            obtain ⟨adx, ex, hx⟩ := Kd.at_int (Kd.R_reads' RR.out).2.2 (kk : Int) (by omega) (by omega)
            cases ex
            have e : rd c (kk : Int) = c[kk] := by simp [rd, List.getD_eq_getElem?_getD, List.getElem?_eq_getElem hlt]
            rw [show ((kk : Int)).toNat = kk by omega, e] at hx
            have hbd' := hbd.out
            rw [List.drop_eq_getElem_cons hlt] at hbd'
            simp only [impl_BalanceOf.bad] at hbd'
            have htk := List.take_succ_eq_append_getElem hlt
            have hkl : c.length ≤ 9223372036854775807 := (Kd.R_reads' RR.out).2.2.2.1
            obtain ⟨x, hxx⟩ : ∃ x, x = c[kk] := ⟨_, rfl⟩
            rw [← hxx] at hx hbd' htk
            clear hxx e
            have b3 : (kk < c.length) = True := eq_true hlt
            have b4 : (0 ≤ (kk : Int)) = True := eq_true (by omega)
            have b5 : ((kk : Int) < (c.length : Int)) = True := eq_true (by omega)
            by_cases x0 : x < 0
            · have x0b : decide (x < 0) = true := decide_eq_true x0
              go_wp2
              go_ret2
              exact ⟨by first | rfl | simp, HB.out⟩
            · have x0b : decide (x < 0) = false := decide_eq_false x0
              by_cases x1 : 30 ≤ x
              · have x1b : decide (30 ≤ x) = true := decide_eq_true x1
                go_wp2
                go_ret2
                exact ⟨by first | rfl | simp, HB.out⟩
              · have x1b : decide (30 ≤ x) = false := decide_eq_false x1
                have b6 : (0 ≤ x) = True := eq_true (by omega)
                have b7 : (x < 30) = True := eq_true (by omega)
                have hA := mA.out
                have hseen : wr.cell? ⟨w.heap.size + 1, x.toNat, none⟩ = some (.bool ((c.take kk).contains x)) := by
                  have h1 := impl_BalanceOf.sc_at (c.take kk) hin.out x (by omega) (by omega)
                  simp [World.cell?, hA, h1]
                have hfr : wr.frozen? ⟨w.heap.size + 1, x.toNat, none⟩ = false := by
                  simp [World.frozen?, hA]
                clear hA
                cases hs : (c.take kk).contains x with
                | true =>
                  rw [hs] at hseen
                  clear hs hbd'
                  go_wp2
                  go_ret2
                  exact ⟨by first | rfl | simp, HB.out⟩
                | false =>
                  rw [hs] at hseen
                  have hbn : impl_BalanceOf.bad (c.take (kk + 1)) (c.drop (kk + 1)) = true := by
                    rw [htk]
                    rw [x0b, x1b, hs] at hbd'
                    simpa using hbd'
                  have hin1 : ∀ y ∈ c.take (kk + 1), 0 ≤ y ∧ y < 30 := by
                    rw [htk]
                    intro y hy
                    rcases List.mem_append.1 hy with hy | hy
                    · exact hin.out y hy
                    · rw [List.mem_singleton.1 hy]; omega
                  have mA1 : (wr.setCell ⟨w.heap.size + 1, x.toNat, none⟩ (.bool true)).heap[w.heap.size + 1]? = some (.cells (impl_BalanceOf.sc (c.take (kk + 1))) 79 (0, 0)) := by
                    rw [htk, impl_BalanceOf.sc_snoc]
                    exact impl_BalanceOf.put mA.out _
                  have RR1 := Kd.R_far RR.out (p := ⟨w.heap.size + 1, x.toNat, none⟩) (fun k hk => by dsimp only; omega) (.bool true)
                  have HB1 := Below.setCell HB.out (p := ⟨w.heap.size + 1, x.toNat, none⟩) (by dsimp only; omega) (.bool true)
                  replace hbn := Aside0.mk hbn
                  replace hin1 := Aside0.mk hin1
                  replace mA1 := Aside0.mk mA1
                  replace RR1 := Aside0.mk RR1
                  replace HB1 := Aside0.mk HB1
                  clear hs hbd' htk
                  have hk1 : kk + 1 ≤ c.length := hlt
                  go_wp2
                  go_roundg (c.length - (kk + 1))
                  case measure => omega
                  case rel => exact ⟨kk + 1, by omega, by omega, by go_num, hin1, hbn, mA1, RR1, HB1⟩
          · exfalso
            have : kk = c.length := by omega
            have h1 := hbd.out
            rw [this] at h1
            simp [impl_BalanceOf.bad] at h1
      · rw [if_neg hbad] at h
        obtain ⟨va, hva, h⟩ := Option.bind_eq_some_iff.1 h
        obtain ⟨vb, hvb, h⟩ := Option.bind_eq_some_iff.1 h
        obtain ⟨vv, hvv, h⟩ := Option.bind_eq_some_iff.1 h
        obtain ⟨rfl, rfl⟩ := Prod.mk.inj (Option.some.inj h)
        replace hva := Aside0.mk hva
        replace hvb := Aside0.mk hvb
        clear h
        replace hbad : impl_BalanceOf.bad [] c = false := by simpa using hbad
        have hbad := Aside0.mk hbad
        go_enter Try.func41, Try.ntmps41
        go_wp2_with (first | (go_at_call 81; with_reducible refine (impl_LengthOf.calls k a1 t _ ht).mono ?_; rintro e w1 ⟨rfl, ⟨nd, rfl⟩⟩) | (go_at_call 64; with_reducible refine (hcon2 _ (w.heap.size + 1 + 1) (by go_simp; done) (by go_simp; done) (by with_reducible repeat (first | exact hr0_0 | refine Kd.C_alloc ?_ _ | refine Kd.C_drewN ?_ _ | refine Kd.C_drew ?_)) (by with_reducible repeat (first | exact hr0_1 | refine Kd.C_alloc ?_ _ | refine Kd.C_drewN ?_ _ | refine Kd.C_drew ?_))).mono ?_; rintro e w2 ⟨A2, n2, rfl, RR, hb2⟩; have mA : w2.heap[w.heap.size + 1]? = some (.cells (impl_BalanceOf.sc []) 79 (0, 0)) := (hb2.block (w.heap.size + 1) (by first | omega | (simp; done) | (simp; omega))).trans ((impl_BalanceOf.arr _ _ _ _ _).trans rfl); have mB : w2.heap[w.heap.size]? = some (.cells #[.slice A0_0 l0_0.length c0_0, .slice A0_1 l0_1.length c0_1] 29 (0, 0)) := (hb2.block w.heap.size (by first | omega | (simp; done) | (simp; omega))).trans (impl_BalanceOf.arr0 _ _ _ _ _); have HB2 : Below w.heap.size w w2 := (show Below w.heap.size w _ by repeat (first | (with_reducible first | exact Below.refl _ _ | apply below_alloc | apply pw_below_drewN | apply below_drew1) | exact Below.refl _ _)).trans (hb2.mono (by first | omega | (simp; done) | (simp; omega))); have hs2 : w.heap.size + 3 ≤ w2.heap.size := (by have := hb2.size; simp at this; omega); replace RR : Kd.R (Kd.int .i64) 3 w2 w.heap.size (fun k => w.heap.size + 3 ≤ k) (.slice A2 c.length n2) c := Kd.R_mono (Kd.R_lower RR (by first | omega | (simp; done) | (simp; omega))) (fun k_ hk_ => by first | omega | (simp at hk_; omega)); clear hb2))
        go_loopg [8, 23] c.length (fun gg _ s23 wr => ∃ kk : Nat, kk ≤ c.length ∧ c.length - kk ≤ gg ∧ s23 = .int .i64 kk ∧ Aside0 (∀ x ∈ c.take kk, 0 ≤ x ∧ x < 30) ∧ Aside0 (impl_BalanceOf.bad (c.take kk) (c.drop kk) = false) ∧ Aside0 (wr.heap[w.heap.size + 1]? = some (.cells (impl_BalanceOf.sc (c.take kk)) 79 (0, 0))) ∧ Aside0 (wr.heap[w.heap.size]? = some (.cells #[.slice A0_0 l0_0.length c0_0, .slice A0_1 l0_1.length c0_1] 29 (0, 0))) ∧ Aside0 (Kd.R (Kd.int .i64) 3 wr w.heap.size (fun k => w.heap.size + 3 ≤ k) (.slice A2 c.length n2) c) ∧ Aside0 (Below w.heap.size w wr))
        case atStart => exact ⟨0, Nat.zero_le _, by omega, rfl, ⟨by simp⟩, ⟨by simpa using hbad.out⟩, ⟨mA⟩, ⟨mB⟩, ⟨RR⟩, ⟨HB2⟩⟩
        case round =>
          clear mA mB hs2 RR HB2
          obtain ⟨kk, hkk, hg, rfl, hin, hbd, mA, mB, RR, HB⟩ := hrel
          by_cases hlt : kk < c.length
          · have hltz : decide ((kk : Int) < (c.length : Int)) = true := decide_eq_true (by omega)
            obtain ⟨adx, ex, hx⟩ := Kd.at_int (Kd.R_reads' RR.out).2.2 (kk : Int) (by omega) (by omega)
            cases ex
            have e : rd c (kk : Int) = c[kk] := by simp [rd, List.getD_eq_getElem?_getD, List.getElem?_eq_getElem hlt]
            rw [show ((kk : Int)).toNat = kk by omega, e] at hx
            have hbd' := hbd.out
            rw [List.drop_eq_getElem_cons hlt] at hbd'
            simp only [impl_BalanceOf.bad] at hbd'
            have htk := List.take_succ_eq_append_getElem hlt
            have hkl : c.length ≤ 9223372036854775807 := (Kd.R_reads' RR.out).2.2.2.1
            obtain ⟨x, hxx⟩ : ∃ x, x = c[kk] := ⟨_, rfl⟩
            rw [← hxx] at hx hbd' htk
            clear hxx e
            have b3 : (kk < c.length) = True := eq_true hlt
            have b4 : (0 ≤ (kk : Int)) = True := eq_true (by omega)
            have b5 : ((kk : Int) < (c.length : Int)) = True := eq_true (by omega)
            by_cases x0 : x < 0
            · have x0b : decide (x < 0) = true := decide_eq_true x0
              rw [x0b] at hbd'
              simp at hbd'
            · have x0b : decide (x < 0) = false := decide_eq_false x0
              by_cases x1 : 30 ≤ x
              · have x1b : decide (30 ≤ x) = true := decide_eq_true x1
                rw [x1b] at hbd'
                simp at hbd'
              · have x1b : decide (30 ≤ x) = false := decide_eq_false x1
                have b6 : (0 ≤ x) = True := eq_true (by omega)
                have b7 : (x < 30) = True := eq_true (by omega)
                have hA := mA.out
                have hseen : wr.cell? ⟨w.heap.size + 1, x.toNat, none⟩ = some (.bool ((c.take kk).contains x)) := by
                  have h1 := impl_BalanceOf.sc_at (c.take kk) hin.out x (by omega) (by omega)
                  simp [World.cell?, hA, h1]
                have hfr : wr.frozen? ⟨w.heap.size + 1, x.toNat, none⟩ = false := by
                  simp [World.frozen?, hA]
                clear hA
                cases hs : (c.take kk).contains x with
                | true =>
                  rw [hs] at hbd'
                  simp at hbd'
                | false =>
                  rw [hs] at hseen
                  have hbn : impl_BalanceOf.bad (c.take (kk + 1)) (c.drop (kk + 1)) = false := by
                    rw [htk]
                    rw [x0b, x1b, hs] at hbd'
                    simpa using hbd'
                  have hin1 : ∀ y ∈ c.take (kk + 1), 0 ≤ y ∧ y < 30 := by
                    rw [htk]
                    intro y hy
                    rcases List.mem_append.1 hy with hy | hy
                    · exact hin.out y hy
                    · rw [List.mem_singleton.1 hy]; omega
                  have mA1 : (wr.setCell ⟨w.heap.size + 1, x.toNat, none⟩ (.bool true)).heap[w.heap.size + 1]? = some (.cells (impl_BalanceOf.sc (c.take (kk + 1))) 79 (0, 0)) := by
                    rw [htk, impl_BalanceOf.sc_snoc]
                    exact impl_BalanceOf.put mA.out _
                  have mB1 := (Below.heap_setCell wr ⟨w.heap.size + 1, x.toNat, none⟩ (.bool true) w.heap.size (by dsimp only; omega)).trans mB.out
                  have RR1 := Kd.R_far RR.out (p := ⟨w.heap.size + 1, x.toNat, none⟩) (fun k hk => by dsimp only; omega) (.bool true)
                  have HB1 := Below.setCell HB.out (p := ⟨w.heap.size + 1, x.toNat, none⟩) (by dsimp only; omega) (.bool true)
                  replace hbn := Aside0.mk hbn
                  replace hin1 := Aside0.mk hin1
                  replace mA1 := Aside0.mk mA1
                  replace mB1 := Aside0.mk mB1
                  replace RR1 := Aside0.mk RR1
                  replace HB1 := Aside0.mk HB1
                  clear hs hbd' htk
                  have hk1 : kk + 1 ≤ c.length := hlt
                  go_wp2
                  go_roundg (c.length - (kk + 1))
                  case measure => omega
                  case rel => exact ⟨kk + 1, by omega, by omega, by go_num, hin1, hbn, mA1, mB1, RR1, HB1⟩
          · have hltz : decide ((kk : Int) < (c.length : Int)) = false := decide_eq_false (by omega)
            have q0 : wr.cell? ⟨w.heap.size, 0, none⟩ = some (.slice A0_0 l0_0.length c0_0) := by simp [World.cell?, mB.out]
            have q1 : wr.cell? ⟨w.heap.size, 1, none⟩ = some (.slice A0_1 l0_1.length c0_1) := by simp [World.cell?, mB.out]
            have hs4 : w.heap.size < wr.heap.size := by
              rcases Nat.lt_or_ge w.heap.size wr.heap.size with h1 | h1
              · exact h1
              · have := mB.out; rw [Array.getElem?_eq_none h1] at this; exact absurd this (by simp)
            have HB4 := HB.out
            clear mA mB RR HB hin hbd hg
            obtain ⟨w4, hw4⟩ : ∃ w4, w4 = wr := ⟨_, rfl⟩
            rw [← hw4] at q0 q1 HB4 hs4 ⊢
            clear hw4
            have : kk = c.length := by omega
            subst this
            go_wp2
            go_loopg [1, 10, 44] l0_0.length (fun gg s1 _ sc wr => ∃ (kk : Nat) (acc : Int), kk ≤ l0_0.length ∧ l0_0.length - kk ≤ gg ∧ sc = .int .i64 kk ∧ s1 = .int .i64 acc ∧ Aside0 (impl_BalanceOf.s1 k (l0_0.drop kk) acc = some va) ∧ Aside0 (Below w4.heap.size w4 wr))
            case atStart => exact ⟨0, a1, Nat.zero_le _, by omega, rfl, rfl, ⟨by simpa using hva.out⟩, ⟨Below.refl _ _⟩⟩
            case round =>
              obtain ⟨kk, acc, hkk, hg, rfl, rfl, hs, BW⟩ := hrel
              by_cases hlt : kk < l0_0.length
              · have hltz : decide ((kk : Int) < (l0_0.length : Int)) = true := decide_eq_true (by omega)
                obtain ⟨adx, ex, hx⟩ := Kd.at_int (Kd.C_below hr0_0 (HB4.trans (BW.out.mono (by omega)))) (kk : Int) (by omega) (by omega)
                cases ex
                have e : rd l0_0 (kk : Int) = l0_0[kk] := by simp [rd, List.getD_eq_getElem?_getD, List.getElem?_eq_getElem hlt]
                rw [show ((kk : Int)).toNat = kk by omega, e] at hx
                have hs' := hs.out
                rw [List.drop_eq_getElem_cons hlt] at hs'
                simp only [impl_BalanceOf.s1] at hs'
                obtain ⟨pw, hpw, hs'⟩ := Option.bind_eq_some_iff.1 hs'
                have hkl : l0_0.length ≤ 9223372036854775807 := hr0_0.2.1
                obtain ⟨x, hxx⟩ : ∃ x, x = l0_0[kk] := ⟨_, rfl⟩
                rw [← hxx] at hx hpw
                clear hxx e
                replace hs' := Aside0.mk hs'
                have b3 : (kk < l0_0.length) = True := eq_true hlt
                have b4 : (0 ≤ (kk : Int)) = True := eq_true (by omega)
                have b5 : ((kk : Int) < (l0_0.length : Int)) = True := eq_true (by omega)
                have hk1 : kk + 1 ≤ l0_0.length := hlt
                go_wp2_with (go_at_call 78; with_reducible refine (impl_power.calls k x pw _ hpw).mono ?_; rintro e w' ⟨rfl, ⟨nd, rfl⟩⟩)
                go_roundg (l0_0.length - (kk + 1))
                case measure => omega
                case rel => exact ⟨kk + 1, wrap64 (acc + pw), by omega, by omega, by go_num, by first | rfl | go_num, hs', ⟨by repeat (first | (with_reducible first | exact BW.out | apply below_alloc | apply pw_below_drewN | apply below_drew1) | exact BW.out)⟩⟩
              · have hltz : decide ((kk : Int) < (l0_0.length : Int)) = false := decide_eq_false (by omega)
                have hs' := hs.out
                rw [List.drop_eq_nil_of_le (by omega)] at hs'
                obtain rfl := Option.some.inj hs'
                clear hs hs' hg
                have : kk = l0_0.length := by omega
                subst this
                have r1 := (BW.out.cell (p := ⟨w.heap.size, 1, none⟩) hs4).trans q1
                have HB5 := HB4.trans (BW.out.mono (by omega))
                clear BW q0 q1
                obtain ⟨w5, hw5⟩ : ∃ w5, w5 = wr := ⟨_, rfl⟩
                rw [← hw5] at r1 HB5 ⊢
                have hs5 : w.heap.size ≤ w5.heap.size := HB5.size
                clear hw5
                go_wp2
                go_loopg [1, 12, 56] l0_1.length (fun gg s1 _ sc wr => ∃ (kk : Nat) (acc : Int), kk ≤ l0_1.length ∧ l0_1.length - kk ≤ gg ∧ sc = .int .i64 kk ∧ s1 = .int .i64 acc ∧ Aside0 (impl_BalanceOf.s2 k (l0_1.drop kk) acc = some vb) ∧ Aside0 (Below w5.heap.size w5 wr))
                case atStart => exact ⟨0, acc, Nat.zero_le _, by omega, rfl, rfl, ⟨by simpa using hvb.out⟩, ⟨Below.refl _ _⟩⟩
                case round =>
                  obtain ⟨kk, acc, hkk, hg, rfl, rfl, hs, BW⟩ := hrel
                  by_cases hlt : kk < l0_1.length
                  · have hltz : decide ((kk : Int) < (l0_1.length : Int)) = true := decide_eq_true (by omega)
                    obtain ⟨adx, ex, hx⟩ := Kd.at_int (Kd.C_below hr0_1 (HB5.trans (BW.out.mono (by omega)))) (kk : Int) (by omega) (by omega)
                    cases ex
                    have e : rd l0_1 (kk : Int) = l0_1[kk] := by simp [rd, List.getD_eq_getElem?_getD, List.getElem?_eq_getElem hlt]
                    rw [show ((kk : Int)).toNat = kk by omega, e] at hx
                    have hs' := hs.out
                    rw [List.drop_eq_getElem_cons hlt] at hs'
                    simp only [impl_BalanceOf.s2] at hs'
                    obtain ⟨pw, hpw, hs'⟩ := Option.bind_eq_some_iff.1 hs'
                    have hkl : l0_1.length ≤ 9223372036854775807 := hr0_1.2.1
                    obtain ⟨x, hxx⟩ : ∃ x, x = l0_1[kk] := ⟨_, rfl⟩
                    rw [← hxx] at hx hpw
                    clear hxx e
                    replace hs' := Aside0.mk hs'
                    have b3 : (kk < l0_1.length) = True := eq_true hlt
                    have b4 : (0 ≤ (kk : Int)) = True := eq_true (by omega)
                    have b5 : ((kk : Int) < (l0_1.length : Int)) = True := eq_true (by omega)
                    have hk1 : kk + 1 ≤ l0_1.length := hlt
                    go_wp2_with (go_at_call 78; with_reducible refine (impl_power.calls k x pw _ hpw).mono ?_; rintro e w' ⟨rfl, ⟨nd, rfl⟩⟩)
                    go_roundg (l0_1.length - (kk + 1))
                    case measure => omega
                    case rel => exact ⟨kk + 1, wrap64 (acc - pw), by omega, by omega, by go_num, by first | rfl | go_num, hs', ⟨by repeat (first | (with_reducible first | exact BW.out | apply below_alloc | apply pw_below_drewN | apply below_drew1) | exact BW.out)⟩⟩
                  · have hltz : decide ((kk : Int) < (l0_1.length : Int)) = false := decide_eq_false (by omega)
                    have hs' := hs.out
                    rw [List.drop_eq_nil_of_le (by omega)] at hs'
                    obtain rfl := Option.some.inj hs'
                    clear hs hs' hg
                    have : kk = l0_1.length := by omega
                    subst this
                    have HB6 := HB5.trans (BW.out.mono (by omega))
                    clear BW
                    go_wp2_with (go_at_call 66; with_reducible refine (impl_SignOf.calls _ vv _ hvv).mono ?_; rintro e w' ⟨rfl, ⟨nd, rfl⟩⟩)
                    go_ret2
                    exact ⟨by first | rfl | simp, by repeat (first | (with_reducible first | exact HB6 | apply below_alloc | apply pw_below_drewN | apply below_drew1) | exact HB6)⟩
    · rw [if_neg hc] at h
      exact absurd h (by simp)

/-! ### laws_FnExactBalanceOf: function 7 -/
def laws_FnExactBalanceOf.j0 : Nat → Bool → List Int → List Int → List Int → List Int → Option (Bool)
  | 0, _, _, _, _, _ => none
  | k + 1, x38, x142000, x142001, x158000, x158001 => if x38 = true then (some false) else ((laws_toWeighing.f k x142000 x142001).bind fun bt160 => ((laws_eqWeighing.f k x158000 x158001 bt160.1 bt160.2).bind fun t166 => (if t166 = true then (some true) else (some false))))
def laws_FnExactBalanceOf.f (k : Nat) (l0_0 : List Int) (l0_1 : List Int) (a1 : Int) : Option (Bool) := (laws_szWeighing.f l0_0 l0_1 1048576).bind fun t142 => (if t142 < 0 then (some true) else ((laws_toWeighing.f k l0_0 l0_1).bind fun bt143 => ((spec_BalanceOf.f k bt143.1 bt143.2 a1).bind fun bt149 => ((laws_toWeighing.f k l0_0 l0_1).bind fun bt151 => ((impl_BalanceOf.f k bt151.1 bt151.2 a1).bind fun bt158 => (if bt158.1 = bt149.1 then (laws_FnExactBalanceOf.j0 k (bt158.2 != bt149.2) l0_0 l0_1 bt151.1 bt151.2) else (laws_FnExactBalanceOf.j0 k true l0_0 l0_1 bt151.1 bt151.2)))))))
theorem laws_FnExactBalanceOf.mono_l : ∀ k, (∀ y0 y1 y2 y3 y4, LeO (laws_FnExactBalanceOf.j0 k y0 y1 y2 y3 y4) (laws_FnExactBalanceOf.j0 (k + 1) y0 y1 y2 y3 y4))
  | 0 => fun _ _ _ _ _ r h => by simp [laws_FnExactBalanceOf.j0] at h
  | k + 1 => by
    have ih0 := laws_FnExactBalanceOf.mono_l k
    · intro y0 y1 y2 y3 y4
      unfold laws_FnExactBalanceOf.j0
      repeat' first
      | (with_reducible exact ih0 _ _ _ _ _)
      | (with_reducible exact impl_BalanceOf.mono _ _ _ _)
      | (with_reducible exact laws_eqWeighing.mono _ _ _ _ _)
      | (with_reducible exact laws_toWeighing.mono _ _ _)
      | (with_reducible exact spec_BalanceOf.mono _ _ _ _)
      | (with_reducible exact LeO.refl _)
      | (with_reducible exact LeO.none _)
      | (with_reducible refine LeO.ite ?_ ?_)
      | (with_reducible refine LeO.bind ?_ (fun _ => ?_))
      | exact ih0 _ _ _ _ _
      | exact impl_BalanceOf.mono _ _ _ _
      | exact laws_eqWeighing.mono _ _ _ _ _
      | exact laws_toWeighing.mono _ _ _
      | exact spec_BalanceOf.mono _ _ _ _
      | exact LeO.none _
      | refine LeO.ite ?_ ?_
      | refine LeO.bind ?_ (fun _ => ?_)
theorem laws_FnExactBalanceOf.mono : ∀ a0 a1 a2 k, LeO (laws_FnExactBalanceOf.f k a0 a1 a2) (laws_FnExactBalanceOf.f (k + 1) a0 a1 a2) := by
  intro a0 a1 a2 k
  have ih0 := laws_FnExactBalanceOf.mono_l k
  unfold laws_FnExactBalanceOf.f
  repeat' first
      | (with_reducible exact ih0 _ _ _ _ _)
      | (with_reducible exact impl_BalanceOf.mono _ _ _ _)
      | (with_reducible exact laws_eqWeighing.mono _ _ _ _ _)
      | (with_reducible exact laws_toWeighing.mono _ _ _)
      | (with_reducible exact spec_BalanceOf.mono _ _ _ _)
      | (with_reducible exact LeO.refl _)
      | (with_reducible exact LeO.none _)
      | (with_reducible refine LeO.ite ?_ ?_)
      | (with_reducible refine LeO.bind ?_ (fun _ => ?_))
      | exact ih0 _ _ _ _ _
      | exact impl_BalanceOf.mono _ _ _ _
      | exact laws_eqWeighing.mono _ _ _ _ _
      | exact laws_toWeighing.mono _ _ _
      | exact spec_BalanceOf.mono _ _ _ _
      | exact LeO.none _
      | refine LeO.ite ?_ ?_
      | refine LeO.bind ?_ (fun _ => ?_)
set_option maxHeartbeats 8000000 in
set_option maxRecDepth 100000 in
theorem laws_FnExactBalanceOf.calls (k : Nat) (A0_0 : Option Addr) (c0_0 : Nat) (l0_0 : List Int) (A0_1 : Option Addr) (c0_1 : Nat) (l0_1 : List Int) (a1 : Int) (r : Bool) (w : World) (hr0_0 : Kd.C (Kd.int .i64) w A0_0 l0_0.length l0_0) (hc0_0 : l0_0.length ≤ c0_0) (hr0_1 : Kd.C (Kd.int .i64) w A0_1 l0_1.length l0_1) (hc0_1 : l0_1.length ≤ c0_1) (h : laws_FnExactBalanceOf.f k l0_0 l0_1 a1 = some r) :
    Calls Try.prog 7 #[.agg #[.slice A0_0 l0_0.length c0_0, .slice A0_1 l0_1.length c0_1], .int .i64 a1] w fun e w' => e = .returned (.bool r) ∧ Below w.heap.size w w' := by
  have hu24 := Try.underlying24
  have hu29 := Try.underlying29
  have HR0_0 := Aside0.mk hr0_0
  have HC0_0 := Aside0.mk hc0_0
  clear hr0_0 hc0_0
  have HR0_1 := Aside0.mk hr0_1
  have HC0_1 := Aside0.mk hc0_1
  clear hr0_1 hc0_1
  have HB := Aside0.mk (Below.refl w.heap.size w)
  have H : ((laws_szWeighing.f l0_0 l0_1 1048576).bind fun t142 => (if t142 < 0 then (some true) else ((laws_toWeighing.f k l0_0 l0_1).bind fun bt143 => ((spec_BalanceOf.f k bt143.1 bt143.2 a1).bind fun bt149 => ((laws_toWeighing.f k l0_0 l0_1).bind fun bt151 => ((impl_BalanceOf.f k bt151.1 bt151.2 a1).bind fun bt158 => (if bt158.1 = bt149.1 then (laws_FnExactBalanceOf.j0 k (bt158.2 != bt149.2) l0_0 l0_1 bt151.1 bt151.2) else (laws_FnExactBalanceOf.j0 k true l0_0 l0_1 bt151.1 bt151.2)))))))) = some r := h
  clear h
  replace H := Option.bind_eq_some_iff.mp H
  obtain ⟨t142, A30, H⟩ := H
  replace H : (if t142 < 0 then (some true) else ((laws_toWeighing.f k l0_0 l0_1).bind fun bt143 => ((spec_BalanceOf.f k bt143.1 bt143.2 a1).bind fun bt149 => ((laws_toWeighing.f k l0_0 l0_1).bind fun bt151 => ((impl_BalanceOf.f k bt151.1 bt151.2 a1).bind fun bt158 => (if bt158.1 = bt149.1 then (laws_FnExactBalanceOf.j0 k (bt158.2 != bt149.2) l0_0 l0_1 bt151.1 bt151.2) else (laws_FnExactBalanceOf.j0 k true l0_0 l0_1 bt151.1 bt151.2))))))) = some r := H
  have A3 := Aside0.mk A30
  clear A30
  by_cases c4 : t142 < 0
  · rw [if_pos c4] at H
    have c4b0 : decide (t142 < 0) = true := decide_eq_true c4
    clear c4
    obtain rfl := Option.some.inj H
    go_enter Try.func7, Try.ntmps7
    go_wp2_with (first | ((with_reducible refine gate_dst (N := 2) rfl ?_); refine box_event ?hg (N := 2) ?hd (cs := #[.slice A0_0 l0_0.length c0_0, .slice A0_1 l0_1.length c0_1]) (t := 24) ?hr ?_; (case hd => rfl); (case hg => rfl); (case hr => first | (go_simp; done) | (go_simp; rfl)); intro gb141 hg w5 hbox hb; have n0_ := Aside0.mk (below_step (by repeat (first | (with_reducible first | exact HB.out | apply below_alloc | apply pw_below_drewN | apply below_drew1) | exact HB.out)) hb); have n1_ := Aside0.mk (hbox); have n2_ := Aside0.mk ((by rw [hg]; exact (below_size (by repeat (first | (with_reducible first | exact HB.out | apply below_alloc | apply pw_below_drewN | apply below_drew1) | exact HB.out))) : w.heap.size ≤ gb141)); have n3_ := Aside0.mk ((by rw [hg]; exact (below_size (by repeat (first | (with_reducible first | exact HB.out | apply below_alloc | apply pw_below_drewN | apply below_drew1) | exact HB.out))) : w.heap.size ≤ gb141)); clear HB; have HB := n0_; have BK141 := n1_; have GW141 := n2_; have GE141 := n3_; clear n0_ n1_ n2_ n3_; clear hb hbox hg; have hcz6_0 : w5.cell? ⟨gb141, 0, none⟩ = some (.slice A0_0 l0_0.length c0_0) := (blk_cell BK141.out 0).trans rfl; have hcz6_1 : w5.cell? ⟨gb141, 1, none⟩ = some (.slice A0_1 l0_1.length c0_1) := (blk_cell BK141.out 1).trans rfl; have hfz6_0 := blk_frozen BK141.out 0; have hfz6_1 := blk_frozen BK141.out 1) | ((with_reducible refine gate_callee (f := 13) rfl ?_); refine goesL_ (some 13) rfl rfl Try.func13 (by kernel_rfl) rfl #[.agg #[.slice A0_0 l0_0.length c0_0, .slice A0_1 l0_1.length c0_1], .int .i64 1048576] rfl (by (try simp only [List.map_toArray, List.map_cons, List.map_nil]); first | done | rfl | (simp only [List.length_drop, List.length_take]; rfl)) ?_; (with_reducible refine (laws_szWeighing.calls _ _ l0_0 _ _ l0_1 1048576 t142 _ ?side1 ?side2 ?side3 ?side4 A3.out).mono ?_); (case side1 => repeat (first | exact (Kd.C_below HR0_0.out HB.out) | (with_reducible refine Kd.C_alloc ?_ _) | (with_reducible refine Kd.C_drewN ?_ _) | (with_reducible refine Kd.C_drew ?_))); (case side2 => exact HC0_0.out); (case side3 => repeat (first | exact (Kd.C_below HR0_1.out HB.out) | (with_reducible refine Kd.C_alloc ?_ _) | (with_reducible refine Kd.C_drewN ?_ _) | (with_reducible refine Kd.C_drew ?_))); (case side4 => exact HC0_1.out); rintro e w7 ⟨rfl, hb⟩; refine ⟨_, rfl, ?_⟩; have n0_ := Aside0.mk (blk_below (g := gb141) (o := .cells #[.slice A0_0 l0_0.length c0_0, .slice A0_1 l0_1.length c0_1] 24 (0, 0)) (by (with_reducible repeat (first | refine blk_drewN ?_ _ | refine blk_drew ?_ | refine blk_alloc ?_ _)); exact BK141.out) hb); have n1_ := Aside0.mk (below_step (by repeat (first | (with_reducible first | exact HB.out | apply below_alloc | apply pw_below_drewN | apply below_drew1 | refine below_set ?_ GE141.out) | exact HB.out)) hb); clear BK141; clear HB; have BK141 := n0_; have HB := n1_; clear n0_ n1_; (try clear hb); (try clear hb2); (try clear hk); (try clear hi)))
    go_ret
    exact ⟨by first | rfl | (simp [errW_none, errW_some] <;> rfl) | (simp [*, errW_none, errW_some] <;> rfl), by repeat (first | (with_reducible first | exact HB.out | apply below_alloc | apply pw_below_drewN | apply below_drew1 | refine below_set ?_ GE141.out) | exact HB.out)⟩
  · rw [if_neg c4] at H
    have c4b0 : decide (t142 < 0) = false := decide_eq_false c4
    clear c4
    replace H := Option.bind_eq_some_iff.mp H
    obtain ⟨⟨t143, t146⟩, A80, H⟩ := H
    replace H : ((spec_BalanceOf.f k t143 t146 a1).bind fun bt149 => ((laws_toWeighing.f k l0_0 l0_1).bind fun bt151 => ((impl_BalanceOf.f k bt151.1 bt151.2 a1).bind fun bt158 => (if bt158.1 = bt149.1 then (laws_FnExactBalanceOf.j0 k (bt158.2 != bt149.2) l0_0 l0_1 bt151.1 bt151.2) else (laws_FnExactBalanceOf.j0 k true l0_0 l0_1 bt151.1 bt151.2))))) = some r := H
    have A8 := Aside0.mk A80
    clear A80
    replace H := Option.bind_eq_some_iff.mp H
    obtain ⟨⟨t149, t150⟩, A90, H⟩ := H
    replace H : ((laws_toWeighing.f k l0_0 l0_1).bind fun bt151 => ((impl_BalanceOf.f k bt151.1 bt151.2 a1).bind fun bt158 => (if bt158.1 = t149 then (laws_FnExactBalanceOf.j0 k (bt158.2 != t150) l0_0 l0_1 bt151.1 bt151.2) else (laws_FnExactBalanceOf.j0 k true l0_0 l0_1 bt151.1 bt151.2)))) = some r := H
    have A9 := Aside0.mk A90
    clear A90
    replace H := Option.bind_eq_some_iff.mp H
    obtain ⟨⟨t151, t154⟩, A100, H⟩ := H
    replace H : ((impl_BalanceOf.f k t151 t154 a1).bind fun bt158 => (if bt158.1 = t149 then (laws_FnExactBalanceOf.j0 k (bt158.2 != t150) l0_0 l0_1 t151 t154) else (laws_FnExactBalanceOf.j0 k true l0_0 l0_1 t151 t154))) = some r := H
    have A10 := Aside0.mk A100
    clear A100
    replace H := Option.bind_eq_some_iff.mp H
    obtain ⟨⟨t158, t159⟩, A110, H⟩ := H
    replace H : (if t158 = t149 then (laws_FnExactBalanceOf.j0 k (t159 != t150) l0_0 l0_1 t151 t154) else (laws_FnExactBalanceOf.j0 k true l0_0 l0_1 t151 t154)) = some r := H
    have A11 := Aside0.mk A110
    clear A110
    have HC12 := Aside0.mk H
    clear H
    go_enter Try.func7, Try.ntmps7
    go_upto_region 8 with (first | ((with_reducible refine gate_dst (N := 2) rfl ?_); refine box_event ?hg (N := 2) ?hd (cs := #[.slice A0_0 l0_0.length c0_0, .slice A0_1 l0_1.length c0_1]) (t := 24) ?hr ?_; (case hd => rfl); (case hg => rfl); (case hr => first | (go_simp; done) | (go_simp; rfl)); intro gb141 hg w13 hbox hb; have n0_ := Aside0.mk (below_step (by repeat (first | (with_reducible first | exact HB.out | apply below_alloc | apply pw_below_drewN | apply below_drew1) | exact HB.out)) hb); have n1_ := Aside0.mk (hbox); have n2_ := Aside0.mk ((by rw [hg]; exact (below_size (by repeat (first | (with_reducible first | exact HB.out | apply below_alloc | apply pw_below_drewN | apply below_drew1) | exact HB.out))) : w.heap.size ≤ gb141)); have n3_ := Aside0.mk ((by rw [hg]; exact (below_size (by repeat (first | (with_reducible first | exact HB.out | apply below_alloc | apply pw_below_drewN | apply below_drew1) | exact HB.out))) : w.heap.size ≤ gb141)); clear HB; have HB := n0_; have BK141 := n1_; have GW141 := n2_; have GE141 := n3_; clear n0_ n1_ n2_ n3_; clear hb hbox hg; have hcz14_0 : w13.cell? ⟨gb141, 0, none⟩ = some (.slice A0_0 l0_0.length c0_0) := (blk_cell BK141.out 0).trans rfl; have hcz14_1 : w13.cell? ⟨gb141, 1, none⟩ = some (.slice A0_1 l0_1.length c0_1) := (blk_cell BK141.out 1).trans rfl; have hfz14_0 := blk_frozen BK141.out 0; have hfz14_1 := blk_frozen BK141.out 1) | ((with_reducible refine gate_callee (f := 13) rfl ?_); refine goesL_ (some 13) rfl rfl Try.func13 (by kernel_rfl) rfl #[.agg #[.slice A0_0 l0_0.length c0_0, .slice A0_1 l0_1.length c0_1], .int .i64 1048576] rfl (by (try simp only [List.map_toArray, List.map_cons, List.map_nil]); first | done | rfl | (simp only [List.length_drop, List.length_take]; rfl)) ?_; (with_reducible refine (laws_szWeighing.calls _ _ l0_0 _ _ l0_1 1048576 t142 _ ?side1 ?side2 ?side3 ?side4 A3.out).mono ?_); (case side1 => repeat (first | exact (Kd.C_below HR0_0.out HB.out) | (with_reducible refine Kd.C_alloc ?_ _) | (with_reducible refine Kd.C_drewN ?_ _) | (with_reducible refine Kd.C_drew ?_))); (case side2 => exact HC0_0.out); (case side3 => repeat (first | exact (Kd.C_below HR0_1.out HB.out) | (with_reducible refine Kd.C_alloc ?_ _) | (with_reducible refine Kd.C_drewN ?_ _) | (with_reducible refine Kd.C_drew ?_))); (case side4 => exact HC0_1.out); rintro e w15 ⟨rfl, hb⟩; refine ⟨_, rfl, ?_⟩; have n0_ := Aside0.mk (blk_below (g := gb141) (o := .cells #[.slice A0_0 l0_0.length c0_0, .slice A0_1 l0_1.length c0_1] 24 (0, 0)) (by (with_reducible repeat (first | refine blk_drewN ?_ _ | refine blk_drew ?_ | refine blk_alloc ?_ _)); exact BK141.out) hb); have n1_ := Aside0.mk (below_step (by repeat (first | (with_reducible first | exact HB.out | apply below_alloc | apply pw_below_drewN | apply below_drew1 | refine below_set ?_ GE141.out) | exact HB.out)) hb); clear BK141; clear HB; have BK141 := n0_; have HB := n1_; clear n0_ n1_; (try clear hb); (try clear hb2); (try clear hk); (try clear hi); have hcz16_0 : w15.cell? ⟨gb141, 0, none⟩ = some (.slice A0_0 l0_0.length c0_0) := (blk_cell BK141.out 0).trans rfl; have hcz16_1 : w15.cell? ⟨gb141, 1, none⟩ = some (.slice A0_1 l0_1.length c0_1) := (blk_cell BK141.out 1).trans rfl; have hfz16_0 := blk_frozen BK141.out 0; have hfz16_1 := blk_frozen BK141.out 1) | ((with_reducible refine gate_callee (f := 16) rfl ?_); refine goesL_ (some 18) rfl rfl Try.func16 (by kernel_rfl) rfl #[.agg #[.slice A0_0 l0_0.length c0_0, .slice A0_1 l0_1.length c0_1]] rfl (by (try simp only [List.map_toArray, List.map_cons, List.map_nil]); first | done | rfl | (simp only [List.length_drop, List.length_take]; rfl)) ?_; (with_reducible refine (laws_toWeighing.calls k _ _ l0_0 _ _ l0_1 t143 t146 _ ?side1 ?side2 ?side3 ?side4 A8.out).mono ?_); (case side1 => repeat (first | exact (Kd.C_below HR0_0.out HB.out) | (with_reducible refine Kd.C_alloc ?_ _) | (with_reducible refine Kd.C_drewN ?_ _) | (with_reducible refine Kd.C_drew ?_))); (case side2 => exact HC0_0.out); (case side3 => repeat (first | exact (Kd.C_below HR0_1.out HB.out) | (with_reducible refine Kd.C_alloc ?_ _) | (with_reducible refine Kd.C_drewN ?_ _) | (with_reducible refine Kd.C_drew ?_))); (case side4 => exact HC0_1.out); rintro e w17 ⟨v144, v147, rfl, ho0, ho1, hb⟩; refine ⟨_, rfl, ?_⟩; have n0_ := Aside0.mk (Kd.R_lower ho0 (below_size (by repeat (first | (with_reducible first | exact HB.out | apply below_alloc | apply pw_below_drewN | apply below_drew1 | refine below_set ?_ GE141.out) | exact HB.out)))); have n1_ := Aside0.mk (Kd.R_lower ho1 (below_size (by repeat (first | (with_reducible first | exact HB.out | apply below_alloc | apply pw_below_drewN | apply below_drew1 | refine below_set ?_ GE141.out) | exact HB.out)))); have n2_ := Aside0.mk (blk_below (g := gb141) (o := .cells #[.slice A0_0 l0_0.length c0_0, .slice A0_1 l0_1.length c0_1] 24 (0, 0)) (by (with_reducible repeat (first | refine blk_drewN ?_ _ | refine blk_drew ?_ | refine blk_alloc ?_ _)); exact BK141.out) hb); have n3_ := Aside0.mk (below_step (by repeat (first | (with_reducible first | exact HB.out | apply below_alloc | apply pw_below_drewN | apply below_drew1 | refine below_set ?_ GE141.out) | exact HB.out)) hb); clear BK141; clear HB; have HO145 := n0_; have HO148 := n1_; have BK141 := n2_; have HB := n3_; clear n0_ n1_ n2_ n3_; (try clear hb); (try clear hb2); (try clear hk); (try clear hi); (try clear ho0); (try clear ho1); obtain ⟨Ao18, co18, eo18⟩ := Kd.R_slice HO145.out; subst eo18; obtain ⟨Ao19, co19, eo19⟩ := Kd.R_slice HO148.out; subst eo19) | ((with_reducible refine gate_callee (f := 40) rfl ?_); refine goesL_ (some 20) rfl rfl Try.func40 (by kernel_rfl) rfl #[.agg #[.slice Ao18 t143.length co18, .slice Ao19 t146.length co19], .int .i64 a1] rfl (by (try simp only [List.map_toArray, List.map_cons, List.map_nil]); first | done | rfl | (simp only [List.length_drop, List.length_take]; rfl)) ?_; (with_reducible refine (spec_BalanceOf.calls k _ _ t143 _ _ t146 a1 t149 t150 _ ?side1 ?side2 ?side3 ?side4 A9.out).mono ?_); (case side1 => repeat (first | exact (Kd.R_reads' HO145.out).2.2 | (with_reducible refine Kd.C_alloc ?_ _) | (with_reducible refine Kd.C_drewN ?_ _) | (with_reducible refine Kd.C_drew ?_))); (case side2 => exact (Kd.R_reads' HO145.out).2.1); (case side3 => repeat (first | exact (Kd.R_reads' HO148.out).2.2 | (with_reducible refine Kd.C_alloc ?_ _) | (with_reducible refine Kd.C_drewN ?_ _) | (with_reducible refine Kd.C_drew ?_))); (case side4 => exact (Kd.R_reads' HO148.out).2.1); rintro e w20 ⟨rfl, hb⟩; refine ⟨_, rfl, ?_⟩; have n0_ := Aside0.mk (Kd.R_below (by (with_reducible repeat (first | apply Kd.R_alloc | apply Kd.R_drewN | apply Kd.R_drew)); exact HO145.out) hb); have n1_ := Aside0.mk (Kd.R_below (by (with_reducible repeat (first | apply Kd.R_alloc | apply Kd.R_drewN | apply Kd.R_drew)); exact HO148.out) hb); have n2_ := Aside0.mk (blk_below (g := gb141) (o := .cells #[.slice A0_0 l0_0.length c0_0, .slice A0_1 l0_1.length c0_1] 24 (0, 0)) (by (with_reducible repeat (first | refine blk_drewN ?_ _ | refine blk_drew ?_ | refine blk_alloc ?_ _)); exact BK141.out) hb); have n3_ := Aside0.mk (below_step (by repeat (first | (with_reducible first | exact HB.out | apply below_alloc | apply pw_below_drewN | apply below_drew1 | refine below_set ?_ GE141.out) | exact HB.out)) hb); clear HO145; clear HO148; clear BK141; clear HB; have HO145 := n0_; have HO148 := n1_; have BK141 := n2_; have HB := n3_; clear n0_ n1_ n2_ n3_; (try clear hb); (try clear hb2); (try clear hk); (try clear hi); have hcz21_0 : w20.cell? ⟨gb141, 0, none⟩ = some (.slice A0_0 l0_0.length c0_0) := (blk_cell BK141.out 0).trans rfl; have hcz21_1 : w20.cell? ⟨gb141, 1, none⟩ = some (.slice A0_1 l0_1.length c0_1) := (blk_cell BK141.out 1).trans rfl; have hfz21_0 := blk_frozen BK141.out 0; have hfz21_1 := blk_frozen BK141.out 1) | ((with_reducible refine gate_callee (f := 16) rfl ?_); refine goesL_ (some 24) rfl rfl Try.func16 (by kernel_rfl) rfl #[.agg #[.slice A0_0 l0_0.length c0_0, .slice A0_1 l0_1.length c0_1]] rfl (by (try simp only [List.map_toArray, List.map_cons, List.map_nil]); first | done | rfl | (simp only [List.length_drop, List.length_take]; rfl)) ?_; (with_reducible refine (laws_toWeighing.calls k _ _ l0_0 _ _ l0_1 t151 t154 _ ?side1 ?side2 ?side3 ?side4 A10.out).mono ?_); (case side1 => repeat (first | exact (Kd.C_below HR0_0.out HB.out) | (with_reducible refine Kd.C_alloc ?_ _) | (with_reducible refine Kd.C_drewN ?_ _) | (with_reducible refine Kd.C_drew ?_))); (case side2 => exact HC0_0.out); (case side3 => repeat (first | exact (Kd.C_below HR0_1.out HB.out) | (with_reducible refine Kd.C_alloc ?_ _) | (with_reducible refine Kd.C_drewN ?_ _) | (with_reducible refine Kd.C_drew ?_))); (case side4 => exact HC0_1.out); rintro e w22 ⟨v152, v155, rfl, ho0, ho1, hb⟩; refine ⟨_, rfl, ?_⟩; have n0_ := Aside0.mk (Kd.R_mono (Kd.R_told (Kd.R_told (Kd.R_old (by (with_reducible repeat (first | apply Kd.R_alloc | apply Kd.R_drewN | apply Kd.R_drew)); exact HO145.out) hb) (Kd.R_base ho0)) (Kd.R_base ho1)) (fun _ h_ => h_.1)); have n1_ := Aside0.mk (Kd.R_mono (Kd.R_told (Kd.R_told (Kd.R_old (by (with_reducible repeat (first | apply Kd.R_alloc | apply Kd.R_drewN | apply Kd.R_drew)); exact HO148.out) hb) (Kd.R_base ho0)) (Kd.R_base ho1)) (fun _ h_ => h_.1)); have n2_ := Aside0.mk (Kd.R_lower (Kd.R_new' (Kd.R_new' ho0 (Kd.R_lt (by (with_reducible repeat (first | apply Kd.R_alloc | apply Kd.R_drewN | apply Kd.R_drew)); exact HO145.out))) (Kd.R_lt (by (with_reducible repeat (first | apply Kd.R_alloc | apply Kd.R_drewN | apply Kd.R_drew)); exact HO148.out))) (below_size (by repeat (first | (with_reducible first | exact HB.out | apply below_alloc | apply pw_below_drewN | apply below_drew1 | refine below_set ?_ GE141.out) | exact HB.out)))); have n3_ := Aside0.mk (Kd.R_lower (Kd.R_new' (Kd.R_new' ho1 (Kd.R_lt (by (with_reducible repeat (first | apply Kd.R_alloc | apply Kd.R_drewN | apply Kd.R_drew)); exact HO145.out))) (Kd.R_lt (by (with_reducible repeat (first | apply Kd.R_alloc | apply Kd.R_drewN | apply Kd.R_drew)); exact HO148.out))) (below_size (by repeat (first | (with_reducible first | exact HB.out | apply below_alloc | apply pw_below_drewN | apply below_drew1 | refine below_set ?_ GE141.out) | exact HB.out)))); have n4_ := Aside0.mk (blk_below (g := gb141) (o := .cells #[.slice A0_0 l0_0.length c0_0, .slice A0_1 l0_1.length c0_1] 24 (0, 0)) (by (with_reducible repeat (first | refine blk_drewN ?_ _ | refine blk_drew ?_ | refine blk_alloc ?_ _)); exact BK141.out) hb); have n5_ := Aside0.mk (below_step (by repeat (first | (with_reducible first | exact HB.out | apply below_alloc | apply pw_below_drewN | apply below_drew1 | refine below_set ?_ GE141.out) | exact HB.out)) hb); clear HO145; clear HO148; clear BK141; clear HB; have HO145 := n0_; have HO148 := n1_; have HO153 := n2_; have HO156 := n3_; have BK141 := n4_; have HB := n5_; clear n0_ n1_ n2_ n3_ n4_ n5_; (try clear hb); (try clear hb2); (try clear hk); (try clear hi); (try clear ho0); (try clear ho1)) | ((with_reducible refine gate_dst (N := 8) rfl ?_); refine box_event ?hg (N := 8) ?hd (cs := #[.slice none 0 0, .slice none 0 0]) (t := 29) ?hr ?_; (case hd => rfl); (case hg => rfl); (case hr => first | (go_simp; done) | (go_simp; rfl)); intro gb157 hg w23 hbox hb; have n0_ := Aside0.mk (Kd.R_below (by (with_reducible repeat (first | apply Kd.R_alloc | apply Kd.R_drewN | apply Kd.R_drew)); exact HO145.out) hb); have n1_ := Aside0.mk (Kd.R_below (by (with_reducible repeat (first | apply Kd.R_alloc | apply Kd.R_drewN | apply Kd.R_drew)); exact HO148.out) hb); have n2_ := Aside0.mk (Kd.R_below (by (with_reducible repeat (first | apply Kd.R_alloc | apply Kd.R_drewN | apply Kd.R_drew)); exact HO153.out) hb); have n3_ := Aside0.mk (Kd.R_below (by (with_reducible repeat (first | apply Kd.R_alloc | apply Kd.R_drewN | apply Kd.R_drew)); exact HO156.out) hb); have n4_ := Aside0.mk (blk_below (g := gb141) (o := .cells #[.slice A0_0 l0_0.length c0_0, .slice A0_1 l0_1.length c0_1] 24 (0, 0)) (by (with_reducible repeat (first | refine blk_drewN ?_ _ | refine blk_drew ?_ | refine blk_alloc ?_ _)); exact BK141.out) hb); have n5_ := Aside0.mk (below_step (by repeat (first | (with_reducible first | exact HB.out | apply below_alloc | apply pw_below_drewN | apply below_drew1 | refine below_set ?_ GE141.out) | exact HB.out)) hb); have n6_ := Aside0.mk (hbox); have n7_ := Aside0.mk ((by rw [hg]; exact (below_size (by repeat (first | (with_reducible first | exact HB.out | apply below_alloc | apply pw_below_drewN | apply below_drew1 | refine below_set ?_ GE141.out) | exact HB.out))) : w.heap.size ≤ gb157)); have n8_ := Aside0.mk ((by rw [hg]; exact (below_size (by repeat (first | (with_reducible first | exact HB.out | apply below_alloc | apply pw_below_drewN | apply below_drew1 | refine below_set ?_ GE141.out) | exact HB.out))) : w.heap.size ≤ gb157)); have n9_ := Aside0.mk ((by rw [hg]; exact Nat.ne_of_lt (blk_lt (g := gb141) (o := .cells #[.slice A0_0 l0_0.length c0_0, .slice A0_1 l0_1.length c0_1] 24 (0, 0)) (by (with_reducible repeat (first | refine blk_drewN ?_ _ | refine blk_drew ?_ | refine blk_alloc ?_ _)); exact BK141.out)) : gb141 ≠ gb157)); have n10_ := Aside0.mk ((by rw [hg]; exact Nat.ne_of_gt (blk_lt (g := gb141) (o := .cells #[.slice A0_0 l0_0.length c0_0, .slice A0_1 l0_1.length c0_1] 24 (0, 0)) (by (with_reducible repeat (first | refine blk_drewN ?_ _ | refine blk_drew ?_ | refine blk_alloc ?_ _)); exact BK141.out)) : gb157 ≠ gb141)); clear HO145; clear HO148; clear HO153; clear HO156; clear BK141; clear HB; have HO145 := n0_; have HO148 := n1_; have HO153 := n2_; have HO156 := n3_; have BK141 := n4_; have HB := n5_; have BK157 := n6_; have GW157 := n7_; have GE157 := n8_; have NB141_157 := n9_; have NB157_141 := n10_; clear n0_ n1_ n2_ n3_ n4_ n5_ n6_ n7_ n8_ n9_ n10_; clear hb hbox hg; obtain ⟨Ao24, co24, eo24⟩ := Kd.R_slice HO153.out; subst eo24; have hnb25 := NB157_141.out; have hnc25 := NB141_157.out; have hcz26_0 : w23.cell? ⟨gb157, 0, none⟩ = some (.slice none 0 0) := (blk_cell BK157.out 0).trans rfl; have hcz26_1 : w23.cell? ⟨gb157, 1, none⟩ = some (.slice none 0 0) := (blk_cell BK157.out 1).trans rfl; have hfz26_0 := blk_frozen BK157.out 0; have hfz26_1 := blk_frozen BK157.out 1; obtain ⟨Ao27, co27, eo27⟩ := Kd.R_slice HO156.out; subst eo27) | ((with_reducible refine gate_callee (f := 41) rfl ?_); refine goesL_ (some 28) rfl rfl Try.func41 (by kernel_rfl) rfl #[.agg #[.slice Ao24 t151.length co24, .slice Ao27 t154.length co27], .int .i64 a1] rfl (by (try simp only [List.map_toArray, List.map_cons, List.map_nil]); first | done | rfl | (simp only [List.length_drop, List.length_take]; rfl)) ?_; (with_reducible refine (impl_BalanceOf.calls k _ _ t151 _ _ t154 a1 t158 t159 _ ?side1 ?side2 ?side3 ?side4 A11.out).mono ?_); (case side1 => refine (Kd.R_reads' (e := 3) (base := w.heap.size) (ok := fun k_ => ((some k_ ≠ (.slice Ao27 t154.length co27 : Value).ownBlock ∧ some k_ ≠ (.slice Ao18 t143.length co18 : Value).ownBlock) ∧ some k_ ≠ (.slice Ao19 t146.length co19 : Value).ownBlock)) (n := t151.length) (c := co24) ?_).2.2; exact (by (with_reducible repeat (first | apply Kd.R_alloc | apply Kd.R_drewN | apply Kd.R_drew)); exact (Kd.R_mono (Kd.R_far (p := ⟨gb157, 1, none⟩) (Kd.R_far (p := ⟨gb157, 0, none⟩) (Kd.R_types HO153.out BK157.out (by decide)) (fun _ hk => hk.2) (.slice Ao24 t151.length co24)) (fun _ hk => hk.2) (.slice Ao27 t154.length co27)) (fun _ h_ => h_.1)))); (case side2 => exact (Kd.R_reads' HO153.out).2.1); (case side3 => refine (Kd.R_reads' (e := 3) (base := w.heap.size) (ok := fun k_ => ((some k_ ≠ (.slice Ao24 t151.length co24 : Value).ownBlock ∧ some k_ ≠ (.slice Ao18 t143.length co18 : Value).ownBlock) ∧ some k_ ≠ (.slice Ao19 t146.length co19 : Value).ownBlock)) (n := t154.length) (c := co27) ?_).2.2; exact (by (with_reducible repeat (first | apply Kd.R_alloc | apply Kd.R_drewN | apply Kd.R_drew)); exact (Kd.R_mono (Kd.R_far (p := ⟨gb157, 1, none⟩) (Kd.R_far (p := ⟨gb157, 0, none⟩) (Kd.R_types HO156.out BK157.out (by decide)) (fun _ hk => hk.2) (.slice Ao24 t151.length co24)) (fun _ hk => hk.2) (.slice Ao27 t154.length co27)) (fun _ h_ => h_.1)))); (case side4 => exact (Kd.R_reads' HO156.out).2.1); rintro e w28 ⟨rfl, hb⟩; refine ⟨_, rfl, ?_⟩; have n0_ := Aside0.mk (Kd.R_below (by (with_reducible repeat (first | apply Kd.R_alloc | apply Kd.R_drewN | apply Kd.R_drew)); exact (Kd.R_mono (Kd.R_far (p := ⟨gb157, 1, none⟩) (Kd.R_far (p := ⟨gb157, 0, none⟩) (Kd.R_types HO145.out BK157.out (by decide)) (fun _ hk => hk.2) (.slice Ao24 t151.length co24)) (fun _ hk => hk.2) (.slice Ao27 t154.length co27)) (fun _ h_ => h_.1))) hb); have n1_ := Aside0.mk (Kd.R_below (by (with_reducible repeat (first | apply Kd.R_alloc | apply Kd.R_drewN | apply Kd.R_drew)); exact (Kd.R_mono (Kd.R_far (p := ⟨gb157, 1, none⟩) (Kd.R_far (p := ⟨gb157, 0, none⟩) (Kd.R_types HO148.out BK157.out (by decide)) (fun _ hk => hk.2) (.slice Ao24 t151.length co24)) (fun _ hk => hk.2) (.slice Ao27 t154.length co27)) (fun _ h_ => h_.1))) hb); have n2_ := Aside0.mk (Kd.R_below (by (with_reducible repeat (first | apply Kd.R_alloc | apply Kd.R_drewN | apply Kd.R_drew)); exact (Kd.R_mono (Kd.R_far (p := ⟨gb157, 1, none⟩) (Kd.R_far (p := ⟨gb157, 0, none⟩) (Kd.R_types HO153.out BK157.out (by decide)) (fun _ hk => hk.2) (.slice Ao24 t151.length co24)) (fun _ hk => hk.2) (.slice Ao27 t154.length co27)) (fun _ h_ => h_.1))) hb); have n3_ := Aside0.mk (Kd.R_below (by (with_reducible repeat (first | apply Kd.R_alloc | apply Kd.R_drewN | apply Kd.R_drew)); exact (Kd.R_mono (Kd.R_far (p := ⟨gb157, 1, none⟩) (Kd.R_far (p := ⟨gb157, 0, none⟩) (Kd.R_types HO156.out BK157.out (by decide)) (fun _ hk => hk.2) (.slice Ao24 t151.length co24)) (fun _ hk => hk.2) (.slice Ao27 t154.length co27)) (fun _ h_ => h_.1))) hb); have n4_ := Aside0.mk (blk_below (g := gb141) (o := .cells #[.slice A0_0 l0_0.length c0_0, .slice A0_1 l0_1.length c0_1] 24 (0, 0)) (by (with_reducible repeat (first | refine blk_drewN ?_ _ | refine blk_drew ?_ | refine blk_alloc ?_ _)); refine blk_far ?_ NB141_157.out _; (with_reducible repeat (first | refine blk_drewN ?_ _ | refine blk_drew ?_ | refine blk_alloc ?_ _)); refine blk_far ?_ NB141_157.out _; (with_reducible repeat (first | refine blk_drewN ?_ _ | refine blk_drew ?_ | refine blk_alloc ?_ _)); exact BK141.out) hb); have n5_ := Aside0.mk (blk_below (g := gb157) (o := .cells #[.slice Ao24 t151.length co24, .slice Ao27 t154.length co27] 29 (0, 0)) (by (with_reducible repeat (first | refine blk_drewN ?_ _ | refine blk_drew ?_ | refine blk_alloc ?_ _)); refine blk_put (cs := #[.slice Ao24 t151.length co24, .slice none 0 0]) ?_ 1 _ rfl; (with_reducible repeat (first | refine blk_drewN ?_ _ | refine blk_drew ?_ | refine blk_alloc ?_ _)); refine blk_put (cs := #[.slice none 0 0, .slice none 0 0]) ?_ 0 _ rfl; (with_reducible repeat (first | refine blk_drewN ?_ _ | refine blk_drew ?_ | refine blk_alloc ?_ _)); exact BK157.out) hb); have n6_ := Aside0.mk (below_step (by repeat (first | (with_reducible first | exact HB.out | apply below_alloc | apply pw_below_drewN | apply below_drew1 | refine below_set ?_ GE141.out | refine below_set ?_ GE157.out) | exact HB.out)) hb); clear HO145; clear HO148; clear HO153; clear HO156; clear BK141; clear BK157; clear HB; have HO145 := n0_; have HO148 := n1_; have HO153 := n2_; have HO156 := n3_; have BK141 := n4_; have BK157 := n5_; have HB := n6_; clear n0_ n1_ n2_ n3_ n4_ n5_ n6_; (try clear hb); (try clear hb2); (try clear hk); (try clear hi)))
    (try simp only [Act.put, List.setIfInBounds_toArray, List.set_cons_zero, List.set_cons_succ])
    go_cut [38] (fun v38 wc => ∃ (kq : Nat) (x38_11 : Bool), v38 = .bool x38_11 ∧ Aside0 (laws_FnExactBalanceOf.j0 kq x38_11 l0_0 l0_1 t151 t154 = some r) ∧ Aside0 (kq ≤ k) ∧ Aside0 (Kd.R (Kd.int .i64) 3 wc w.heap.size (fun k_ => some k_ ≠ ((.slice Ao27 t154.length co27) : Value).ownBlock) (.slice Ao24 t151.length co24) t151) ∧ Aside0 (Kd.R (Kd.int .i64) 3 wc w.heap.size (fun k_ => some k_ ≠ ((.slice Ao24 t151.length co24) : Value).ownBlock) (.slice Ao27 t154.length co27) t154) ∧ Aside0 (wc.heap[gb141]? = some (.cells #[(.slice A0_0 l0_0.length c0_0), (.slice A0_1 l0_1.length c0_1)] 24 (0, 0))) ∧ Aside0 (wc.heap[gb157]? = some (.cells #[(.slice Ao24 t151.length co24), (.slice Ao27 t154.length co27)] 29 (0, 0))) ∧ Aside0 (Below w.heap.size w wc))
    case first =>
      have H := HC12.out
      clear HC12
      by_cases c29 : t158 = t149
      · rw [if_pos c29] at H
        have c29b0 : (t158 == t149) = true := beq_iff_eq.mpr c29
        have c29b1 : (t158 != t149) = false := bne_eq_false_iff_eq.mpr c29
        clear c29
        (first | rw [c29b0] | (simp only [i64_w, i32_w]; rw [c29b0]) | skip)
        have H' := Aside0.mk H
        clear H
        go_wp2
        go_meet
        case rel => exact ⟨_, ((t159 != t150)), (by first | rfl | (simp; done) | (simp [*]; done)), H', ⟨by first | omega | exact Nat.le_refl _⟩, ⟨by (with_reducible repeat (first | apply Kd.R_alloc | apply Kd.R_drewN | apply Kd.R_drew)); exact Kd.R_mono HO153.out (fun _ hk => hk.1.1)⟩, ⟨by (with_reducible repeat (first | apply Kd.R_alloc | apply Kd.R_drewN | apply Kd.R_drew)); exact Kd.R_mono HO156.out (fun _ hk => hk.1.1)⟩, ⟨by (with_reducible repeat (first | refine blk_drewN ?_ _ | refine blk_drew ?_ | refine blk_alloc ?_ _)); exact BK141.out⟩, ⟨by (with_reducible repeat (first | refine blk_drewN ?_ _ | refine blk_drew ?_ | refine blk_alloc ?_ _)); exact BK157.out⟩, ⟨by repeat (first | (with_reducible first | exact HB.out | apply below_alloc | apply pw_below_drewN | apply below_drew1 | refine below_set ?_ GE141.out | refine below_set ?_ GE157.out) | exact HB.out)⟩⟩
      · rw [if_neg c29] at H
        have c29b0 : (t158 == t149) = false := beq_eq_false_iff_ne.mpr c29
        have c29b1 : (t158 != t149) = true := bne_iff_ne.mpr c29
        (first | rw [c29b0] | (simp only [i64_w, i32_w]; rw [c29b0]) | skip)
        have H' := Aside0.mk H
        clear H
        go_wp2
        go_meet
        case rel => exact ⟨_, (true), (by first | rfl | (simp; done) | (simp [*]; done)), H', ⟨by first | omega | exact Nat.le_refl _⟩, ⟨by (with_reducible repeat (first | apply Kd.R_alloc | apply Kd.R_drewN | apply Kd.R_drew)); exact Kd.R_mono HO153.out (fun _ hk => hk.1.1)⟩, ⟨by (with_reducible repeat (first | apply Kd.R_alloc | apply Kd.R_drewN | apply Kd.R_drew)); exact Kd.R_mono HO156.out (fun _ hk => hk.1.1)⟩, ⟨by (with_reducible repeat (first | refine blk_drewN ?_ _ | refine blk_drew ?_ | refine blk_alloc ?_ _)); exact BK141.out⟩, ⟨by (with_reducible repeat (first | refine blk_drewN ?_ _ | refine blk_drew ?_ | refine blk_alloc ?_ _)); exact BK157.out⟩, ⟨by repeat (first | (with_reducible first | exact HB.out | apply below_alloc | apply pw_below_drewN | apply below_drew1 | refine below_set ?_ GE141.out | refine below_set ?_ GE157.out) | exact HB.out)⟩⟩
    case rest =>
      clear HC12
      try clear c1
      try clear c2
      try clear p2
      try clear c4
      try clear c4b0
      try clear c7
      try clear c13
      try clear c16
      try clear c25
      try clear c29
      try clear c29b0
      try clear c29b1
      try clear hcz14_0
      try clear hcz14_1
      try clear hcz16_0
      try clear hcz16_1
      try clear hcz21_0
      try clear hcz21_1
      try clear hcz26_0
      try clear hcz26_1
      try clear hcz6_0
      try clear hcz6_1
      try clear hfz14_0
      try clear hfz14_1
      try clear hfz16_0
      try clear hfz16_1
      try clear hfz21_0
      try clear hfz21_1
      try clear hfz26_0
      try clear hfz26_1
      try clear hfz6_0
      try clear hfz6_1
      obtain ⟨kq, x38_11, rfl, HA, HJ11, HO_158000, HO_158001, BK141, BK157, HB⟩ := hcut
      cases kq with
      | zero => exact absurd HA.out (by simp [laws_FnExactBalanceOf.j0])
      | succ kj11 =>
        have H := HA.out
        clear HA
        simp only [laws_FnExactBalanceOf.j0] at H
        by_cases c30 : x38_11 = true
        · (try subst c30)
          have H1 : (some false) = some r := by rw [if_pos rfl] at H; exact H
          clear H
          have H := H1
          clear H1
          obtain rfl := Option.some.inj H
          go_wp2
          go_ret
          exact ⟨by first | rfl | (simp [errW_none, errW_some] <;> rfl) | (simp [*, errW_none, errW_some] <;> rfl), by repeat (first | (with_reducible first | exact HB.out | apply below_alloc | apply pw_below_drewN | apply below_drew1 | refine below_set ?_ GE141.out | refine below_set ?_ GE157.out) | exact HB.out)⟩
        · replace c30 := Bool.eq_false_iff.mpr c30
          (try subst c30)
          have H1 : ((laws_toWeighing.f kj11 l0_0 l0_1).bind fun bt160 => ((laws_eqWeighing.f kj11 t151 t154 bt160.1 bt160.2).bind fun t166 => (if t166 = true then (some true) else (some false)))) = some r := by rw [if_neg (show ¬ (false = true) by decide)] at H; exact H
          clear H
          have H := H1
          clear H1
          replace H := Option.bind_eq_some_iff.mp H
          obtain ⟨⟨t160, t163⟩, A310, H⟩ := H
          replace H : ((laws_eqWeighing.f kj11 t151 t154 t160 t163).bind fun t166 => (if t166 = true then (some true) else (some false))) = some r := H
          have A31 := Aside0.mk A310
          clear A310
          replace H := Option.bind_eq_some_iff.mp H
          obtain ⟨t166, A320, H⟩ := H
          replace H : (if t166 = true then (some true) else (some false)) = some r := H
          have A32 := Aside0.mk A320
          clear A320
          by_cases c33 : t166 = true
          · (try subst c33)
            have H1 : (some true) = some r := by rw [if_pos rfl] at H; exact H
            clear H
            have H := H1
            clear H1
            obtain rfl := Option.some.inj H
            try go_wp2
            have n0_ := Aside0.mk (Kd.R_drew HO_158000.out)
            have n1_ := Aside0.mk (Kd.R_drew HO_158001.out)
            have n2_ := Aside0.mk (blk_drew BK141.out)
            have n3_ := Aside0.mk (blk_drew BK157.out)
            have n4_ := Aside0.mk (below_drew1 HB.out)
            clear HO_158000
            clear HO_158001
            clear BK141
            clear BK157
            clear HB
            have HO_158000 := n0_
            have HO_158001 := n1_
            have BK141 := n2_
            have BK157 := n3_
            have HB := n4_
            clear n0_ n1_ n2_ n3_ n4_
            refine start_ (n := 5) (S := fun w' => w'.cell? ⟨gb157, 0, none⟩ = some (.slice Ao24 t151.length co24) ∧ w'.cell? ⟨gb157, 1, none⟩ = some (.slice Ao27 t154.length co27) ∧ w'.cell? ⟨gb141, 0, none⟩ = some (.slice A0_0 l0_0.length c0_0) ∧ w'.cell? ⟨gb141, 1, none⟩ = some (.slice A0_1 l0_1.length c0_1)) (ds := []) #[false, false, false, false, false] (by kernel_rfl) rfl rfl ⟨(blk_cell BK157.out 0).trans rfl, (blk_cell BK157.out 1).trans rfl, (blk_cell BK141.out 0).trans rfl, (blk_cell BK141.out 1).trans rfl⟩ (fun hHeld => ?_)
            generalize wc.drew = w34 at HO_158000 HO_158001 BK141 BK157 HB hHeld ⊢
            refine take_ (i := 0) (N := some 39) (v := ?_) (a' := ?_) #[true, false, false, false, false] rfl rfl (by kernel_rfl) (fun _ _ _ h => h) (Or.inl ⟨by rfl, ?_⟩) hHeld ?_ ?_
            rotate_left
            · rintro w' ⟨s0, s1, s2, s3⟩
              go_simp
              with_reducible rfl
            rotate_left
            · simp only [Act.put, List.setIfInBounds_toArray, List.set_cons_zero, List.set_cons_succ, i64_w, i32_w]
              rfl
            refine take_ (i := 1) (N := some 40) (v := ?_) (a' := ?_) #[true, true, false, false, false] rfl rfl (by kernel_rfl) (fun _ _ _ h => h) (Or.inl ⟨by rfl, ?_⟩) hHeld ?_ ?_
            rotate_left
            · rintro w' ⟨s0, s1, s2, s3⟩
              go_simp
              with_reducible rfl
            rotate_left
            · simp only [Act.put, List.setIfInBounds_toArray, List.set_cons_zero, List.set_cons_succ, i64_w, i32_w]
              rfl
            refine one_ (i := 2) (N := some 41) #[true, true, true, false, false] rfl rfl (by kernel_rfl) (by decide) (fun K hK => ?_)
            refine goes_ Try.func16 (by kernel_rfl) rfl #[.agg #[.slice A0_0 l0_0.length c0_0, .slice A0_1 l0_1.length c0_1]] (by rfl) rfl rfl (by (try simp only [List.map_toArray, List.map_cons, List.map_nil]); first | done | rfl | (simp only [List.length_drop, List.length_take]; rfl)) ?_
            with_reducible refine (laws_toWeighing.calls kj11 _ _ l0_0 _ _ l0_1 t160 t163 _ ?side1 ?side2 ?side3 ?side4 A31.out).mono ?_
            (case side1 => repeat (first | exact (Kd.C_below HR0_0.out HB.out) | (with_reducible refine Kd.C_alloc ?_ _) | (with_reducible refine Kd.C_drewN ?_ _) | (with_reducible refine Kd.C_drew ?_)))
            (case side2 => exact HC0_0.out)
            (case side3 => repeat (first | exact (Kd.C_below HR0_1.out HB.out) | (with_reducible refine Kd.C_alloc ?_ _) | (with_reducible refine Kd.C_drewN ?_ _) | (with_reducible refine Kd.C_drew ?_)))
            (case side4 => exact HC0_1.out)
            rintro e w35 ⟨v161, v164, rfl, ho0, ho1, hb⟩
            refine ⟨_, rfl, ?_⟩
            have n0_ := Aside0.mk (Kd.R_mono (Kd.R_told (Kd.R_told (Kd.R_old (by (with_reducible repeat (first | apply Kd.R_alloc | apply Kd.R_drewN | apply Kd.R_drew)); exact HO_158000.out) hb) (Kd.R_base ho0)) (Kd.R_base ho1)) (fun _ h_ => h_.1))
            have n1_ := Aside0.mk (Kd.R_mono (Kd.R_told (Kd.R_told (Kd.R_old (by (with_reducible repeat (first | apply Kd.R_alloc | apply Kd.R_drewN | apply Kd.R_drew)); exact HO_158001.out) hb) (Kd.R_base ho0)) (Kd.R_base ho1)) (fun _ h_ => h_.1))
            have n2_ := Aside0.mk (Kd.R_lower (Kd.R_new' (Kd.R_new' ho0 (Kd.R_lt (by (with_reducible repeat (first | apply Kd.R_alloc | apply Kd.R_drewN | apply Kd.R_drew)); exact HO_158000.out))) (Kd.R_lt (by (with_reducible repeat (first | apply Kd.R_alloc | apply Kd.R_drewN | apply Kd.R_drew)); exact HO_158001.out))) (below_size (by repeat (first | (with_reducible first | exact HB.out | apply below_alloc | apply pw_below_drewN | apply below_drew1 | refine below_set ?_ GE141.out | refine below_set ?_ GE157.out) | exact HB.out))))
            have n3_ := Aside0.mk (Kd.R_lower (Kd.R_new' (Kd.R_new' ho1 (Kd.R_lt (by (with_reducible repeat (first | apply Kd.R_alloc | apply Kd.R_drewN | apply Kd.R_drew)); exact HO_158000.out))) (Kd.R_lt (by (with_reducible repeat (first | apply Kd.R_alloc | apply Kd.R_drewN | apply Kd.R_drew)); exact HO_158001.out))) (below_size (by repeat (first | (with_reducible first | exact HB.out | apply below_alloc | apply pw_below_drewN | apply below_drew1 | refine below_set ?_ GE141.out | refine below_set ?_ GE157.out) | exact HB.out))))
            have n4_ := Aside0.mk (blk_below (g := gb141) (o := .cells #[.slice A0_0 l0_0.length c0_0, .slice A0_1 l0_1.length c0_1] 24 (0, 0)) (by (with_reducible repeat (first | refine blk_drewN ?_ _ | refine blk_drew ?_ | refine blk_alloc ?_ _)); exact BK141.out) hb)
            have n5_ := Aside0.mk (blk_below (g := gb157) (o := .cells #[.slice Ao24 t151.length co24, .slice Ao27 t154.length co27] 29 (0, 0)) (by (with_reducible repeat (first | refine blk_drewN ?_ _ | refine blk_drew ?_ | refine blk_alloc ?_ _)); exact BK157.out) hb)
            have n6_ := Aside0.mk (below_step (by repeat (first | (with_reducible first | exact HB.out | apply below_alloc | apply pw_below_drewN | apply below_drew1 | refine below_set ?_ GE141.out | refine below_set ?_ GE157.out) | exact HB.out)) hb)
            clear HO_158000
            clear HO_158001
            clear BK141
            clear BK157
            clear HB
            have HO_158000 := n0_
            have HO_158001 := n1_
            have HO162 := n2_
            have HO165 := n3_
            have BK141 := n4_
            have BK157 := n5_
            have HB := n6_
            clear n0_ n1_ n2_ n3_ n4_ n5_ n6_
            (try clear hb)
            (try clear hb2)
            (try clear hk)
            (try clear hi)
            (try clear ho0)
            (try clear ho1)
            obtain ⟨Ao36, co36, eo36⟩ := Kd.R_slice HO162.out
            (first | subst eo36 | (injection eo36 with f1_ f2_ f3_; have f4_ := f1_.symm; have f5_ := f3_.symm; clear f1_ f2_ f3_; subst f4_; subst f5_))
            obtain ⟨Ao37, co37, eo37⟩ := Kd.R_slice HO165.out
            (first | subst eo37 | (injection eo37 with f1_ f2_ f3_; have f4_ := f1_.symm; have f5_ := f3_.symm; clear f1_ f2_ f3_; subst f4_; subst f5_))
            refine hK.out _ _ ⟨(blk_cell BK157.out 0).trans rfl, (blk_cell BK157.out 1).trans rfl, (blk_cell BK141.out 0).trans rfl, (blk_cell BK141.out 1).trans rfl⟩ (fun hHeld => ?_)
            clear hK K
            refine norm_ (a' := ?_) ?_ ?_
            rotate_left
            · show Act.put _ (some 41) _ = _
              simp only [Act.put, List.setIfInBounds_toArray, List.set_cons_zero, List.set_cons_succ, i64_w, i32_w]
              rfl
            refine one_ (i := 3) (N := some 42) #[true, true, true, true, false] rfl rfl (by kernel_rfl) (by decide) (fun K hK => ?_)
            refine goes_ Try.func19 (by kernel_rfl) rfl #[.agg #[.slice Ao24 t151.length co24, .slice Ao27 t154.length co27], .agg #[.slice Ao36 t160.length co36, .slice Ao37 t163.length co37]] (by rfl) rfl rfl (by (try simp only [List.map_toArray, List.map_cons, List.map_nil]); first | done | rfl | (simp only [List.length_drop, List.length_take]; rfl)) ?_
            with_reducible refine (laws_eqWeighing.calls kj11 _ _ t151 _ _ t154 _ _ t160 _ _ t163 true _ ?side1 ?side2 ?side3 ?side4 ?side5 ?side6 ?side7 ?side8 A32.out).mono ?_
            (case side1 => repeat (first | exact (Kd.R_reads' HO_158000.out).2.2 | (with_reducible refine Kd.C_alloc ?_ _) | (with_reducible refine Kd.C_drewN ?_ _) | (with_reducible refine Kd.C_drew ?_)))
            (case side2 => exact (Kd.R_reads' HO_158000.out).2.1)
            (case side3 => repeat (first | exact (Kd.R_reads' HO_158001.out).2.2 | (with_reducible refine Kd.C_alloc ?_ _) | (with_reducible refine Kd.C_drewN ?_ _) | (with_reducible refine Kd.C_drew ?_)))
            (case side4 => exact (Kd.R_reads' HO_158001.out).2.1)
            (case side5 => repeat (first | exact (Kd.R_reads' HO162.out).2.2 | (with_reducible refine Kd.C_alloc ?_ _) | (with_reducible refine Kd.C_drewN ?_ _) | (with_reducible refine Kd.C_drew ?_)))
            (case side6 => exact (Kd.R_reads' HO162.out).2.1)
            (case side7 => repeat (first | exact (Kd.R_reads' HO165.out).2.2 | (with_reducible refine Kd.C_alloc ?_ _) | (with_reducible refine Kd.C_drewN ?_ _) | (with_reducible refine Kd.C_drew ?_)))
            (case side8 => exact (Kd.R_reads' HO165.out).2.1)
            rintro e w38 ⟨rfl, hb⟩
            refine ⟨_, rfl, ?_⟩
            have n0_ := Aside0.mk (Kd.R_below (by (with_reducible repeat (first | apply Kd.R_alloc | apply Kd.R_drewN | apply Kd.R_drew)); exact HO_158000.out) hb)
            have n1_ := Aside0.mk (Kd.R_below (by (with_reducible repeat (first | apply Kd.R_alloc | apply Kd.R_drewN | apply Kd.R_drew)); exact HO_158001.out) hb)
            have n2_ := Aside0.mk (Kd.R_below (by (with_reducible repeat (first | apply Kd.R_alloc | apply Kd.R_drewN | apply Kd.R_drew)); exact HO162.out) hb)
            have n3_ := Aside0.mk (Kd.R_below (by (with_reducible repeat (first | apply Kd.R_alloc | apply Kd.R_drewN | apply Kd.R_drew)); exact HO165.out) hb)
            have n4_ := Aside0.mk (blk_below (g := gb141) (o := .cells #[.slice A0_0 l0_0.length c0_0, .slice A0_1 l0_1.length c0_1] 24 (0, 0)) (by (with_reducible repeat (first | refine blk_drewN ?_ _ | refine blk_drew ?_ | refine blk_alloc ?_ _)); exact BK141.out) hb)
            have n5_ := Aside0.mk (blk_below (g := gb157) (o := .cells #[.slice Ao24 t151.length co24, .slice Ao27 t154.length co27] 29 (0, 0)) (by (with_reducible repeat (first | refine blk_drewN ?_ _ | refine blk_drew ?_ | refine blk_alloc ?_ _)); exact BK157.out) hb)
            have n6_ := Aside0.mk (below_step (by repeat (first | (with_reducible first | exact HB.out | apply below_alloc | apply pw_below_drewN | apply below_drew1 | refine below_set ?_ GE141.out | refine below_set ?_ GE157.out) | exact HB.out)) hb)
            clear HO_158000
            clear HO_158001
            clear HO162
            clear HO165
            clear BK141
            clear BK157
            clear HB
            have HO_158000 := n0_
            have HO_158001 := n1_
            have HO162 := n2_
            have HO165 := n3_
            have BK141 := n4_
            have BK157 := n5_
            have HB := n6_
            clear n0_ n1_ n2_ n3_ n4_ n5_ n6_
            (try clear hb)
            (try clear hb2)
            (try clear hk)
            (try clear hi)
            refine hK.out _ _ ⟨(blk_cell BK157.out 0).trans rfl, (blk_cell BK157.out 1).trans rfl, (blk_cell BK141.out 0).trans rfl, (blk_cell BK141.out 1).trans rfl⟩ (fun hHeld => ?_)
            clear hK K
            refine norm_ (a' := ?_) ?_ ?_
            rotate_left
            · show Act.put _ (some 42) _ = _
              simp only [Act.put, List.setIfInBounds_toArray, List.set_cons_zero, List.set_cons_succ, i64_w, i32_w]
              rfl
            refine pure_ (i := 4) (N := some 43) (v := ?_) (a' := ?_) #[true, true, true, true, true] rfl rfl (by kernel_rfl) (fun _ _ _ h => h) (Or.inl ⟨by rfl, ?_⟩) ?_ ?_
            rotate_left
            · intro w'
              go_simp
              with_reducible rfl
            rotate_left
            · simp only [Act.put, List.setIfInBounds_toArray, List.set_cons_zero, List.set_cons_succ, i64_w, i32_w]
              rfl
            refine done_ (by kernel_rfl) ?_
            try go_wp2
            go_ret
            exact ⟨by first | rfl | (simp [errW_none, errW_some] <;> rfl) | (simp [*, errW_none, errW_some] <;> rfl), by repeat (first | (with_reducible first | exact HB.out | apply below_alloc | apply pw_below_drewN | apply below_drew1 | refine below_set ?_ GE141.out | refine below_set ?_ GE157.out) | exact HB.out)⟩
          · replace c33 := Bool.eq_false_iff.mpr c33
            (try subst c33)
            have H1 : (some false) = some r := by rw [if_neg (show ¬ (false = true) by decide)] at H; exact H
            clear H
            have H := H1
            clear H1
            obtain rfl := Option.some.inj H
            try go_wp2
            have n0_ := Aside0.mk (Kd.R_drew HO_158000.out)
            have n1_ := Aside0.mk (Kd.R_drew HO_158001.out)
            have n2_ := Aside0.mk (blk_drew BK141.out)
            have n3_ := Aside0.mk (blk_drew BK157.out)
            have n4_ := Aside0.mk (below_drew1 HB.out)
            clear HO_158000
            clear HO_158001
            clear BK141
            clear BK157
            clear HB
            have HO_158000 := n0_
            have HO_158001 := n1_
            have BK141 := n2_
            have BK157 := n3_
            have HB := n4_
            clear n0_ n1_ n2_ n3_ n4_
            refine start_ (n := 5) (S := fun w' => w'.cell? ⟨gb157, 0, none⟩ = some (.slice Ao24 t151.length co24) ∧ w'.cell? ⟨gb157, 1, none⟩ = some (.slice Ao27 t154.length co27) ∧ w'.cell? ⟨gb141, 0, none⟩ = some (.slice A0_0 l0_0.length c0_0) ∧ w'.cell? ⟨gb141, 1, none⟩ = some (.slice A0_1 l0_1.length c0_1)) (ds := []) #[false, false, false, false, false] (by kernel_rfl) rfl rfl ⟨(blk_cell BK157.out 0).trans rfl, (blk_cell BK157.out 1).trans rfl, (blk_cell BK141.out 0).trans rfl, (blk_cell BK141.out 1).trans rfl⟩ (fun hHeld => ?_)
            generalize wc.drew = w39 at HO_158000 HO_158001 BK141 BK157 HB hHeld ⊢
            refine take_ (i := 0) (N := some 39) (v := ?_) (a' := ?_) #[true, false, false, false, false] rfl rfl (by kernel_rfl) (fun _ _ _ h => h) (Or.inl ⟨by rfl, ?_⟩) hHeld ?_ ?_
            rotate_left
            · rintro w' ⟨s0, s1, s2, s3⟩
              go_simp
              with_reducible rfl
            rotate_left
            · simp only [Act.put, List.setIfInBounds_toArray, List.set_cons_zero, List.set_cons_succ, i64_w, i32_w]
              rfl
            refine take_ (i := 1) (N := some 40) (v := ?_) (a' := ?_) #[true, true, false, false, false] rfl rfl (by kernel_rfl) (fun _ _ _ h => h) (Or.inl ⟨by rfl, ?_⟩) hHeld ?_ ?_
            rotate_left
            · rintro w' ⟨s0, s1, s2, s3⟩
              go_simp
              with_reducible rfl
            rotate_left
            · simp only [Act.put, List.setIfInBounds_toArray, List.set_cons_zero, List.set_cons_succ, i64_w, i32_w]
              rfl
            refine one_ (i := 2) (N := some 41) #[true, true, true, false, false] rfl rfl (by kernel_rfl) (by decide) (fun K hK => ?_)
            refine goes_ Try.func16 (by kernel_rfl) rfl #[.agg #[.slice A0_0 l0_0.length c0_0, .slice A0_1 l0_1.length c0_1]] (by rfl) rfl rfl (by (try simp only [List.map_toArray, List.map_cons, List.map_nil]); first | done | rfl | (simp only [List.length_drop, List.length_take]; rfl)) ?_
            with_reducible refine (laws_toWeighing.calls kj11 _ _ l0_0 _ _ l0_1 t160 t163 _ ?side1 ?side2 ?side3 ?side4 A31.out).mono ?_
            (case side1 => repeat (first | exact (Kd.C_below HR0_0.out HB.out) | (with_reducible refine Kd.C_alloc ?_ _) | (with_reducible refine Kd.C_drewN ?_ _) | (with_reducible refine Kd.C_drew ?_)))
            (case side2 => exact HC0_0.out)
            (case side3 => repeat (first | exact (Kd.C_below HR0_1.out HB.out) | (with_reducible refine Kd.C_alloc ?_ _) | (with_reducible refine Kd.C_drewN ?_ _) | (with_reducible refine Kd.C_drew ?_)))
            (case side4 => exact HC0_1.out)
            rintro e w40 ⟨v161, v164, rfl, ho0, ho1, hb⟩
            refine ⟨_, rfl, ?_⟩
            have n0_ := Aside0.mk (Kd.R_mono (Kd.R_told (Kd.R_told (Kd.R_old (by (with_reducible repeat (first | apply Kd.R_alloc | apply Kd.R_drewN | apply Kd.R_drew)); exact HO_158000.out) hb) (Kd.R_base ho0)) (Kd.R_base ho1)) (fun _ h_ => h_.1))
            have n1_ := Aside0.mk (Kd.R_mono (Kd.R_told (Kd.R_told (Kd.R_old (by (with_reducible repeat (first | apply Kd.R_alloc | apply Kd.R_drewN | apply Kd.R_drew)); exact HO_158001.out) hb) (Kd.R_base ho0)) (Kd.R_base ho1)) (fun _ h_ => h_.1))
            have n2_ := Aside0.mk (Kd.R_lower (Kd.R_new' (Kd.R_new' ho0 (Kd.R_lt (by (with_reducible repeat (first | apply Kd.R_alloc | apply Kd.R_drewN | apply Kd.R_drew)); exact HO_158000.out))) (Kd.R_lt (by (with_reducible repeat (first | apply Kd.R_alloc | apply Kd.R_drewN | apply Kd.R_drew)); exact HO_158001.out))) (below_size (by repeat (first | (with_reducible first | exact HB.out | apply below_alloc | apply pw_below_drewN | apply below_drew1 | refine below_set ?_ GE141.out | refine below_set ?_ GE157.out) | exact HB.out))))
            have n3_ := Aside0.mk (Kd.R_lower (Kd.R_new' (Kd.R_new' ho1 (Kd.R_lt (by (with_reducible repeat (first | apply Kd.R_alloc | apply Kd.R_drewN | apply Kd.R_drew)); exact HO_158000.out))) (Kd.R_lt (by (with_reducible repeat (first | apply Kd.R_alloc | apply Kd.R_drewN | apply Kd.R_drew)); exact HO_158001.out))) (below_size (by repeat (first | (with_reducible first | exact HB.out | apply below_alloc | apply pw_below_drewN | apply below_drew1 | refine below_set ?_ GE141.out | refine below_set ?_ GE157.out) | exact HB.out))))
            have n4_ := Aside0.mk (blk_below (g := gb141) (o := .cells #[.slice A0_0 l0_0.length c0_0, .slice A0_1 l0_1.length c0_1] 24 (0, 0)) (by (with_reducible repeat (first | refine blk_drewN ?_ _ | refine blk_drew ?_ | refine blk_alloc ?_ _)); exact BK141.out) hb)
            have n5_ := Aside0.mk (blk_below (g := gb157) (o := .cells #[.slice Ao24 t151.length co24, .slice Ao27 t154.length co27] 29 (0, 0)) (by (with_reducible repeat (first | refine blk_drewN ?_ _ | refine blk_drew ?_ | refine blk_alloc ?_ _)); exact BK157.out) hb)
            have n6_ := Aside0.mk (below_step (by repeat (first | (with_reducible first | exact HB.out | apply below_alloc | apply pw_below_drewN | apply below_drew1 | refine below_set ?_ GE141.out | refine below_set ?_ GE157.out) | exact HB.out)) hb)
            clear HO_158000
            clear HO_158001
            clear BK141
            clear BK157
            clear HB
            have HO_158000 := n0_
            have HO_158001 := n1_
            have HO162 := n2_
            have HO165 := n3_
            have BK141 := n4_
            have BK157 := n5_
            have HB := n6_
            clear n0_ n1_ n2_ n3_ n4_ n5_ n6_
            (try clear hb)
            (try clear hb2)
            (try clear hk)
            (try clear hi)
            (try clear ho0)
            (try clear ho1)
            obtain ⟨Ao41, co41, eo41⟩ := Kd.R_slice HO162.out
            (first | subst eo41 | (injection eo41 with f1_ f2_ f3_; have f4_ := f1_.symm; have f5_ := f3_.symm; clear f1_ f2_ f3_; subst f4_; subst f5_))
            obtain ⟨Ao42, co42, eo42⟩ := Kd.R_slice HO165.out
            (first | subst eo42 | (injection eo42 with f1_ f2_ f3_; have f4_ := f1_.symm; have f5_ := f3_.symm; clear f1_ f2_ f3_; subst f4_; subst f5_))
            refine hK.out _ _ ⟨(blk_cell BK157.out 0).trans rfl, (blk_cell BK157.out 1).trans rfl, (blk_cell BK141.out 0).trans rfl, (blk_cell BK141.out 1).trans rfl⟩ (fun hHeld => ?_)
            clear hK K
            refine norm_ (a' := ?_) ?_ ?_
            rotate_left
            · show Act.put _ (some 41) _ = _
              simp only [Act.put, List.setIfInBounds_toArray, List.set_cons_zero, List.set_cons_succ, i64_w, i32_w]
              rfl
            refine one_ (i := 3) (N := some 42) #[true, true, true, true, false] rfl rfl (by kernel_rfl) (by decide) (fun K hK => ?_)
            refine goes_ Try.func19 (by kernel_rfl) rfl #[.agg #[.slice Ao24 t151.length co24, .slice Ao27 t154.length co27], .agg #[.slice Ao41 t160.length co41, .slice Ao42 t163.length co42]] (by rfl) rfl rfl (by (try simp only [List.map_toArray, List.map_cons, List.map_nil]); first | done | rfl | (simp only [List.length_drop, List.length_take]; rfl)) ?_
            with_reducible refine (laws_eqWeighing.calls kj11 _ _ t151 _ _ t154 _ _ t160 _ _ t163 false _ ?side1 ?side2 ?side3 ?side4 ?side5 ?side6 ?side7 ?side8 A32.out).mono ?_
            (case side1 => repeat (first | exact (Kd.R_reads' HO_158000.out).2.2 | (with_reducible refine Kd.C_alloc ?_ _) | (with_reducible refine Kd.C_drewN ?_ _) | (with_reducible refine Kd.C_drew ?_)))
            (case side2 => exact (Kd.R_reads' HO_158000.out).2.1)
            (case side3 => repeat (first | exact (Kd.R_reads' HO_158001.out).2.2 | (with_reducible refine Kd.C_alloc ?_ _) | (with_reducible refine Kd.C_drewN ?_ _) | (with_reducible refine Kd.C_drew ?_)))
            (case side4 => exact (Kd.R_reads' HO_158001.out).2.1)
            (case side5 => repeat (first | exact (Kd.R_reads' HO162.out).2.2 | (with_reducible refine Kd.C_alloc ?_ _) | (with_reducible refine Kd.C_drewN ?_ _) | (with_reducible refine Kd.C_drew ?_)))
            (case side6 => exact (Kd.R_reads' HO162.out).2.1)
            (case side7 => repeat (first | exact (Kd.R_reads' HO165.out).2.2 | (with_reducible refine Kd.C_alloc ?_ _) | (with_reducible refine Kd.C_drewN ?_ _) | (with_reducible refine Kd.C_drew ?_)))
            (case side8 => exact (Kd.R_reads' HO165.out).2.1)
            rintro e w43 ⟨rfl, hb⟩
            refine ⟨_, rfl, ?_⟩
            have n0_ := Aside0.mk (Kd.R_below (by (with_reducible repeat (first | apply Kd.R_alloc | apply Kd.R_drewN | apply Kd.R_drew)); exact HO_158000.out) hb)
            have n1_ := Aside0.mk (Kd.R_below (by (with_reducible repeat (first | apply Kd.R_alloc | apply Kd.R_drewN | apply Kd.R_drew)); exact HO_158001.out) hb)
            have n2_ := Aside0.mk (Kd.R_below (by (with_reducible repeat (first | apply Kd.R_alloc | apply Kd.R_drewN | apply Kd.R_drew)); exact HO162.out) hb)
            have n3_ := Aside0.mk (Kd.R_below (by (with_reducible repeat (first | apply Kd.R_alloc | apply Kd.R_drewN | apply Kd.R_drew)); exact HO165.out) hb)
            have n4_ := Aside0.mk (blk_below (g := gb141) (o := .cells #[.slice A0_0 l0_0.length c0_0, .slice A0_1 l0_1.length c0_1] 24 (0, 0)) (by (with_reducible repeat (first | refine blk_drewN ?_ _ | refine blk_drew ?_ | refine blk_alloc ?_ _)); exact BK141.out) hb)
            have n5_ := Aside0.mk (blk_below (g := gb157) (o := .cells #[.slice Ao24 t151.length co24, .slice Ao27 t154.length co27] 29 (0, 0)) (by (with_reducible repeat (first | refine blk_drewN ?_ _ | refine blk_drew ?_ | refine blk_alloc ?_ _)); exact BK157.out) hb)
            have n6_ := Aside0.mk (below_step (by repeat (first | (with_reducible first | exact HB.out | apply below_alloc | apply pw_below_drewN | apply below_drew1 | refine below_set ?_ GE141.out | refine below_set ?_ GE157.out) | exact HB.out)) hb)
            clear HO_158000
            clear HO_158001
            clear HO162
            clear HO165
            clear BK141
            clear BK157
            clear HB
            have HO_158000 := n0_
            have HO_158001 := n1_
            have HO162 := n2_
            have HO165 := n3_
            have BK141 := n4_
            have BK157 := n5_
            have HB := n6_
            clear n0_ n1_ n2_ n3_ n4_ n5_ n6_
            (try clear hb)
            (try clear hb2)
            (try clear hk)
            (try clear hi)
            refine hK.out _ _ ⟨(blk_cell BK157.out 0).trans rfl, (blk_cell BK157.out 1).trans rfl, (blk_cell BK141.out 0).trans rfl, (blk_cell BK141.out 1).trans rfl⟩ (fun hHeld => ?_)
            clear hK K
            refine norm_ (a' := ?_) ?_ ?_
            rotate_left
            · show Act.put _ (some 42) _ = _
              simp only [Act.put, List.setIfInBounds_toArray, List.set_cons_zero, List.set_cons_succ, i64_w, i32_w]
              rfl
            refine pure_ (i := 4) (N := some 43) (v := ?_) (a' := ?_) #[true, true, true, true, true] rfl rfl (by kernel_rfl) (fun _ _ _ h => h) (Or.inl ⟨by rfl, ?_⟩) ?_ ?_
            rotate_left
            · intro w'
              go_simp
              with_reducible rfl
            rotate_left
            · simp only [Act.put, List.setIfInBounds_toArray, List.set_cons_zero, List.set_cons_succ, i64_w, i32_w]
              rfl
            refine done_ (by kernel_rfl) ?_
            try go_wp2
            go_ret
            exact ⟨by first | rfl | (simp [errW_none, errW_some] <;> rfl) | (simp [*, errW_none, errW_some] <;> rfl), by repeat (first | (with_reducible first | exact HB.out | apply below_alloc | apply pw_below_drewN | apply below_drew1 | refine below_set ?_ GE141.out | refine below_set ?_ GE157.out) | exact HB.out)⟩

end Go.Proofs.Ytffohdlbkigehaa.HFnExactBalanceOf
