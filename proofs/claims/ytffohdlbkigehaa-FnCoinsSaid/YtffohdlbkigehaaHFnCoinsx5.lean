/- Text for FnCoins: written by a program of this session on the pattern of the kit's print. -/
import Derived.Test.YtffohdlbkigehaaHFnCoinsx0
import Derived.Test.YtffohdlbkigehaaHFnCoinsx1
import Derived.Test.YtffohdlbkigehaaHFnCoinsx2
import Derived.Test.YtffohdlbkigehaaHFnCoinsx4
namespace Go.Proofs.Ytffohdlbkigehaa.HFnCoins
open Go.RowKit Go.Proofs.YtffohdlbkigehaaW.PrintWords Go.Proofs.YtffohdlbkigehaaW.PrintLast Go.Proofs.YtffohdlbkigehaaW.PrintMore
attribute [local go_sem] max2_int min2_int max_two min_two max_three min_three max_four min_four   -- for this text's walks alone
set_option linter.unusedVariables false
set_option linter.unusedSimpArgs false

/-! ### impl_CoinWords: function 54 -/
def impl_CoinWords.has (k : Nat) (out : List (List Int)) (w : List Int) : Option Bool := Go.Proofs.Ytffohdlbkigehaa.Any.anyO (fun x => slices_Equal_int_int.f k x w) out
def impl_CoinWords.loop (k : Nat) (coins kk : Int) : Nat → Int → List (List Int) → Option (List (List Int))
  | 0, _, out => some out
  | c + 1, n, out => if (out.length : Int) < coins then (if out.length ≤ 1000000 then (impl_WordOf.f k n kk).bind fun p => (impl_TurnsForward.f k p.1).bind fun t => if t = true then (impl_CoinWords.has k out p.1).bind fun b => if b = true then impl_CoinWords.loop k coins kk c (n + 1) out else (impl_turned.f k p.1).bind fun t1 => (impl_turned.f k t1).bind fun t2 => impl_CoinWords.loop k coins kk c (n + 1) (out ++ [p.1, t1, t2]) else impl_CoinWords.loop k coins kk c (n + 1) out else none) else some out
theorem impl_CoinWords.has_mono (k : Nat) (out : List (List Int)) (w : List Int) : LeO (impl_CoinWords.has k out w) (impl_CoinWords.has (k + 1) out w) := Go.Proofs.Ytffohdlbkigehaa.Any.anyO_le (fun x => slices_Equal_int_int.mono x w k) out
theorem impl_CoinWords.loop_mono (k : Nat) (coins kk : Int) : ∀ c n out, LeO (impl_CoinWords.loop k coins kk c n out) (impl_CoinWords.loop (k + 1) coins kk c n out)
  | 0, _, _ => LeO.refl _
  | c + 1, n, out => LeO.ite (LeO.ite (LeO.bind (impl_WordOf.mono n kk k) (fun p => LeO.bind (impl_TurnsForward.mono p.1 k) (fun t => LeO.ite (LeO.bind (impl_CoinWords.has_mono k out p.1) (fun b => LeO.ite (impl_CoinWords.loop_mono k coins kk c (n + 1) out) (LeO.bind (impl_turned.mono p.1 k) (fun t1 => LeO.bind (impl_turned.mono t1 k) (fun t2 => impl_CoinWords.loop_mono k coins kk c (n + 1) _))))) (impl_CoinWords.loop_mono k coins kk c (n + 1) out)))) (LeO.refl _)) (LeO.refl _)
theorem impl_CoinWords.empty {α : Type} (d : Kd α) (e g : Nat) (w : World) (base : Nat) (ok : Nat → Prop) (hh : w.heap[g]? = some (.cells #[] e (0, 0))) (hb : base ≤ g) (hk : ok g) : Kd.S d e w base ok (.slice (some ⟨g, 0, none⟩) 0 0) [] :=
  ⟨fun _ => 0, fun k hk2 => by have : g = k := by simpa [Value.ownBlock] using hk2
                               exact this ▸ hk, [], ⟨by simp, .inr ⟨g, 0, #[], rfl, hb, hh, Nat.le_refl _, by decide, by simp, by simp⟩⟩, Reps.none _ _⟩
theorem impl_CoinWords.hasCall (k : Nat) (out : List (List Int)) (wd : List Int) (b : Bool) (Ao Av : Option Addr) (co cv blk : Nat) (W : World) (hB : blk < W.heap.size) (hcl : W.cell? ⟨blk, 0, none⟩ = some (.slice Av wd.length cv)) (hr : Kd.C (Kd.slice 3 (Kd.int .i64)) W Ao out.length out) (hw : Kd.C (Kd.int .i64) W Av wd.length wd) (hwc : wd.length ≤ cv) (h : impl_CoinWords.has k out wd = some b) :
    Calls Try.prog 90 #[.slice Ao out.length co, .func (.func 91) #[] #[.pointer (some ⟨blk, 0, none⟩)]] W fun e w' => e = .returned (.bool b) ∧ Below W.heap.size W w' := by
  obtain ⟨p, h1, h2⟩ := Go.Proofs.Ytffohdlbkigehaa.Any.anyO_some' h
  obtain ⟨g2, g4, hg⟩ := Go.Proofs.Ytffohdlbkigehaa.Any.rowsOf hr
  refine contains90 91 #[.pointer (some ⟨blk, 0, none⟩)] p (fun j => .slice (g2 j) (out.getD j []).length (g4 j)) (fun args w => enters_ Try.func91 (by kernel_rfl) rfl args w) Ao out.length co b W (by have := hr.2.1; omega) ?_ ?_ h2
  · intro W' hW j hj
    obtain ⟨ad, e, hb, m0, _, _⟩ := hg j hj
    exact ⟨ad, e, Go.Proofs.Ytffohdlbkigehaa.Any.cell_below hW hb m0⟩
  · intro W' j hW hj
    have e := h1 j hj
    have eg : out.getD j [] = out[j] := by simp [List.getD_eq_getElem?_getD, List.getElem?_eq_getElem hj]
    obtain ⟨ad, ea, hb, m0, l2, C2⟩ := hg j hj
    refine (closure91 k (out.getD j []) wd (g2 j) Av (g4 j) cv blk (p j) W' ((hW.cell (p := ⟨blk, 0, none⟩) hB).trans hcl) (Kd.C_below C2 hW) l2 (Kd.C_below hw hW) hwc (by rw [eg]; exact e)).mono ?_
    rintro e w' ⟨rfl, hd⟩
    exact ⟨rfl, hW.trans (hd.below.mono hW.size)⟩
theorem impl_CoinWords.append3 {P : Program} {ops : Array Oper} {o : Oper} {a : Act} {Kc : Act → World → Prop} {Q : Exit → Act → World → Prop} {E : Prop} {w0 W : World} (base : Nat) (hgd : o.guard = none) (s x : Operand) (t e t3 : TypeId) (bytes : Nat)
    (ho : o.op = .call { callee := .builtin .append, args := #[s, x], argTypes := #[t, t] })
    (ht : P.underlying t = some (.slice e)) (hinfo : (P.info? e).map (fun i => (i.zero, i.size, i.bytes)) = some (some (.slice none 0 0), 1, bytes)) (hb0 : 0 < bytes)
    (v : Value) (xs : List (List Int)) (x1 x2 x3 : List Int) (v1 v2 v3 : Value) (ok : Nat → Prop) (ad : Addr)
    (hs : a.eval s = v) (hx : a.eval x = .slice (some ad) 3 3)
    (HO : Kd.S (Kd.slice t3 (Kd.int .i64)) e W base (fun k => ok k ∧ some k ≠ v1.ownBlock ∧ some k ≠ v2.ownBlock ∧ some k ≠ v3.ownBlock) v xs)
    (R1 : Kd.R (Kd.int .i64) t3 W base ok v1 x1) (R2 : Kd.R (Kd.int .i64) t3 W base ok v2 x2) (R3 : Kd.R (Kd.int .i64) t3 W base ok v3 x3)
    (d12 : ∀ k, v1.ownBlock = some k → v2.ownBlock ≠ some k) (d13 : ∀ k, v1.ownBlock = some k → v3.ownBlock ≠ some k) (d23 : ∀ k, v2.ownBlock = some k → v3.ownBlock ≠ some k)
    (c1 : W.cell? (ad.add 0) = some v1) (c2 : W.cell? (ad.add 1) = some v2) (c3 : W.cell? (ad.add 2) = some v3)
    (hfresh : ∀ k, W.heap.size ≤ k → ok k) (HB : Below base w0 W) (hbase : base ≤ W.heap.size) (hl : (xs.length + 3) * bytes ≤ 140737488355328)
    (h : ∀ v' w', Kd.S (Kd.slice t3 (Kd.int .i64)) e w' base ok v' (xs ++ [x1, x2, x3]) → Below base w0 w' → W.grownBy w' v.ownBlock → Kc (a.put o.dst v') w') :
    if Region.wanted o (yielded ops a.tmps) = true then Oper.wp P o a W Kc Q else E := by
  have hw : Region.wanted o (yielded ops a.tmps) = true := by simp [Region.wanted, hgd]
  rw [if_pos hw]
  obtain ⟨f, hok0, inner, hown, hr⟩ := HO
  obtain ⟨f', hf'⟩ : ∃ f' : Nat → Nat, f' = fun k => if some k = v1.ownBlock then xs.length else if some k = v2.ownBlock then xs.length + 1 else if some k = v3.ownBlock then xs.length + 2 else f k := ⟨_, rfl⟩
  have HR : (Kd.tag f' (Kd.slice t3 (Kd.int .i64))).R e W base ok v xs.zipIdx := by
    refine ⟨fun k hk => (hok0 k hk).1, inner, hown, hr.1, fun j p hj => ?_⟩
    refine Kd.M_mono (Kd.slice t3 (Kd.int .i64)) (fun k hk => ?_) (hr.2 j p hj)
    obtain ⟨⟨⟨h0, h1, h2, h3⟩, h4⟩, h5⟩ := hk
    refine ⟨⟨h0, h4⟩, ?_⟩
    rw [hf']
    simp only [if_neg h1, if_neg h2, if_neg h3]
    exact h5
  have e1 : ∀ k, some k = v1.ownBlock → f' k = xs.length := fun k hk => by rw [hf']; simp only [if_pos hk]
  have e2 : ∀ k, some k = v2.ownBlock → f' k = xs.length + 1 := fun k hk => by rw [hf']; simp only [if_pos hk, if_neg (fun h1 : some k = v1.ownBlock => d12 k h1.symm hk.symm)]
  have e3 : ∀ k, some k = v3.ownBlock → f' k = xs.length + 2 := fun k hk => by rw [hf']; simp only [if_pos hk, if_neg (fun h1 : some k = v1.ownBlock => d13 k h1.symm hk.symm), if_neg (fun h2 : some k = v2.ownBlock => d23 k h2.symm hk.symm)]
  have hstep := Kd.R_append_rows_step (P := P) (ops := ops) (o := o) (a := a) (Kc := Kc) (Q := Q) (Kd.tag f' (Kd.slice t3 (Kd.int .i64))) (Rr := fun (p : List Int × Nat) cs => p = (x1, xs.length) ∧ cs = [v1] ∨ p = (x2, xs.length + 1) ∧ cs = [v2] ∨ p = (x3, xs.length + 2) ∧ cs = [v3]) (w0 := w0) base hw s x t e (.slice none 0 0) bytes ho ht hinfo rfl (by show 0 < 1; decide) hb0 v xs.zipIdx [(x1, xs.length), (x2, xs.length + 1), (x3, xs.length + 2)] (some ad) 3 3 ok (fun k => some k = v1.ownBlock ∨ some k = v2.ownBlock ∨ some k = v3.ownBlock) hs hx HR ?hRR ?hKM ?hokp hfresh HB hbase (by rw [List.length_zipIdx]; exact hl) ?hh
  · rwa [if_pos hw] at hstep
  case hRR =>
    refine ⟨rfl, by decide, fun _ => ⟨ad, rfl, fun j p hp => ?_⟩⟩
    match j, hp with
    | 0, hp => exact ⟨[v1], rfl, .inl ⟨(Option.some.inj hp).symm, rfl⟩, fun i u hu => by match i, hu with | 0, hu => exact (Option.some.inj hu) ▸ c1⟩
    | 1, hp => exact ⟨[v2], rfl, .inr (.inl ⟨(Option.some.inj hp).symm, rfl⟩), fun i u hu => by match i, hu with | 0, hu => exact (Option.some.inj hu) ▸ c2⟩
    | 2, hp => exact ⟨[v3], rfl, .inr (.inr ⟨(Option.some.inj hp).symm, rfl⟩), fun i u hu => by match i, hu with | 0, hu => exact (Option.some.inj hu) ▸ c3⟩
  case hKM =>
    rintro p cs (⟨rfl, rfl⟩ | ⟨rfl, rfl⟩ | ⟨rfl, rfl⟩)
    · exact ⟨v1, rfl, Kd.R_mono (Kd.R_tight rfl R1) (fun k hk => ⟨.inl hk, e1 k hk⟩)⟩
    · exact ⟨v2, rfl, Kd.R_mono (Kd.R_tight rfl R2) (fun k hk => ⟨.inr (.inl hk), e2 k hk⟩)⟩
    · exact ⟨v3, rfl, Kd.R_mono (Kd.R_tight rfl R3) (fun k hk => ⟨.inr (.inr hk), e3 k hk⟩)⟩
  case hokp =>
    have hv : ∀ k, v.ownBlock = some k → ok k ∧ some k ≠ v1.ownBlock ∧ some k ≠ v2.ownBlock ∧ some k ≠ v3.ownBlock := fun k hk => hok0 k hk
    rintro k (hk | hk | hk)
    · exact ⟨R1.1 k hk.symm, fun e => (hv k e.symm).2.1 hk⟩
    · exact ⟨R2.1 k hk.symm, fun e => (hv k e.symm).2.2.1 hk⟩
    · exact ⟨R3.1 k hk.symm, fun e => (hv k e.symm).2.2.2 hk⟩
  case hh =>
    intro v' w' hR' hB' hG' _
    refine h v' w' ⟨f', ?_⟩ hB' hG'
    have ez : (xs ++ [x1, x2, x3]).zipIdx = xs.zipIdx ++ [(x1, xs.length), (x2, xs.length + 1), (x3, xs.length + 2)] := by
      rw [List.zipIdx_append]; simp [List.zipIdx]
    rw [ez]
    exact hR'
def impl_CoinWords.f (k : Nat) (coins kk : Int) : Option (List (List Int) × Bool) := if kk < 2 ∨ 5 < kk ∨ coins < 3 then some ([], false) else (impl_CoinsFor.f k kk).bind fun cf => if cf < coins ∨ coins % 3 ≠ 0 then some ([], false) else (impl_LimitOf.f k kk).bind fun L => if 0 ≤ L ∧ L ≤ 1000000 then (impl_CoinWords.loop k coins kk (2 * L + 1).toNat (-L) []).bind fun l => some (l, true) else none
theorem impl_CoinWords.mono : ∀ coins kk k, LeO (impl_CoinWords.f k coins kk) (impl_CoinWords.f (k + 1) coins kk) := fun coins kk k => LeO.ite (LeO.refl _) (LeO.bind (impl_CoinsFor.mono kk k) (fun cf => LeO.ite (LeO.refl _) (LeO.bind (impl_LimitOf.mono kk k) (fun L => LeO.ite (LeO.bind (impl_CoinWords.loop_mono k coins kk _ _ _) (fun l => LeO.refl _)) (LeO.refl _)))))
set_option maxHeartbeats 8000000 in
set_option maxRecDepth 100000 in
theorem impl_CoinWords.calls (k : Nat) (a0 : Int) (a1 : Int) (r1 : List (List Int)) (r2 : Bool) (w : World) (h : impl_CoinWords.f k a0 a1 = some (r1, r2)) :
    Calls Try.prog 54 #[.int .i64 a0, .int .i64 a1] w fun e w' => ∃ v0_ : Value, e = .returned (.tuple #[v0_, .bool r2]) ∧ Kd.S (Kd.slice 3 (Kd.int .i64)) 22 w' w.heap.size (fun _ => True) v0_ r1 ∧ Below w.heap.size w w' := by
  unfold impl_CoinWords.f at h
  by_cases c0 : a1 < 2 ∨ 5 < a1 ∨ a0 < 3
  · rw [if_pos c0] at h
    obtain ⟨rfl, rfl⟩ := Prod.mk.inj (Option.some.inj h)
    by_cases k1 : a1 < 2
    · have b1 : decide (a1 < 2) = true := decide_eq_true k1
      clear c0 k1
      go_enter Try.func54, Try.ntmps54
      go_wp2
      go_ret2
      exact ⟨_, rfl, Kd.S_nil _ _ _ _ _, by repeat (first | (with_reducible first | exact Below.refl _ _ | apply below_alloc | apply pw_below_drewN | apply below_drew1) | exact Below.refl _ _)⟩
    · have b1 : decide (a1 < 2) = false := decide_eq_false k1
      by_cases k2 : 5 < a1
      · have b2 : decide (5 < a1) = true := decide_eq_true k2
        clear c0 k1 k2
        go_enter Try.func54, Try.ntmps54
        go_wp2
        go_ret2
        exact ⟨_, rfl, Kd.S_nil _ _ _ _ _, by repeat (first | (with_reducible first | exact Below.refl _ _ | apply below_alloc | apply pw_below_drewN | apply below_drew1) | exact Below.refl _ _)⟩
      · have b2 : decide (5 < a1) = false := decide_eq_false k2
        have k3 : a0 < 3 := by omega
        have b3 : decide (a0 < 3) = true := decide_eq_true k3
        clear c0 k1 k2 k3
        go_enter Try.func54, Try.ntmps54
        go_wp2
        go_ret2
        exact ⟨_, rfl, Kd.S_nil _ _ _ _ _, by repeat (first | (with_reducible first | exact Below.refl _ _ | apply below_alloc | apply pw_below_drewN | apply below_drew1) | exact Below.refl _ _)⟩
  · rw [if_neg c0] at h
    have b1 : decide (a1 < 2) = false := decide_eq_false (by omega)
    have b2 : decide (5 < a1) = false := decide_eq_false (by omega)
    have b3 : decide (a0 < 3) = false := decide_eq_false (by omega)
    obtain ⟨cf, hcf, h1⟩ := Option.bind_eq_some_iff.1 h
    clear h
    by_cases c1 : cf < a0 ∨ a0 % 3 ≠ 0
    · rw [if_pos c1] at h1
      obtain ⟨rfl, rfl⟩ := Prod.mk.inj (Option.some.inj h1)
      have ha0 : 3 ≤ a0 := by omega
      by_cases k4 : cf < a0
      · have b4 : decide (cf < a0) = true := decide_eq_true k4
        clear c0 c1 k4 h1
        go_enter Try.func54, Try.ntmps54
        go_wp2_with (go_at_call 39; with_reducible refine (impl_CoinsFor.calls k a1 cf _ hcf).mono ?_; rintro e w1 ⟨rfl, ⟨nd, rfl⟩⟩)
        go_ret2
        exact ⟨_, rfl, Kd.S_nil _ _ _ _ _, by repeat (first | (with_reducible first | exact Below.refl _ _ | apply below_alloc | apply pw_below_drewN | apply below_drew1) | exact Below.refl _ _)⟩
      · have b4 : decide (cf < a0) = false := decide_eq_false k4
        have k5 : a0 % 3 ≠ 0 := by omega
        have b5 : (a0 % 3 != 0) = true := bne_iff_ne.mpr k5
        clear c0 c1 k4 k5 h1
        go_enter Try.func54, Try.ntmps54
        go_wp2_with (go_at_call 39; with_reducible refine (impl_CoinsFor.calls k a1 cf _ hcf).mono ?_; rintro e w1 ⟨rfl, ⟨nd, rfl⟩⟩)
        go_ret2
        exact ⟨_, rfl, Kd.S_nil _ _ _ _ _, by repeat (first | (with_reducible first | exact Below.refl _ _ | apply below_alloc | apply pw_below_drewN | apply below_drew1) | exact Below.refl _ _)⟩
    · rw [if_neg c1] at h1
      have b4 : decide (cf < a0) = false := decide_eq_false (by omega)
      have b5 : (a0 % 3 != 0) = false := bne_eq_false_iff_eq.mpr (by omega)
      obtain ⟨L, hL, h⟩ := Option.bind_eq_some_iff.1 h1
      clear h1
      by_cases hLb : 0 ≤ L ∧ L ≤ 1000000
      · rw [if_pos hLb] at h
        obtain ⟨l, hlp, h1⟩ := Option.bind_eq_some_iff.1 h
        clear h
        obtain ⟨rfl, rfl⟩ := Prod.mk.inj (Option.some.inj h1)
        clear h1
        have ha0 : 3 ≤ a0 := by omega
        replace hlp := Aside0.mk hlp
        clear c0 c1
        go_enter Try.func54, Try.ntmps54
        go_wp2_with (first | (go_at_call 39; with_reducible refine (impl_CoinsFor.calls k a1 cf _ hcf).mono ?_; rintro e w1 ⟨rfl, ⟨nd, rfl⟩⟩) | (go_at_call 37; with_reducible refine (impl_LimitOf.calls k a1 L _ hL).mono ?_; rintro e w1 ⟨rfl, ⟨nd2, rfl⟩⟩))
        go_loopg [6, 7] (2 * L + 1).toNat (fun gg s6 s7 wr => ∃ (c : Nat) (n : Int) (out : List (List Int)), c ≤ gg ∧ n + c = L + 1 ∧ -L ≤ n ∧ s7 = .int .i64 n ∧ Aside0 (impl_CoinWords.loop k a0 a1 c n out = some l) ∧ Aside0 (Kd.S (Kd.slice 3 (Kd.int .i64)) 22 wr w.heap.size (fun k_ => w.heap.size ≤ k_) s6 out) ∧ Aside0 (Below w.heap.size w wr))
        case atStart => exact ⟨(2 * L + 1).toNat, -L, [], Nat.le_refl _, by omega, by omega, by first | rfl | go_num, hlp, ⟨impl_CoinWords.empty _ _ _ _ _ _ (by first | exact heap_alloc_new _ _ | (simp; done) | (have h_ := heap_alloc_new (w.drewN nd) (Obj.cells #[] 22); simpa using h_)) (by simp) (by simp)⟩, ⟨by repeat (first | (with_reducible first | exact Below.refl _ _ | apply below_alloc | apply pw_below_drewN | apply below_drew1) | exact Below.refl _ _)⟩⟩
        case round =>
          clear hlp
          obtain ⟨c, n, out, hcg, hnc, hn0, rfl, hlp, HS, HB⟩ := hrel
          obtain ⟨Ao, co, eo⟩ := Kd.S_slice HS.out
          subst eo
          cases c with
          | zero =>
            obtain rfl := Option.some.inj hlp.out
            have hnl : decide (n ≤ L) = false := decide_eq_false (by omega)
            go_wp2_with (go_at_call 37; with_reducible refine (impl_LimitOf.calls k a1 L _ hL).mono ?_; rintro e w9 ⟨rfl, ⟨nd9, rfl⟩⟩)
            go_ret2
            exact ⟨_, rfl, (by with_reducible repeat (first | exact Kd.S_mono HS.out (fun _ _ => trivial) | apply Kd.S_alloc | apply Kd.S_drewN | apply Kd.S_drew)), by repeat (first | (with_reducible first | exact HB.out | apply below_alloc | apply pw_below_drewN | apply below_drew1) | exact HB.out)⟩
          | succ c =>
            have hlp' := hlp.out
            simp only [impl_CoinWords.loop] at hlp'
            clear hlp
            have hnl : decide (n ≤ L) = true := decide_eq_true (by omega)
            by_cases hoc : (out.length : Int) < a0
            · rw [if_pos hoc] at hlp'
              have hob : decide ((out.length : Int) < a0) = true := decide_eq_true hoc
              by_cases hol : out.length ≤ 1000000
              · rw [if_pos hol] at hlp'
                obtain ⟨⟨wd, fl⟩, hwd, hi2⟩ := Option.bind_eq_some_iff.1 hlp'
                obtain ⟨tt, htt, hi3⟩ := Option.bind_eq_some_iff.1 hi2
                dsimp only at htt hi3
                clear hlp' hi2
                cases gk with
                | zero => exact absurd hcg (by omega)
                | succ g1 =>
                cases tt with
                | false =>
                  have hi4 := Aside0.mk (show impl_CoinWords.loop k a0 a1 c (n + 1) out = some l by simpa using hi3)
                  clear hi3
                  go_wp2_with (first | (go_at_call 37; with_reducible refine (impl_LimitOf.calls k a1 L _ hL).mono ?_; rintro e w9 ⟨rfl, ⟨nd9, rfl⟩⟩) | (go_at_call 72; with_reducible refine (impl_WordOf.calls k n a1 wd fl _ hwd).mono ?_; rintro e w1 ⟨vw, rfl, HV, hb1⟩; obtain ⟨Av, cv, rfl⟩ := Kd.R_slice HV; have HS1 := Aside0.mk (Kd.S_old (by with_reducible repeat (first | exact HS.out | apply Kd.S_alloc | apply Kd.S_drewN | apply Kd.S_drew)) hb1); have HB1 := Aside0.mk (below_step (by repeat (first | (with_reducible first | exact HB.out | apply below_alloc | apply pw_below_drewN | apply below_drew1) | exact HB.out)) hb1); have hb1s := hb1.size; have hbw := (show w.heap.size ≤ _ from below_size (by repeat (first | (with_reducible first | exact HB.out | apply below_alloc | apply pw_below_drewN | apply below_drew1) | exact HB.out))); have HVb := Kd.R_base HV; have HV1 := Aside0.mk HV; clear HV hb1) | (go_at_call 34; with_reducible refine (impl_TurnsForward.calls k Av cv wd false _ (Kd.C_alloc (Kd.R_reads' HV1.out).2.2 _) (Kd.R_reads' HV1.out).2.1 htt).mono ?_; rintro e w2 ⟨rfl, ⟨nd2_, rfl⟩⟩))
                  go_roundg g1
                  case measure => omega
                  case rel => exact ⟨c, n + 1, out, by omega, by omega, by omega, by first | rfl | go_num, hi4, ⟨(by with_reducible repeat (first | exact Kd.S_mono HS1.out (fun _ hk_ => hk_.1) | apply Kd.S_alloc | apply Kd.S_drewN | apply Kd.S_drew))⟩, ⟨by repeat (first | (with_reducible first | exact HB1.out | apply below_alloc | apply pw_below_drewN | apply below_drew1) | exact HB1.out)⟩⟩
                | true =>
                  rw [if_pos rfl] at hi3
                  obtain ⟨b, hhas, hi2⟩ := Option.bind_eq_some_iff.1 hi3
                  clear hi3
                  cases b with
                  | true =>
                    have hi4 := Aside0.mk (show impl_CoinWords.loop k a0 a1 c (n + 1) out = some l by simpa using hi2)
                    clear hi2
                    go_wp2_with (first | (go_at_call 37; with_reducible refine (impl_LimitOf.calls k a1 L _ hL).mono ?_; rintro e w9 ⟨rfl, ⟨nd9, rfl⟩⟩) | (go_at_call 72; with_reducible refine (impl_WordOf.calls k n a1 wd fl _ hwd).mono ?_; rintro e w1 ⟨vw, rfl, HV, hb1⟩; obtain ⟨Av, cv, rfl⟩ := Kd.R_slice HV; have HS1 := Aside0.mk (Kd.S_old (by with_reducible repeat (first | exact HS.out | apply Kd.S_alloc | apply Kd.S_drewN | apply Kd.S_drew)) hb1); have HB1 := Aside0.mk (below_step (by repeat (first | (with_reducible first | exact HB.out | apply below_alloc | apply pw_below_drewN | apply below_drew1) | exact HB.out)) hb1); have hb1s := hb1.size; have hbw := (show w.heap.size ≤ _ from below_size (by repeat (first | (with_reducible first | exact HB.out | apply below_alloc | apply pw_below_drewN | apply below_drew1) | exact HB.out))); have HVb := Kd.R_base HV; have HV1 := Aside0.mk HV; clear HV hb1) | (go_at_call 34; with_reducible refine (impl_TurnsForward.calls k Av cv wd true _ (Kd.C_alloc (Kd.R_reads' HV1.out).2.2 _) (Kd.R_reads' HV1.out).2.1 htt).mono ?_; rintro e w2 ⟨rfl, ⟨nd2_, rfl⟩⟩) | (go_at_call 90; with_reducible refine (impl_CoinWords.hasCall k out wd _ Ao Av co cv w1.heap.size _ (by first | omega | (simp; done) | (simp; omega)) (by first | (go_simp; done) | (simp; done)) (by with_reducible repeat (first | exact (Kd.S_reads' HS1.out).2.2 | refine Kd.C_alloc ?_ _ | refine Kd.C_drewN ?_ _ | refine Kd.C_drew ?_)) (by with_reducible repeat (first | exact (Kd.R_reads' HV1.out).2.2 | refine Kd.C_alloc ?_ _ | refine Kd.C_drewN ?_ _ | refine Kd.C_drew ?_)) (Kd.R_reads' HV1.out).2.1 hhas).mono ?_; rintro e w3 ⟨rfl, hb3⟩; have HS3 := Aside0.mk (Kd.S_below (by with_reducible repeat (first | exact HS1.out | apply Kd.S_alloc | apply Kd.S_drewN | apply Kd.S_drew)) hb3); have HV3 := Aside0.mk (Kd.R_below (by with_reducible repeat (first | exact HV1.out | apply Kd.R_alloc | apply Kd.R_drewN | apply Kd.R_drew)) hb3); have HB3 := Aside0.mk (below_step (by repeat (first | (with_reducible first | exact HB1.out | apply below_alloc | apply pw_below_drewN | apply below_drew1) | exact HB1.out)) hb3); have m3 : w3.cell? ⟨w1.heap.size, 0, none⟩ = some (.slice Av wd.length cv) := (hb3.cell (p := ⟨w1.heap.size, 0, none⟩) (by first | omega | (simp; done) | (simp; omega))).trans (by first | (go_simp; done) | (simp; done)); have h3s := hb3.size; clear hb3))
                    go_roundg g1
                    case measure => omega
                    case rel => exact ⟨c, n + 1, out, by omega, by omega, by omega, by first | rfl | go_num, hi4, ⟨(by with_reducible repeat (first | exact Kd.S_mono HS3.out (fun _ hk_ => hk_.1) | apply Kd.S_alloc | apply Kd.S_drewN | apply Kd.S_drew))⟩, ⟨by repeat (first | (with_reducible first | exact HB3.out | apply below_alloc | apply pw_below_drewN | apply below_drew1) | exact HB3.out)⟩⟩
                  | false =>
                    rw [if_neg (by simp)] at hi2
                    obtain ⟨t1, ht1, hi3⟩ := Option.bind_eq_some_iff.1 hi2
                    obtain ⟨t2, ht2, hi5⟩ := Option.bind_eq_some_iff.1 hi3
                    have hi4 := Aside0.mk hi5
                    clear hi2 hi3 hi5
                    go_wp2_with (first | (go_at_call 37; with_reducible refine (impl_LimitOf.calls k a1 L _ hL).mono ?_; rintro e w9 ⟨rfl, ⟨nd9, rfl⟩⟩) | (go_at_call 72; with_reducible refine (impl_WordOf.calls k n a1 wd fl _ hwd).mono ?_; rintro e w1 ⟨vw, rfl, HV, hb1⟩; obtain ⟨Av, cv, rfl⟩ := Kd.R_slice HV; have HS1 := Aside0.mk (Kd.S_old (by with_reducible repeat (first | exact HS.out | apply Kd.S_alloc | apply Kd.S_drewN | apply Kd.S_drew)) hb1); have HB1 := Aside0.mk (below_step (by repeat (first | (with_reducible first | exact HB.out | apply below_alloc | apply pw_below_drewN | apply below_drew1) | exact HB.out)) hb1); have hb1s := hb1.size; have hbw := (show w.heap.size ≤ _ from below_size (by repeat (first | (with_reducible first | exact HB.out | apply below_alloc | apply pw_below_drewN | apply below_drew1) | exact HB.out))); have HVb := Kd.R_base HV; have HV1 := Aside0.mk HV; clear HV hb1) | (go_at_call 34; with_reducible refine (impl_TurnsForward.calls k Av cv wd true _ (Kd.C_alloc (Kd.R_reads' HV1.out).2.2 _) (Kd.R_reads' HV1.out).2.1 htt).mono ?_; rintro e w2 ⟨rfl, ⟨nd2_, rfl⟩⟩) | (go_at_call 90; with_reducible refine (impl_CoinWords.hasCall k out wd _ Ao Av co cv w1.heap.size _ (by first | omega | (simp; done) | (simp; omega)) (by first | (go_simp; done) | (simp; done)) (by with_reducible repeat (first | exact (Kd.S_reads' HS1.out).2.2 | refine Kd.C_alloc ?_ _ | refine Kd.C_drewN ?_ _ | refine Kd.C_drew ?_)) (by with_reducible repeat (first | exact (Kd.R_reads' HV1.out).2.2 | refine Kd.C_alloc ?_ _ | refine Kd.C_drewN ?_ _ | refine Kd.C_drew ?_)) (Kd.R_reads' HV1.out).2.1 hhas).mono ?_; rintro e w3 ⟨rfl, hb3⟩; have HS3 := Aside0.mk (Kd.S_below (by with_reducible repeat (first | exact HS1.out | apply Kd.S_alloc | apply Kd.S_drewN | apply Kd.S_drew)) hb3); have HV3 := Aside0.mk (Kd.R_below (by with_reducible repeat (first | exact HV1.out | apply Kd.R_alloc | apply Kd.R_drewN | apply Kd.R_drew)) hb3); have HB3 := Aside0.mk (below_step (by repeat (first | (with_reducible first | exact HB1.out | apply below_alloc | apply pw_below_drewN | apply below_drew1) | exact HB1.out)) hb3); have m3 : w3.cell? ⟨w1.heap.size, 0, none⟩ = some (.slice Av wd.length cv) := (hb3.cell (p := ⟨w1.heap.size, 0, none⟩) (by first | omega | (simp; done) | (simp; omega))).trans (by first | (go_simp; done) | (simp; done)); have h3s := hb3.size; clear hb3))
                    have z1 : w1.heap.size + 1 ≤ w3.heap.size := by simp at h3s; omega
                    have yv : ∀ k_, (Value.slice Av wd.length cv).ownBlock = some k_ → k_ < w1.heap.size := Kd.R_lt HV1.out
                    have hbv := hbw
                    go_region_held3 (fun w' => w'.cell? ⟨w1.heap.size, 0, none⟩ = some (.slice Av wd.length cv)) (first | assumption | go_keep) (first | (go_at_call 92; with_reducible refine (impl_turned.calls k Av cv wd t1 _ (by with_reducible repeat (first | exact (Kd.R_reads' HV3.out).2.2 | refine Kd.C_alloc ?_ _ | refine Kd.C_drewN ?_ _ | refine Kd.C_drew ?_)) (Kd.R_reads' HV3.out).2.1 ht1).mono ?_; rintro e w4 ⟨v4, rfl, HN, hb⟩; obtain ⟨A4, c4, rfl⟩ := Kd.R_slice HN; have z4 : w3.heap.size ≤ w4.heap.size := (by have h_ := hb.size; simpa using h_); have y4 : ∀ k_, (Value.slice A4 t1.length c4).ownBlock = some k_ → w3.heap.size ≤ k_ ∧ k_ < w4.heap.size := (fun k_ hk_ => ⟨by have h_ := Kd.R_base HN k_ hk_; simpa using h_, Kd.R_lt HN k_ hk_⟩); have N44 := Aside0.mk (Kd.R_reok (ok := fun k_ => w.heap.size ≤ k_) rfl (Kd.R_lower (base' := w.heap.size) HN (by have h_ := HB3.out.size; simpa using h_)) (fun k_ hk_ => Nat.le_trans HB3.out.size (y4 k_ hk_).1)); have HS4 := Aside0.mk (Kd.S_below (by with_reducible repeat (first | exact HS3.out | apply Kd.S_alloc | apply Kd.S_drewN | apply Kd.S_drew)) hb); have HB4 := Aside0.mk (below_step (by repeat (first | (with_reducible first | exact HB3.out | apply below_alloc | apply pw_below_drewN | apply below_drew1) | exact HB3.out)) hb); have m4 : w4.cell? ⟨w1.heap.size, 0, none⟩ = some (.slice Av wd.length cv) := (hb.cell (p := ⟨w1.heap.size, 0, none⟩) (by first | omega | (simp; done) | (simp; omega))).trans (by first | exact m3 | (go_simp; done) | (simp; exact m3)); have HV4 := Aside0.mk (Kd.R_below (by with_reducible repeat (first | exact HV3.out | apply Kd.R_alloc | apply Kd.R_drewN | apply Kd.R_drew)) hb); clear HN hb HS3 HB3 m3 HV3) | (go_at_call 92; with_reducible refine (impl_turned.calls k Av cv wd t1 _ (by with_reducible repeat (first | exact (Kd.R_reads' HV4.out).2.2 | refine Kd.C_alloc ?_ _ | refine Kd.C_drewN ?_ _ | refine Kd.C_drew ?_)) (Kd.R_reads' HV4.out).2.1 ht1).mono ?_; rintro e w5 ⟨v5, rfl, HN, hb⟩; obtain ⟨A5, c5, rfl⟩ := Kd.R_slice HN; have z5 : w4.heap.size ≤ w5.heap.size := (by have h_ := hb.size; simpa using h_); have y5 : ∀ k_, (Value.slice A5 t1.length c5).ownBlock = some k_ → w4.heap.size ≤ k_ ∧ k_ < w5.heap.size := (fun k_ hk_ => ⟨by have h_ := Kd.R_base HN k_ hk_; simpa using h_, Kd.R_lt HN k_ hk_⟩); have N55 := Aside0.mk (Kd.R_reok (ok := fun k_ => w.heap.size ≤ k_) rfl (Kd.R_lower (base' := w.heap.size) HN (by have h_ := HB4.out.size; simpa using h_)) (fun k_ hk_ => Nat.le_trans HB4.out.size (y5 k_ hk_).1)); have HS5 := Aside0.mk (Kd.S_below (by with_reducible repeat (first | exact HS4.out | apply Kd.S_alloc | apply Kd.S_drewN | apply Kd.S_drew)) hb); have HB5 := Aside0.mk (below_step (by repeat (first | (with_reducible first | exact HB4.out | apply below_alloc | apply pw_below_drewN | apply below_drew1) | exact HB4.out)) hb); have m5 : w5.cell? ⟨w1.heap.size, 0, none⟩ = some (.slice Av wd.length cv) := (hb.cell (p := ⟨w1.heap.size, 0, none⟩) (by first | omega | (simp; done) | (simp; omega))).trans (by first | exact m4 | (go_simp; done) | (simp; exact m4)); have HV5 := Aside0.mk (Kd.R_below (by with_reducible repeat (first | exact HV4.out | apply Kd.R_alloc | apply Kd.R_drewN | apply Kd.R_drew)) hb); have N45 := Aside0.mk (Kd.R_below (by with_reducible repeat (first | exact N44.out | apply Kd.R_alloc | apply Kd.R_drewN | apply Kd.R_drew)) hb); clear HN hb HS4 HB4 m4 HV4 N44) | (go_at_call 92; with_reducible refine (impl_turned.calls k A5 c5 t1 t2 _ (by with_reducible repeat (first | exact (Kd.R_reads' N55.out).2.2 | refine Kd.C_alloc ?_ _ | refine Kd.C_drewN ?_ _ | refine Kd.C_drew ?_)) (Kd.R_reads' N55.out).2.1 ht2).mono ?_; rintro e w6 ⟨v6, rfl, HN, hb⟩; obtain ⟨A6, c6, rfl⟩ := Kd.R_slice HN; have z6 : w5.heap.size ≤ w6.heap.size := (by have h_ := hb.size; simpa using h_); have y6 : ∀ k_, (Value.slice A6 t2.length c6).ownBlock = some k_ → w5.heap.size ≤ k_ ∧ k_ < w6.heap.size := (fun k_ hk_ => ⟨by have h_ := Kd.R_base HN k_ hk_; simpa using h_, Kd.R_lt HN k_ hk_⟩); have N66 := Aside0.mk (Kd.R_reok (ok := fun k_ => w.heap.size ≤ k_) rfl (Kd.R_lower (base' := w.heap.size) HN (by have h_ := HB5.out.size; simpa using h_)) (fun k_ hk_ => Nat.le_trans HB5.out.size (y6 k_ hk_).1)); have HS6 := Aside0.mk (Kd.S_below (by with_reducible repeat (first | exact HS5.out | apply Kd.S_alloc | apply Kd.S_drewN | apply Kd.S_drew)) hb); have HB6 := Aside0.mk (below_step (by repeat (first | (with_reducible first | exact HB5.out | apply below_alloc | apply pw_below_drewN | apply below_drew1) | exact HB5.out)) hb); have m6 : w6.cell? ⟨w1.heap.size, 0, none⟩ = some (.slice Av wd.length cv) := (hb.cell (p := ⟨w1.heap.size, 0, none⟩) (by first | omega | (simp; done) | (simp; omega))).trans (by first | exact m5 | (go_simp; done) | (simp; exact m5)); have N56 := Aside0.mk (Kd.R_below (by with_reducible repeat (first | exact N55.out | apply Kd.R_alloc | apply Kd.R_drewN | apply Kd.R_drew)) hb); have HV6 := Aside0.mk (Kd.R_below (by with_reducible repeat (first | exact HV5.out | apply Kd.R_alloc | apply Kd.R_drewN | apply Kd.R_drew)) hb); have N46 := Aside0.mk (Kd.R_below (by with_reducible repeat (first | exact N45.out | apply Kd.R_alloc | apply Kd.R_drewN | apply Kd.R_drew)) hb); clear HN hb HS5 HB5 m5 N55 HV5 N45) | (have HO6 : Kd.S (Kd.slice 3 (Kd.int .i64)) 22 w6 w.heap.size (fun k_ => w.heap.size ≤ k_ ∧ some k_ ≠ (.slice Av wd.length cv : Value).ownBlock ∧ some k_ ≠ (.slice A4 t1.length c4 : Value).ownBlock ∧ some k_ ≠ (.slice A6 t2.length c6 : Value).ownBlock) (.slice Ao out.length co) out := Kd.S_mono HS6.out (fun k_ hk_ => ⟨hk_.1, fun e_ => Nat.not_lt.2 (HVb k_ e_.symm) hk_.2, fun e_ => (by have h1_ := (y4 k_ e_.symm).1; have h2_ := hk_.2; omega), fun e_ => (by have h1_ := (y6 k_ e_.symm).1; have h2_ := hk_.2; omega)⟩); have HW6 : Kd.R (Kd.int .i64) 3 w6 w.heap.size (fun k_ => w.heap.size ≤ k_) (.slice Av wd.length cv : Value) wd := Kd.R_reok rfl (Kd.R_lower HV6.out hbw) (fun k_ e_ => Nat.le_trans hbw (HVb k_ e_)); have hne6 : some w1.heap.size ≠ (Value.slice Ao out.length co).ownBlock := (fun e_ => (by have h1_ := ((Kd.S_R HS6.out).1 _ e_.symm).2; omega)); refine impl_CoinWords.append3 (w0 := w) w.heap.size (by rfl) (.tmp 61) (.tmp 68) 34 22 3 24 rfl Try.underlying34 info22 (by omega) (.slice Ao out.length co) out wd t1 t2 (.slice Av wd.length cv : Value) (.slice A4 t1.length c4 : Value) (.slice A6 t2.length c6 : Value) (fun k_ => w.heap.size ≤ k_) ⟨w6.heap.size, 0, none⟩ (by rfl) (by rfl) ?sO ?s1 ?s2 ?s3 ?d12 ?d13 ?d23 ?c1 ?c2 ?c3 ?sF ?sB ?sS ?sL ?_; (case sO => exact (by with_reducible repeat (first | exact HO6 | apply Kd.S_alloc | apply Kd.S_drewN | apply Kd.S_drew))); (case s1 => exact (by with_reducible repeat (first | exact HW6 | apply Kd.R_alloc | apply Kd.R_drewN | apply Kd.R_drew))); (case s2 => exact (by with_reducible repeat (first | exact N46.out | apply Kd.R_alloc | apply Kd.R_drewN | apply Kd.R_drew))); (case s3 => exact (by with_reducible repeat (first | exact N66.out | apply Kd.R_alloc | apply Kd.R_drewN | apply Kd.R_drew))); (case d12 => exact fun k_ e1_ e2_ => (by have h1_ := yv k_ e1_; have h2_ := (y4 k_ e2_).1; omega)); (case d13 => exact fun k_ e1_ e2_ => (by have h1_ := yv k_ e1_; have h2_ := (y6 k_ e2_).1; omega)); (case d23 => exact fun k_ e1_ e2_ => (by have h1_ := (y4 k_ e1_).2; have h2_ := (y6 k_ e2_).1; omega)); (case c1 => go_simp; done); (case c2 => go_simp; done); (case c3 => go_simp; done); (case sF => exact fun k_ hk_ => Nat.le_trans (below_size (by repeat (first | (with_reducible first | exact HB6.out | apply below_alloc | apply pw_below_drewN | apply below_drew1) | exact HB6.out))) hk_); (case sB => exact (by repeat (first | (with_reducible first | exact HB6.out | apply below_alloc | apply pw_below_drewN | apply below_drew1) | exact HB6.out))); (case sS => exact below_size (by repeat (first | (with_reducible first | exact HB6.out | apply below_alloc | apply pw_below_drewN | apply below_drew1) | exact HB6.out))); (case sL => omega); intro v7 w7 HS7 HB7 hg7; have m7 : w7.cell? ⟨w1.heap.size, 0, none⟩ = some (.slice Av wd.length cv) := (by have hb_ := hg7.block w1.heap.size (by simp; omega) hne6; have h1_ := m6; rw [Below.heap_alloc _ _ _ (by omega)] at hb_; unfold World.cell? at h1_ ⊢; simpa [hb_] using h1_); clear hg7; replace HS7 := Aside0.mk HS7; replace HB7 := Aside0.mk HB7))
                    go_wp2
                    go_roundg g1
                    case measure => omega
                    case rel => exact ⟨c, n + 1, out ++ [wd, t1, t2], by omega, by omega, by omega, by first | rfl | go_num, hi4, HS7, HB7⟩
              · rw [if_neg hol] at hlp'
                exact absurd hlp' (by simp)
            · rw [if_neg hoc] at hlp'
              have hob : decide ((out.length : Int) < a0) = false := decide_eq_false hoc
              obtain rfl := Option.some.inj hlp'
              go_wp2_with (go_at_call 37; with_reducible refine (impl_LimitOf.calls k a1 L _ hL).mono ?_; rintro e w9 ⟨rfl, ⟨nd9, rfl⟩⟩)
              go_ret2
              exact ⟨_, rfl, (by with_reducible repeat (first | exact Kd.S_mono HS.out (fun _ _ => trivial) | apply Kd.S_alloc | apply Kd.S_drewN | apply Kd.S_drew)), by repeat (first | (with_reducible first | exact HB.out | apply below_alloc | apply pw_below_drewN | apply below_drew1) | exact HB.out)⟩
      · rw [if_neg hLb] at h
        exact absurd h (by simp)

/-! ### spec_l1In: function 60 -/
def spec_l1In.f (a0 : Int) (a1 : Int) (a2 : Int) : Option (Bool) := if a0 ≥ a1 then (some (decide (a0 ≤ a2))) else (some false)
set_option maxHeartbeats 8000000 in
set_option maxRecDepth 100000 in
theorem spec_l1In.calls (a0 : Int) (a1 : Int) (a2 : Int) (r : Bool) (w : World) (h : spec_l1In.f a0 a1 a2 = some r) :
    Calls Try.prog 60 #[.int .i64 a0, .int .i64 a1, .int .i64 a2] w fun e w' => e = .returned (.bool r) ∧ Drawn0 w w' := by
  have H : (if a0 ≥ a1 then (some (decide (a0 ≤ a2))) else (some false)) = some r := h
  clear h
  by_cases c4 : a0 ≥ a1
  · rw [if_pos c4] at H
    have c4b0 : decide (a1 ≤ a0) = true := decide_eq_true c4
    clear c4
    obtain rfl := Option.some.inj H
    go_enter Try.func60, Try.ntmps60
    go_wp2
    go_ret
    exact ⟨by first | rfl | (simp; done) | (simp [*]; done), by repeat (first | exact Drawn0.refl _ | apply Drawn0.step)⟩
  · rw [if_neg c4] at H
    have c4b0 : decide (a1 ≤ a0) = false := decide_eq_false c4
    clear c4
    obtain rfl := Option.some.inj H
    go_enter Try.func60, Try.ntmps60
    go_wp2
    go_ret
    exact ⟨by first | rfl | (simp; done) | (simp [*]; done), by repeat (first | exact Drawn0.refl _ | apply Drawn0.step)⟩

/-! ### spec_LimitOf: function 79 -/
def spec_LimitOf.l0 : Nat → Int → Int → Int → Option (Int)
  | 0, _, _, _ => none
  | k + 1, x0, x3, x4 => if x4 < x0 then (spec_LimitOf.l0 k x0 (wrap64 ((wrap64 (3 * x3)) + 1)) (wrap64 (x4 + 1))) else (some x3)
def spec_LimitOf.f (k : Nat) (a0 : Int) : Option (Int) := (spec_l1In.f a0 1 30).bind fun t167 => (if t167 = true then (spec_LimitOf.l0 k a0 0 0) else (some 0))
theorem spec_LimitOf.mono_l : ∀ k, (∀ y0 y1 y2, LeO (spec_LimitOf.l0 k y0 y1 y2) (spec_LimitOf.l0 (k + 1) y0 y1 y2))
  | 0 => fun _ _ _ r h => by simp [spec_LimitOf.l0] at h
  | k + 1 => by
    have ih0 := spec_LimitOf.mono_l k
    · intro y0 y1 y2
      unfold spec_LimitOf.l0
      repeat' first
      | (with_reducible exact ih0 _ _ _)
      | (with_reducible exact LeO.refl _)
      | (with_reducible exact LeO.none _)
      | (with_reducible refine LeO.ite ?_ ?_)
      | (with_reducible refine LeO.bind ?_ (fun _ => ?_))
      | exact ih0 _ _ _
      | exact LeO.none _
      | refine LeO.ite ?_ ?_
      | refine LeO.bind ?_ (fun _ => ?_)
theorem spec_LimitOf.mono : ∀ a0 k, LeO (spec_LimitOf.f k a0) (spec_LimitOf.f (k + 1) a0) := by
  intro a0 k
  have ih0 := spec_LimitOf.mono_l k
  unfold spec_LimitOf.f
  repeat' first
      | (with_reducible exact ih0 _ _ _)
      | (with_reducible exact LeO.refl _)
      | (with_reducible exact LeO.none _)
      | (with_reducible refine LeO.ite ?_ ?_)
      | (with_reducible refine LeO.bind ?_ (fun _ => ?_))
      | exact ih0 _ _ _
      | exact LeO.none _
      | refine LeO.ite ?_ ?_
      | refine LeO.bind ?_ (fun _ => ?_)
set_option maxHeartbeats 8000000 in
set_option maxRecDepth 100000 in
theorem spec_LimitOf.calls (k : Nat) (a0 : Int) (r : Int) (w : World) (h : spec_LimitOf.f k a0 = some r) :
    Calls Try.prog 79 #[.int .i64 a0] w fun e w' => e = .returned (.int .i64 r) ∧ Drawn0 w w' := by
  have H : ((spec_l1In.f a0 1 30).bind fun t167 => (if t167 = true then (spec_LimitOf.l0 k a0 0 0) else (some 0))) = some r := h
  clear h
  replace H := Option.bind_eq_some_iff.mp H
  obtain ⟨t167, A20, H⟩ := H
  replace H : (if t167 = true then (spec_LimitOf.l0 k a0 0 0) else (some 0)) = some r := H
  have A2 := Aside0.mk A20
  clear A20
  by_cases c3 : t167 = true
  · (try subst c3)
    have H1 : (spec_LimitOf.l0 k a0 0 0) = some r := by rw [if_pos rfl] at H; exact H
    clear H
    have H := H1
    clear H1
    have H' := Aside0.mk H
    clear H
    go_enter Try.func79, Try.ntmps79
    go_wp2_with (first | ((with_reducible refine gate_callee (f := 60) rfl ?_); refine goesL_ (some 6) rfl rfl Try.func60 (by kernel_rfl) rfl #[.int .i64 a0, .int .i64 1, .int .i64 30] rfl (by (try simp only [List.map_toArray, List.map_cons, List.map_nil]); first | done | rfl | (simp only [List.length_drop, List.length_take]; rfl)) ?_; (with_reducible refine (spec_l1In.calls a0 1 30 true _ A2.out).mono ?_); rintro e w' ⟨rfl, ⟨nd, rfl⟩⟩; refine ⟨_, rfl, ?_⟩))
    go_loopg [3, 4] k (fun kq v3 v4 w' => ∃ (x3_1 : Int) (x4_1 : Int), v3 = .int .i64 x3_1 ∧ v4 = .int .i64 x4_1 ∧ Aside0 (spec_LimitOf.l0 kq a0 x3_1 x4_1 = some r) ∧ Aside0 (kq ≤ k) ∧ Drawn0 w w')
    case atStart => exact ⟨(0), (0), (by first | rfl | (simp; done) | (simp [*]; done)), (by first | rfl | (simp; done) | (simp [*]; done)), H', ⟨Nat.le_refl _⟩, by repeat (first | exact Drawn0.refl _ | apply Drawn0.step)⟩
    case round =>
      clear H'
      try clear p2
      try clear c3
      obtain ⟨x3_1, x4_1, rfl, rfl, HA, HK1, ⟨m1, rfl⟩⟩ := hrel
      cases gk with
      | zero => exact absurd HA.out (by simp [spec_LimitOf.l0])
      | succ k1 =>
        have H := HA.out
        clear HA
        simp only [spec_LimitOf.l0] at H
        by_cases c4 : x4_1 < a0
        · rw [if_pos c4] at H
          have c4b0 : decide (x4_1 < a0) = true := decide_eq_true c4
          clear c4
          have H' := Aside0.mk H
          clear H
          go_wp2
          go_roundg k1
          case measure => have := HK1.out; omega
          case rel => exact ⟨(wrap64 ((wrap64 (3 * x3_1)) + 1)), (wrap64 (x4_1 + 1)), (by first | rfl | (simp; done) | (simp [*]; done)), (by first | rfl | (simp; done) | (simp [*]; done)), H', ⟨by have := HK1.out; omega⟩, by repeat (first | exact Drawn0.refl _ | apply Drawn0.step)⟩
        · rw [if_neg c4] at H
          have c4b0 : decide (x4_1 < a0) = false := decide_eq_false c4
          clear c4
          obtain rfl := Option.some.inj H
          go_wp2
          go_ret
          exact ⟨by first | rfl | (simp; done) | (simp [*]; done), by repeat (first | exact Drawn0.refl _ | apply Drawn0.step)⟩
  · replace c3 := Bool.eq_false_iff.mpr c3
    (try subst c3)
    have H1 : (some 0) = some r := by rw [if_neg (show ¬ (false = true) by decide)] at H; exact H
    clear H
    have H := H1
    clear H1
    obtain rfl := Option.some.inj H
    go_enter Try.func79, Try.ntmps79
    go_wp2_with (first | ((with_reducible refine gate_callee (f := 60) rfl ?_); refine goesL_ (some 6) rfl rfl Try.func60 (by kernel_rfl) rfl #[.int .i64 a0, .int .i64 1, .int .i64 30] rfl (by (try simp only [List.map_toArray, List.map_cons, List.map_nil]); first | done | rfl | (simp only [List.length_drop, List.length_take]; rfl)) ?_; (with_reducible refine (spec_l1In.calls a0 1 30 false _ A2.out).mono ?_); rintro e w' ⟨rfl, ⟨nd, rfl⟩⟩; refine ⟨_, rfl, ?_⟩))
    go_ret
    exact ⟨by first | rfl | (simp; done) | (simp [*]; done), by repeat (first | exact Drawn0.refl _ | apply Drawn0.step)⟩

/-! ### spec_CoinsFor: function 56 -/
def spec_CoinsFor.f (k : Nat) (a0 : Int) : Option (Int) := (spec_l1In.f a0 2 5).bind fun t168 => (if t168 = true then ((spec_LimitOf.f k a0).bind fun t169 => (some (wrap64 (t169 - 1)))) else (some 0))
theorem spec_CoinsFor.mono : ∀ a0 k, LeO (spec_CoinsFor.f k a0) (spec_CoinsFor.f (k + 1) a0) := by
  intro a0 k
  unfold spec_CoinsFor.f
  repeat' first
      | (with_reducible exact spec_LimitOf.mono _ _)
      | (with_reducible exact LeO.refl _)
      | (with_reducible exact LeO.none _)
      | (with_reducible refine LeO.ite ?_ ?_)
      | (with_reducible refine LeO.bind ?_ (fun _ => ?_))
      | exact spec_LimitOf.mono _ _
      | exact LeO.none _
      | refine LeO.ite ?_ ?_
      | refine LeO.bind ?_ (fun _ => ?_)
set_option maxHeartbeats 8000000 in
set_option maxRecDepth 100000 in
theorem spec_CoinsFor.calls (k : Nat) (a0 : Int) (r : Int) (w : World) (h : spec_CoinsFor.f k a0 = some r) :
    Calls Try.prog 56 #[.int .i64 a0] w fun e w' => e = .returned (.int .i64 r) ∧ Drawn0 w w' := by
  have H : ((spec_l1In.f a0 2 5).bind fun t168 => (if t168 = true then ((spec_LimitOf.f k a0).bind fun t169 => (some (wrap64 (t169 - 1)))) else (some 0))) = some r := h
  clear h
  replace H := Option.bind_eq_some_iff.mp H
  obtain ⟨t168, A20, H⟩ := H
  replace H : (if t168 = true then ((spec_LimitOf.f k a0).bind fun t169 => (some (wrap64 (t169 - 1)))) else (some 0)) = some r := H
  have A2 := Aside0.mk A20
  clear A20
  by_cases c3 : t168 = true
  · (try subst c3)
    have H1 : ((spec_LimitOf.f k a0).bind fun t169 => (some (wrap64 (t169 - 1)))) = some r := by rw [if_pos rfl] at H; exact H
    clear H
    have H := H1
    clear H1
    replace H := Option.bind_eq_some_iff.mp H
    obtain ⟨t169, A40, H⟩ := H
    replace H : (some (wrap64 (t169 - 1))) = some r := H
    have A4 := Aside0.mk A40
    clear A40
    obtain rfl := Option.some.inj H
    go_enter Try.func56, Try.ntmps56
    go_wp2_with (first | ((with_reducible refine gate_callee (f := 60) rfl ?_); refine goesL_ (some 4) rfl rfl Try.func60 (by kernel_rfl) rfl #[.int .i64 a0, .int .i64 2, .int .i64 5] rfl (by (try simp only [List.map_toArray, List.map_cons, List.map_nil]); first | done | rfl | (simp only [List.length_drop, List.length_take]; rfl)) ?_; (with_reducible refine (spec_l1In.calls a0 2 5 true _ A2.out).mono ?_); rintro e w' ⟨rfl, ⟨nd, rfl⟩⟩; refine ⟨_, rfl, ?_⟩) | ((with_reducible refine gate_callee (f := 79) rfl ?_); refine goesL_ (some 7) rfl rfl Try.func79 (by kernel_rfl) rfl #[.int .i64 a0] rfl (by (try simp only [List.map_toArray, List.map_cons, List.map_nil]); first | done | rfl | (simp only [List.length_drop, List.length_take]; rfl)) ?_; (with_reducible refine (spec_LimitOf.calls k a0 t169 _ A4.out).mono ?_); rintro e w' ⟨rfl, ⟨nd, rfl⟩⟩; refine ⟨_, rfl, ?_⟩))
    go_ret
    exact ⟨by first | rfl | (simp; done) | (simp [*]; done), by repeat (first | exact Drawn0.refl _ | apply Drawn0.step)⟩
  · replace c3 := Bool.eq_false_iff.mpr c3
    (try subst c3)
    have H1 : (some 0) = some r := by rw [if_neg (show ¬ (false = true) by decide)] at H; exact H
    clear H
    have H := H1
    clear H1
    obtain rfl := Option.some.inj H
    go_enter Try.func56, Try.ntmps56
    go_wp2_with (first | ((with_reducible refine gate_callee (f := 60) rfl ?_); refine goesL_ (some 4) rfl rfl Try.func60 (by kernel_rfl) rfl #[.int .i64 a0, .int .i64 2, .int .i64 5] rfl (by (try simp only [List.map_toArray, List.map_cons, List.map_nil]); first | done | rfl | (simp only [List.length_drop, List.length_take]; rfl)) ?_; (with_reducible refine (spec_l1In.calls a0 2 5 false _ A2.out).mono ?_); rintro e w' ⟨rfl, ⟨nd, rfl⟩⟩; refine ⟨_, rfl, ?_⟩))
    go_ret
    exact ⟨by first | rfl | (simp; done) | (simp [*]; done), by repeat (first | exact Drawn0.refl _ | apply Drawn0.step)⟩

/-! ### laws_trits: function 57 -/
def laws_trits.f  : Option (List Int) := some (([(-1), 0, 1] : List Int))
set_option maxHeartbeats 8000000 in
set_option maxRecDepth 100000 in
theorem laws_trits.calls  (r : List Int) (w : World) (h : laws_trits.f  = some r) :
    Calls Try.prog 57 #[] w fun e w' => ∃ v0_ : Value, e = .returned (v0_) ∧ Kd.R (Kd.int .i64) 3 w' w.heap.size (fun _ => True) v0_ r ∧ Below w.heap.size w w' := by
  have HB := Aside0.mk (Below.refl w.heap.size w)
  have H : (some (([(-1), 0, 1] : List Int))) = some r := h
  clear h
  obtain ⟨y170, hy170⟩ : ∃ y_ : List Int, y_ = (([(-1), 0, 1] : List Int)) := ⟨_, rfl⟩
  replace H : (some y170) = some r := by first | (rw [hy170]; with_reducible exact H) | (have H2_ := (Option.bind_some _ _).symm.trans H; rw [hy170]; with_reducible exact H2_) | (have H2_ := (Option.bind_some _ _).symm.trans H; with_reducible exact H2_) | with_reducible exact H | (rw [hy170]; exact H) | exact H
  have Ny170 := Aside0.mk hy170
  clear hy170
  obtain rfl := Option.some.inj H
  go_enter Try.func57, Try.ntmps57
  go_wp2_with (first | ((with_reducible refine gate_dst (N := 1) rfl ?_); refine Kd.R_lit (Kd.int .i64) _ 3 ?hg (N := 1) ?hd (xs := ([(-1), 0, 1] : List Int)) (inner := [.int .i64 (-1), .int .i64 0, .int .i64 1]) (ok := fun _ => True) (okp := fun _ => True) ?hr ?hp (fun _ hk => hk) trivial (Below.refl _ _) (Nat.le_refl _) (by simp) ?_; (case hd => rfl); (case hg => rfl); (case hr => first | (go_simp; done) | (go_simp; rfl)); (case hp => exact (Reps.one (show Kd.M (Kd.int .i64) _ _ _ (-1) [.int .i64 (-1)] from rfl) (Reps.one (show Kd.M (Kd.int .i64) _ _ _ 0 [.int .i64 0] from rfl) (Reps.one (show Kd.M (Kd.int .i64) _ _ _ 1 [.int .i64 1] from rfl) (Reps.none _ _))))); intro v171 w1 ho2 hb hg_ hnew_; clear hg_ hnew_; (first | rw [← Ny170.out] at ho2 | (simp only [Int.reduceToNat] at ho2; rw [← Ny170.out] at ho2)); have n0_ := Aside0.mk (Kd.R_lower ho2 (below_size (by repeat (first | (with_reducible first | exact HB.out | apply below_alloc | apply pw_below_drewN | apply below_drew1) | exact HB.out)))); have n1_ := Aside0.mk (below_step (by repeat (first | (with_reducible first | exact HB.out | apply below_alloc | apply pw_below_drewN | apply below_drew1) | exact HB.out)) hb); clear HB; have HO172 := n0_; have HB := n1_; clear n0_ n1_; clear hb ho2))
  go_ret
  exact ⟨_, by first | rfl | (simp [errW_none, errW_some] <;> rfl) | (simp [*, errW_none, errW_some] <;> rfl), by (with_reducible repeat (first | apply Kd.R_alloc | apply Kd.R_drewN | apply Kd.R_drew)); exact HO172.out, by repeat (first | (with_reducible first | exact HB.out | apply below_alloc | apply pw_below_drewN | apply below_drew1) | exact HB.out)⟩

/-! ### laws_ints: function 58 -/
def laws_ints.l0 : Nat → List Int → List Int → Int → Int → Option (Bool)
  | 0, _, _, _, _ => none
  | k + 1, x0, x1, x12, x13 => if x13 < x12 then (if 0 ≤ x13 then (if x13 < (x0.length : Int) then (if x13 < (x1.length : Int) then (if (rd x0 x13) = (rd x1 x13) then (laws_ints.l0 k x0 x1 x12 (wrap64 (x13 + 1))) else (some false)) else (none)) else (none)) else (none)) else (some true)
def laws_ints.f (k : Nat) (l0 : List Int) (l1 : List Int) : Option (Bool) := if (l0.length : Int) = (l1.length : Int) then (laws_ints.l0 k l0 l1 (l0.length : Int) 0) else (some false)
theorem laws_ints.mono_l : ∀ k, (∀ y0 y1 y2 y3, LeO (laws_ints.l0 k y0 y1 y2 y3) (laws_ints.l0 (k + 1) y0 y1 y2 y3))
  | 0 => fun _ _ _ _ r h => by simp [laws_ints.l0] at h
  | k + 1 => by
    have ih0 := laws_ints.mono_l k
    · intro y0 y1 y2 y3
      unfold laws_ints.l0
      repeat' first
      | (with_reducible exact ih0 _ _ _ _)
      | (with_reducible exact LeO.refl _)
      | (with_reducible exact LeO.none _)
      | (with_reducible refine LeO.ite ?_ ?_)
      | (with_reducible refine LeO.bind ?_ (fun _ => ?_))
      | exact ih0 _ _ _ _
      | exact LeO.none _
      | refine LeO.ite ?_ ?_
      | refine LeO.bind ?_ (fun _ => ?_)
theorem laws_ints.mono : ∀ a0 a1 k, LeO (laws_ints.f k a0 a1) (laws_ints.f (k + 1) a0 a1) := by
  intro a0 a1 k
  have ih0 := laws_ints.mono_l k
  unfold laws_ints.f
  repeat' first
      | (with_reducible exact ih0 _ _ _ _)
      | (with_reducible exact LeO.refl _)
      | (with_reducible exact LeO.none _)
      | (with_reducible refine LeO.ite ?_ ?_)
      | (with_reducible refine LeO.bind ?_ (fun _ => ?_))
      | exact ih0 _ _ _ _
      | exact LeO.none _
      | refine LeO.ite ?_ ?_
      | refine LeO.bind ?_ (fun _ => ?_)
set_option maxHeartbeats 8000000 in
set_option maxRecDepth 100000 in
theorem laws_ints.calls (k : Nat) (A0 : Option Addr) (c0 : Nat) (l0 : List Int) (A1 : Option Addr) (c1 : Nat) (l1 : List Int) (r : Bool) (w : World) (hr0 : Kd.C (Kd.int .i64) w A0 l0.length l0) (hc0 : l0.length ≤ c0) (hr1 : Kd.C (Kd.int .i64) w A1 l1.length l1) (hc1 : l1.length ≤ c1) (h : laws_ints.f k l0 l1 = some r) :
    Calls Try.prog 58 #[.slice A0 l0.length c0, .slice A1 l1.length c1] w fun e w' => e = .returned (.bool r) ∧ Drawn0 w w' := by
  have HR0 := Aside0.mk hr0
  have HC0 := Aside0.mk hc0
  clear hr0 hc0
  have HR1 := Aside0.mk hr1
  have HC1 := Aside0.mk hc1
  clear hr1 hc1
  have H : (if (l0.length : Int) = (l1.length : Int) then (laws_ints.l0 k l0 l1 (l0.length : Int) 0) else (some false)) = some r := h
  clear h
  by_cases c3 : (l0.length : Int) = (l1.length : Int)
  · rw [if_pos c3] at H
    have c3b0 : ((l0.length : Int) == (l1.length : Int)) = true := beq_iff_eq.mpr c3
    have c3b1 : ((l0.length : Int) != (l1.length : Int)) = false := bne_eq_false_iff_eq.mpr c3
    have c3b2 : (l0.length == l1.length) = true := by first | simpa using c3 | (simp at c3 ⊢; omega)
    clear c3
    have H' := Aside0.mk H
    clear H
    go_enter Try.func58, Try.ntmps58
    go_wp2
    repeat (go_quiet (fail); try go_wp2)
    go_loopg [13] k (fun kq v13 w' => ∃ (x13_1 : Int), v13 = .int .i64 x13_1 ∧ Aside0 (laws_ints.l0 kq l0 l1 (l0.length : Int) x13_1 = some r) ∧ Aside0 (kq ≤ k) ∧ Drawn0 w w')
    case atStart => exact ⟨(0), (by first | rfl | (simp; done) | (simp [*]; done)), H', ⟨Nat.le_refl _⟩, by repeat (first | exact Drawn0.refl _ | apply Drawn0.step)⟩
    case round =>
      clear H'
      try clear c1
      try clear p2
      try clear c3
      try clear c3b0
      try clear c3b1
      try clear c3b2
      obtain ⟨x13_1, rfl, HA, HK1, ⟨m1, rfl⟩⟩ := hrel
      cases gk with
      | zero => exact absurd HA.out (by simp [laws_ints.l0])
      | succ k1 =>
        have H := HA.out
        clear HA
        simp only [laws_ints.l0] at H
        by_cases c4 : x13_1 < (l0.length : Int)
        · rw [if_pos c4] at H
          have c4b0 : decide (x13_1 < (l0.length : Int)) = true := decide_eq_true c4
          clear c4
          by_cases c5 : 0 ≤ x13_1
          · rw [if_pos c5] at H
            have c5b0 : decide (0 ≤ x13_1) = true := decide_eq_true c5
            clear c5
            by_cases c6 : x13_1 < (l0.length : Int)
            · rw [if_pos c6] at H
              have c6b0 : decide (x13_1 < (l0.length : Int)) = true := decide_eq_true c6
              clear c6
              by_cases c7 : x13_1 < (l1.length : Int)
              · rw [if_pos c7] at H
                have c7b0 : decide (x13_1 < (l1.length : Int)) = true := decide_eq_true c7
                clear c7
                by_cases c8 : (rd l0 x13_1) = (rd l1 x13_1)
                · rw [if_pos c8] at H
                  have c8b0 : ((rd l0 x13_1) == (rd l1 x13_1)) = true := beq_iff_eq.mpr c8
                  have c8b1 : ((rd l0 x13_1) != (rd l1 x13_1)) = false := bne_eq_false_iff_eq.mpr c8
                  clear c8
                  have H' := Aside0.mk H
                  clear H
                  have p173 : 0 ≤ (x13_1 : Int) := of_decide_eq_true (by first | (with_reducible assumption) | assumption)
                  have q173 : x13_1 < (l0.length : Int) := of_decide_eq_true (by first | (with_reducible assumption) | assumption)
                  obtain ⟨ad173, e173, hx173_0⟩ := Kd.at_int HR0.out x13_1 p173 q173
                  cases e173
                  replace p173 := eq_true p173
                  replace q173 := eq_true q173
                  have p174 : 0 ≤ (x13_1 : Int) := of_decide_eq_true (by first | (with_reducible assumption) | assumption)
                  have q174 : x13_1 < (l1.length : Int) := of_decide_eq_true (by first | (with_reducible assumption) | assumption)
                  obtain ⟨ad174, e174, hx174_0⟩ := Kd.at_int HR1.out x13_1 p174 q174
                  cases e174
                  replace p174 := eq_true p174
                  replace q174 := eq_true q174
                  go_wp2
                  repeat (go_quiet (fail); try go_wp2)
                  go_roundg k1
                  case measure => have := HK1.out; omega
                  case rel => exact ⟨(wrap64 (x13_1 + 1)), (by first | rfl | (simp; done) | (simp [*]; done)), H', ⟨by have := HK1.out; omega⟩, by repeat (first | exact Drawn0.refl _ | apply Drawn0.step)⟩
                · rw [if_neg c8] at H
                  have c8b0 : ((rd l0 x13_1) == (rd l1 x13_1)) = false := beq_eq_false_iff_ne.mpr c8
                  have c8b1 : ((rd l0 x13_1) != (rd l1 x13_1)) = true := bne_iff_ne.mpr c8
                  obtain rfl := Option.some.inj H
                  have p173 : 0 ≤ (x13_1 : Int) := of_decide_eq_true (by first | (with_reducible assumption) | assumption)
                  have q173 : x13_1 < (l0.length : Int) := of_decide_eq_true (by first | (with_reducible assumption) | assumption)
                  obtain ⟨ad173, e173, hx173_0⟩ := Kd.at_int HR0.out x13_1 p173 q173
                  cases e173
                  replace p173 := eq_true p173
                  replace q173 := eq_true q173
                  have p174 : 0 ≤ (x13_1 : Int) := of_decide_eq_true (by first | (with_reducible assumption) | assumption)
                  have q174 : x13_1 < (l1.length : Int) := of_decide_eq_true (by first | (with_reducible assumption) | assumption)
                  obtain ⟨ad174, e174, hx174_0⟩ := Kd.at_int HR1.out x13_1 p174 q174
                  cases e174
                  replace p174 := eq_true p174
                  replace q174 := eq_true q174
                  go_wp2
                  repeat (go_quiet (fail); try go_wp2)
                  go_ret
                  exact ⟨by first | rfl | (simp; done) | (simp [*]; done), by repeat (first | exact Drawn0.refl _ | apply Drawn0.step)⟩
              · rw [if_neg c7] at H
                exact absurd H (by simp)
            · rw [if_neg c6] at H
              exact absurd H (by simp)
          · rw [if_neg c5] at H
            exact absurd H (by simp)
        · rw [if_neg c4] at H
          have c4b0 : decide (x13_1 < (l0.length : Int)) = false := decide_eq_false c4
          clear c4
          obtain rfl := Option.some.inj H
          go_wp2
          repeat (go_quiet (fail); try go_wp2)
          go_ret
          exact ⟨by first | rfl | (simp; done) | (simp [*]; done), by repeat (first | exact Drawn0.refl _ | apply Drawn0.step)⟩
  · rw [if_neg c3] at H
    have c3b0 : ((l0.length : Int) == (l1.length : Int)) = false := beq_eq_false_iff_ne.mpr c3
    have c3b1 : ((l0.length : Int) != (l1.length : Int)) = true := bne_iff_ne.mpr c3
    have c3b2 : (l0.length == l1.length) = false := by first | simpa using c3 | (simp at c3 ⊢; omega)
    obtain rfl := Option.some.inj H
    go_enter Try.func58, Try.ntmps58
    go_wp2
    repeat (go_quiet (fail); try go_wp2)
    go_ret
    exact ⟨by first | rfl | (simp; done) | (simp [*]; done), by repeat (first | exact Drawn0.refl _ | apply Drawn0.step)⟩

end Go.Proofs.Ytffohdlbkigehaa.HFnCoins
