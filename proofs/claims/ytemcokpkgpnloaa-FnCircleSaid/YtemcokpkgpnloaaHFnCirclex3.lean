/- Text for FnCircle: written by a program of this session on the pattern of the kit's print. -/
import Derived.Test.YtemcokpkgpnloaaHFnCirclex0
import Derived.Test.YtemcokpkgpnloaaHFnCirclex1
import Derived.Test.YtemcokpkgpnloaaHFnCirclex2
namespace Go.Proofs.Ytemcokpkgpnloaa.HFnCircle
open Go.RowKit Go.Proofs.YtemcokpkgpnloaaW.PrintWords Go.Proofs.YtemcokpkgpnloaaW.PrintLast Go.Proofs.YtemcokpkgpnloaaW.PrintMore
attribute [local go_sem] max2_int min2_int max_two min_two max_three min_three max_four min_four   -- for this text's walks alone
set_option linter.unusedVariables false
set_option linter.unusedSimpArgs false

/-! ### impl_LyndonWords: function 43 -/
def impl_LyndonWords.inner (k : Nat) (size : Int) : Nat → Int → List (List Int) → Option (List (List Int))
  | 0, _, out => some out
  | c + 1, n, out => if out.length ≤ 1000000 then (impl_WordOf.f k n size).bind fun p => (impl_IsLyndon.f k p.1).bind fun t => impl_LyndonWords.inner k size c (n + 1) (if t = true then out ++ [p.1] else out) else none
def impl_LyndonWords.outer (k : Nat) (kk : Int) : Nat → Int → List (List Int) → Option (List (List Int))
  | 0, _, out => some out
  | c + 1, size, out => (impl_LimitOf.f k size).bind fun L => if 0 ≤ L ∧ L ≤ 1000000 then (if kk % size = 0 then impl_LyndonWords.inner k size (2 * L + 1).toNat (-L) out else some out).bind fun o2 => impl_LyndonWords.outer k kk c (size + 1) o2 else none
def impl_LyndonWords.cmpok (k : Nat) (l : List (List Int)) : Prop := ∀ x ∈ [] :: l, ∀ y ∈ [] :: l, slices_Compare_int_int.f k x y = some (Go.Proofs.Ytemcokpkgpnloaa.Base.cmpL x y)
instance (k : Nat) (l : List (List Int)) : Decidable (impl_LyndonWords.cmpok k l) := by unfold impl_LyndonWords.cmpok; infer_instance
theorem impl_LyndonWords.inner_mono (k : Nat) (size : Int) : ∀ c n out, LeO (impl_LyndonWords.inner k size c n out) (impl_LyndonWords.inner (k + 1) size c n out)
  | 0, _, _ => LeO.refl _
  | c + 1, n, out => LeO.ite (LeO.bind (impl_WordOf.mono n size k) (fun p => LeO.bind (impl_IsLyndon.mono p.1 k) (fun t => impl_LyndonWords.inner_mono k size c (n + 1) _))) (LeO.refl _)
theorem impl_LyndonWords.outer_mono (k : Nat) (kk : Int) : ∀ c size out, LeO (impl_LyndonWords.outer k kk c size out) (impl_LyndonWords.outer (k + 1) kk c size out)
  | 0, _, _ => LeO.refl _
  | c + 1, size, out => LeO.bind (impl_LimitOf.mono size k) (fun L => LeO.ite (LeO.bind (LeO.ite (impl_LyndonWords.inner_mono k size _ _ out) (LeO.refl _)) (fun o2 => impl_LyndonWords.outer_mono k kk c (size + 1) o2)) (LeO.refl _))
theorem impl_LyndonWords.empty {α : Type} (d : Kd α) (e g : Nat) (w : World) (base : Nat) (ok : Nat → Prop) (hh : w.heap[g]? = some (.cells #[] e (0, 0))) (hb : base ≤ g) (hk : ok g) : Kd.S d e w base ok (.slice (some ⟨g, 0, none⟩) 0 0) [] :=
  ⟨fun _ => 0, fun k hk2 => by have : g = k := by simpa [Value.ownBlock] using hk2
                               exact this ▸ hk, [], ⟨by simp, .inr ⟨g, 0, #[], rfl, hb, hh, Nat.le_refl _, by decide, by simp, by simp⟩⟩, Reps.none _ _⟩
def impl_LyndonWords.f (k : Nat) (kk : Int) : Option (List (List Int) × Bool) := if kk < 1 ∨ 7 < kk then some ([], false) else (impl_LyndonWords.outer k kk kk.toNat 1 []).bind fun l => if l ≠ [] ∧ l.length ≤ 1000000000 then (if impl_LyndonWords.cmpok k l then some (Go.Proofs.Ytemcokpkgpnloaa.SortR.sortL l, true) else none) else none
theorem impl_LyndonWords.cmpok_mono (k : Nat) (l : List (List Int)) (h : impl_LyndonWords.cmpok k l) : impl_LyndonWords.cmpok (k + 1) l := fun x hx y hy => slices_Compare_int_int.mono x y k _ (h x hx y hy)
theorem impl_LyndonWords.mono : ∀ kk k, LeO (impl_LyndonWords.f k kk) (impl_LyndonWords.f (k + 1) kk) := fun kk k => LeO.ite (LeO.refl _) (LeO.bind (impl_LyndonWords.outer_mono k kk _ _ _) (fun l => LeO.ite (by
  by_cases h : impl_LyndonWords.cmpok k l
  · rw [if_pos h, if_pos (impl_LyndonWords.cmpok_mono k l h)]; exact LeO.refl _
  · rw [if_neg h]; exact LeO.none _) (LeO.refl _)))
set_option maxHeartbeats 8000000 in
set_option maxRecDepth 100000 in
theorem impl_LyndonWords.calls (k : Nat) (a0 : Int) (r1 : List (List Int)) (r2 : Bool) (w : World) (h : impl_LyndonWords.f k a0 = some (r1, r2)) :
    Calls Try.prog 43 #[.int .i64 a0] w fun e w' => ∃ v0_ : Value, e = .returned (.tuple #[v0_, .bool r2]) ∧ Kd.S (Kd.slice 3 (Kd.int .i64)) 22 w' w.heap.size (fun _ => True) v0_ r1 ∧ Below w.heap.size w w' := by
  by_cases c0 : a0 < 1 ∨ 7 < a0
  · unfold impl_LyndonWords.f at h
    rw [if_pos c0] at h
    obtain ⟨rfl, rfl⟩ := Prod.mk.inj (Option.some.inj h)
    by_cases c1 : a0 < 1
    · have c1b : decide (a0 < 1) = true := decide_eq_true c1
      clear c0 c1
      go_enter Try.func43, Try.ntmps43
      go_wp2
      go_ret2
      exact ⟨_, rfl, Kd.S_nil _ _ _ _ _, by repeat (first | (with_reducible first | exact Below.refl _ _ | apply below_alloc | apply pw_below_drewN | apply below_drew1) | exact Below.refl _ _)⟩
    · have c1b : decide (a0 < 1) = false := decide_eq_false c1
      have c2 : 7 < a0 := by omega
      have c2b : decide (7 < a0) = true := decide_eq_true c2
      clear c0 c1 c2
      go_enter Try.func43, Try.ntmps43
      go_wp2
      go_ret2
      exact ⟨_, rfl, Kd.S_nil _ _ _ _ _, by repeat (first | (with_reducible first | exact Below.refl _ _ | apply below_alloc | apply pw_below_drewN | apply below_drew1) | exact Below.refl _ _)⟩
  · unfold impl_LyndonWords.f at h
    rw [if_neg c0] at h
    obtain ⟨l, ho, h⟩ := Option.bind_eq_some_iff.1 h
    by_cases hl : l ≠ [] ∧ l.length ≤ 1000000000
    · rw [if_pos hl] at h
      by_cases hc : impl_LyndonWords.cmpok k l
      · rw [if_pos hc] at h
        obtain ⟨rfl, rfl⟩ := Prod.mk.inj (Option.some.inj h)
        have c1b : decide (a0 < 1) = false := decide_eq_false (by omega)
        have c2b : decide (7 < a0) = false := decide_eq_false (by omega)
        have ha0 : 1 ≤ a0 := by omega
        have ha1 : a0 ≤ 7 := by omega
        replace hc := Aside0.mk hc
        replace ho := Aside0.mk ho
        clear h c0
        go_enter Try.func43, Try.ntmps43
        go_wp2
        go_loopg [4, 5] a0.toNat (fun gg s4 s5 wr => ∃ (c : Nat) (size : Int) (out : List (List Int)), c ≤ gg ∧ size + c = a0 + 1 ∧ 1 ≤ size ∧ s5 = .int .i64 size ∧ Aside0 (impl_LyndonWords.outer k a0 c size out = some l) ∧ Aside0 (Kd.S (Kd.slice 3 (Kd.int .i64)) 22 wr w.heap.size (fun k_ => w.heap.size ≤ k_) s4 out) ∧ Aside0 (Below w.heap.size w wr))
        case atStart => exact ⟨a0.toNat, 1, [], Nat.le_refl _, by omega, by omega, rfl, ho, ⟨impl_LyndonWords.empty _ _ _ _ _ _ (heap_alloc_new _ _) (Nat.le_refl _) (Nat.le_refl _)⟩, ⟨below_alloc (Below.refl _ _) _⟩⟩
        case round =>
          clear ho
          obtain ⟨cc, size, out, hcg, hsz, hs1, rfl, hout, HS, HB⟩ := hrel
          cases cc with
          | zero =>
            obtain rfl := Option.some.inj hout.out
            have hle : decide (size ≤ a0) = false := decide_eq_false (by omega)
            obtain ⟨g, cg, eg, gb, gl, clg, hclg⟩ := Kd.S_form HS.out (List.length_pos_iff.2 hl.1)
            subst eg
            clear hclg
            have hcon := Go.Proofs.Ytemcokpkgpnloaa.SortR.sortRows Go.Proofs.Ytemcokpkgpnloaa.SortR.sortLL 3 22 53 (enters_of Try.func53 (by kernel_rfl) rfl) out g out.length cg w.heap.size (fun k_ => w.heap.size ≤ k_) wr (fun x y hx hy A B c c' W r1 h1 r2 h2 => (slices_Compare_int_int.calls k A c x B c' y _ W r1 h1 r2 h2 (hc.out x (by rcases hx with h | h <;> simp [h]) y (by rcases hy with h | h <;> simp [h]))).mono (fun _ _ ⟨he, nd, hq⟩ => ⟨he, nd, hq⟩)) HS.out (by omega)
            change Calls Try.prog 85 _ _ _ at hcon
            have hB := HB.out
            clear HS HB hc hout hl
            go_wp2_with (go_at_call 85; with_reducible refine hcon.mono ?_; rintro e w1 ⟨rfl, HS1, HB1⟩; have HB2 := hB.trans (HB1 _ gb); clear HB1)
            go_ret2
            exact ⟨_, rfl, Kd.S_mono HS1 (fun _ _ => trivial), HB2⟩
          | succ cc =>
            have hout' := hout.out
            simp only [impl_LyndonWords.outer] at hout'
            obtain ⟨L, hL, hout'⟩ := Option.bind_eq_some_iff.1 hout'
            by_cases hLb : 0 ≤ L ∧ L ≤ 1000000
            · rw [if_pos hLb] at hout'
              obtain ⟨o2, hin, hout'⟩ := Option.bind_eq_some_iff.1 hout'
              clear hout
              have hout := Aside0.mk hout'
              clear hout'
              have hle : decide (size ≤ a0) = true := decide_eq_true (by omega)
              have hs0 : (size == 0) = false := beq_eq_false_iff_ne.mpr (by omega)
              have hs0' : (size = 0) = False := eq_false (by omega)
              cases ogk : gk with
              | zero => exact absurd hcg (by omega)
              | succ og =>
              subst ogk
              by_cases hdiv : a0 % size = 0
              · rw [if_pos hdiv] at hin
                have hdb : (a0 % size == 0) = true := beq_iff_eq.mpr hdiv
                replace hin := Aside0.mk hin
                clear hdiv
                go_wp2_with (go_at_call 83; with_reducible refine (impl_LimitOf.calls k size L _ hL).mono ?_; rintro e w1 ⟨rfl, ⟨nd, rfl⟩⟩)
                go_loopg [4, 6] (2 * L + 1).toNat (fun gg s4 s6 wr => ∃ (c : Nat) (n : Int) (out : List (List Int)), c ≤ gg ∧ n + c = L + 1 ∧ -L ≤ n ∧ s6 = .int .i64 n ∧ Aside0 (impl_LyndonWords.inner k size c n out = some o2) ∧ Aside0 (Kd.S (Kd.slice 3 (Kd.int .i64)) 22 wr w.heap.size (fun k_ => w.heap.size ≤ k_) s4 out) ∧ Aside0 (Below w.heap.size w wr))
                case atStart => exact ⟨(2 * L + 1).toNat, -L, out, Nat.le_refl _, by omega, by omega, by first | rfl | go_num, hin, ⟨by with_reducible repeat (first | exact HS.out | apply Kd.S_alloc | apply Kd.S_drewN | apply Kd.S_drew)⟩, ⟨by repeat (first | (with_reducible first | exact HB.out | apply below_alloc | apply pw_below_drewN | apply below_drew1) | exact HB.out)⟩⟩
                case round =>
                  clear hin HS HB
                  obtain ⟨c, n, out, hcg, hnc, hn0, rfl, hin, HS, HB⟩ := hrel
                  cases c with
                  | zero =>
                    obtain rfl := Option.some.inj hin.out
                    have hnl : decide (n ≤ L) = false := decide_eq_false (by omega)
                    go_wp2_with (go_at_call 83; with_reducible refine (impl_LimitOf.calls k size L _ hL).mono ?_; rintro e w1 ⟨rfl, ⟨nd, rfl⟩⟩)
                    go_roundg og
                    case measure => omega
                    case rel => exact ⟨cc, size + 1, _, by omega, by omega, by omega, by first | rfl | go_num, hout, ⟨by with_reducible repeat (first | exact HS.out | apply Kd.S_alloc | apply Kd.S_drewN | apply Kd.S_drew)⟩, ⟨by repeat (first | (with_reducible first | exact HB.out | apply below_alloc | apply pw_below_drewN | apply below_drew1) | exact HB.out)⟩⟩
                  | succ c =>
                    have hin' := hin.out
                    simp only [impl_LyndonWords.inner] at hin'
                    by_cases hol : out.length ≤ 1000000
                    · rw [if_pos hol] at hin'
                      obtain ⟨⟨wd, fl⟩, hwd, hi2⟩ := Option.bind_eq_some_iff.1 hin'
                      obtain ⟨tt, htt, hi3⟩ := Option.bind_eq_some_iff.1 hi2
                      dsimp only at htt hi3
                      clear hin hin' hi2
                      have hnl : decide (n ≤ L) = true := decide_eq_true (by omega)
                      cases gk with
                      | zero => exact absurd hcg (by omega)
                      | succ g1 =>
                      cases tt with
                      | false =>
                        have hi4 := Aside0.mk (show impl_LyndonWords.inner k size c (n + 1) out = some o2 by simpa using hi3)
                        clear hi3
                        go_wp2_with (first | (go_at_call 83; with_reducible refine (impl_LimitOf.calls k size L _ hL).mono ?_; rintro e w1 ⟨rfl, ⟨nd, rfl⟩⟩) | (go_at_call 84; with_reducible refine (impl_WordOf.calls k n size wd fl _ hwd).mono ?_; rintro e w1 ⟨vw, rfl, HV, hb1⟩; obtain ⟨Av, cv, rfl⟩ := Kd.R_slice HV; have HS1 := Aside0.mk (Kd.S_below (by with_reducible repeat (first | exact HS.out | apply Kd.S_alloc | apply Kd.S_drewN | apply Kd.S_drew)) hb1); have HB1 := Aside0.mk (below_step (by repeat (first | (with_reducible first | exact HB.out | apply below_alloc | apply pw_below_drewN | apply below_drew1) | exact HB.out)) hb1); have CX := (Kd.R_reads' HV).2; clear hb1) | (go_at_call 13; with_reducible refine (impl_IsLyndon.calls k Av cv wd false _ (by with_reducible repeat (first | exact CX.2 | refine Kd.C_alloc ?_ _ | refine Kd.C_drewN ?_ _ | refine Kd.C_drew ?_)) CX.1 htt).mono ?_; rintro e w2 ⟨rfl, hb2⟩; have HS2 := Aside0.mk (Kd.S_below (by with_reducible repeat (first | exact HS1.out | apply Kd.S_alloc | apply Kd.S_drewN | apply Kd.S_drew)) hb2); have HB2 := Aside0.mk (below_step (by repeat (first | (with_reducible first | exact HB1.out | apply below_alloc | apply pw_below_drewN | apply below_drew1) | exact HB1.out)) hb2); clear hb2))
                        go_roundg g1
                        case measure => omega
                        case rel => exact ⟨c, n + 1, out, by omega, by omega, by omega, by first | rfl | go_num, hi4, ⟨by with_reducible repeat (first | exact HS2.out | apply Kd.S_alloc | apply Kd.S_drewN | apply Kd.S_drew)⟩, ⟨by repeat (first | (with_reducible first | exact HB2.out | apply below_alloc | apply pw_below_drewN | apply below_drew1) | exact HB2.out)⟩⟩
                      | true =>
                        have hi4 := Aside0.mk (show impl_LyndonWords.inner k size c (n + 1) (out ++ [wd]) = some o2 by simpa using hi3)
                        clear hi3
                        go_wp2_with (first | (go_at_call 83; with_reducible refine (impl_LimitOf.calls k size L _ hL).mono ?_; rintro e w1 ⟨rfl, ⟨nd, rfl⟩⟩) | (go_at_call 84; with_reducible refine (impl_WordOf.calls k n size wd fl _ hwd).mono ?_; rintro e w1 ⟨vw, rfl, HV, hb1⟩; obtain ⟨Av, cv, rfl⟩ := Kd.R_slice HV; have HS1 := Aside0.mk (Kd.S_old (by with_reducible repeat (first | exact HS.out | apply Kd.S_alloc | apply Kd.S_drewN | apply Kd.S_drew)) hb1); have HB1 := Aside0.mk (below_step (by repeat (first | (with_reducible first | exact HB.out | apply below_alloc | apply pw_below_drewN | apply below_drew1) | exact HB.out)) hb1); have hb1s := hb1.size; have hbw := (show w.heap.size ≤ _ from below_size (by repeat (first | (with_reducible first | exact HB.out | apply below_alloc | apply pw_below_drewN | apply below_drew1) | exact HB.out))); have HVb := Kd.R_base HV; have HV1 := Aside0.mk HV; clear HV; have CX := (Kd.R_reads' HV1.out).2; clear hb1) | (go_at_call 13; with_reducible refine (impl_IsLyndon.calls k Av cv wd true _ (by with_reducible repeat (first | exact CX.2 | refine Kd.C_alloc ?_ _ | refine Kd.C_drewN ?_ _ | refine Kd.C_drew ?_)) CX.1 htt).mono ?_; rintro e w2 ⟨rfl, hb2⟩; have HS2 := Aside0.mk (Kd.S_below (by with_reducible repeat (first | exact HS1.out | apply Kd.S_alloc | apply Kd.S_drewN | apply Kd.S_drew)) hb2); have HV2 := Aside0.mk (Kd.R_below (by with_reducible repeat (first | exact HV1.out | apply Kd.R_alloc | apply Kd.R_drewN | apply Kd.R_drew)) hb2); have HB2 := Aside0.mk (below_step (by repeat (first | (with_reducible first | exact HB1.out | apply below_alloc | apply pw_below_drewN | apply below_drew1) | exact HB1.out)) hb2); clear hb2) | ((with_reducible refine gate_builtin (b := .append) (xs := #[.tmp 44, .tmp 46]) rfl ?_); at_builtin; refine Kd.S_append (Kd.slice 3 (Kd.int .i64)) (w0 := w) w.heap.size rfl (.tmp 44) (.tmp 46) 57 22 (.slice none 0 0) 24 rfl Try.underlying57 info22 rfl (by decide) (by omega) u4 out wd [.slice Av wd.length cv] (fun k_ => w.heap.size ≤ k_) (fun k_ => some k_ = (.slice Av wd.length cv : Value).ownBlock) rfl rfl ?aP ?aK ?aF ?aO ?aB ?aS ?aL ?_; (case aP => exact Kd.M_row (Kd.R_mono (Kd.R_tight rfl (Kd.R_lower HV2.out hbw)) (fun _ h_ => h_))); (case aK => exact fun k_ hk_ => ⟨Nat.le_trans hbw (HVb k_ hk_.symm), fun e2 => absurd ((Kd.S_R HS2.out).1 k_ e2.symm).2 (Nat.not_lt.2 (HVb k_ hk_.symm))⟩); (case aF => exact fun k_ hk_ => Nat.le_trans (below_size (by repeat (first | (with_reducible first | exact HB2.out | apply below_alloc | apply pw_below_drewN | apply below_drew1) | exact HB2.out))) hk_); (case aO => exact (by with_reducible repeat (first | exact Kd.S_mono HS2.out (fun k_ hk => ⟨hk.1, fun e_ => absurd hk.2 (Nat.not_lt.2 (HVb k_ e_.symm))⟩) | apply Kd.S_alloc | apply Kd.S_drewN | apply Kd.S_drew))); (case aB => exact (by repeat (first | (with_reducible first | exact HB2.out | apply below_alloc | apply pw_below_drewN | apply below_drew1) | exact HB2.out))); (case aS => exact (below_size (by repeat (first | (with_reducible first | exact HB2.out | apply below_alloc | apply pw_below_drewN | apply below_drew1) | exact HB2.out)))); (case aL => omega); intro v131 w16 ho hb hg hat; have HS3 := Aside0.mk ho; have HB3 := Aside0.mk hb; clear ho hb hg hat))
                        go_roundg g1
                        case measure => omega
                        case rel => exact ⟨c, n + 1, out ++ [wd], by omega, by omega, by omega, by first | rfl | go_num, hi4, HS3, HB3⟩
                    · rw [if_neg hol] at hin'
                      exact absurd hin' (by simp)

              · rw [if_neg hdiv] at hin
                obtain rfl := Option.some.inj hin
                have hdb : (a0 % size == 0) = false := beq_eq_false_iff_ne.mpr hdiv
                clear hdiv hin
                go_wp2_with (go_at_call 83; with_reducible refine (impl_LimitOf.calls k size L _ hL).mono ?_; rintro e w1 ⟨rfl, ⟨nd, rfl⟩⟩)
                go_loopg [4, 6] 0 (fun gg s4 s6 wr => ∃ n : Int, s6 = .int .i64 n ∧ Aside0 (Kd.S (Kd.slice 3 (Kd.int .i64)) 22 wr w.heap.size (fun k_ => w.heap.size ≤ k_) s4 out) ∧ Aside0 (Below w.heap.size w wr))
                case atStart => exact ⟨-L, by first | rfl | go_num, ⟨by with_reducible repeat (first | exact HS.out | apply Kd.S_alloc | apply Kd.S_drewN | apply Kd.S_drew)⟩, ⟨by repeat (first | (with_reducible first | exact HB.out | apply below_alloc | apply pw_below_drewN | apply below_drew1) | exact HB.out)⟩⟩
                case round =>
                  clear HS HB
                  obtain ⟨n, rfl, HS, HB⟩ := hrel
                  go_wp2
                  go_roundg og
                  case measure => omega
                  case rel => exact ⟨cc, size + 1, _, by omega, by omega, by omega, by first | rfl | go_num, hout, ⟨by with_reducible repeat (first | exact HS.out | apply Kd.S_alloc | apply Kd.S_drewN | apply Kd.S_drew)⟩, ⟨by repeat (first | (with_reducible first | exact HB.out | apply below_alloc | apply pw_below_drewN | apply below_drew1) | exact HB.out)⟩⟩
            · rw [if_neg hLb] at hout'
              exact absurd hout' (by simp)
      · rw [if_neg hc] at h
        exact absurd h (by simp)
    · rw [if_neg hl] at h
      exact absurd h (by simp)

/-! ### impl_CircleOf: function 36 -/
def impl_CircleOf.f (k : Nat) (a0 : Int) : Option (List Int × Bool) := (impl_LyndonWords.f k a0).bind fun bt151 => (if bt151.2 = true then ((slices_Concat_int_int.f k bt151.1).bind fun t155 => (some (t155, true))) else (some (([] : List Int), false)))
theorem impl_CircleOf.mono : ∀ a0 k, LeO (impl_CircleOf.f k a0) (impl_CircleOf.f (k + 1) a0) := by
  intro a0 k
  unfold impl_CircleOf.f
  repeat' first
      | (with_reducible exact impl_LyndonWords.mono _ _)
      | (with_reducible exact slices_Concat_int_int.mono _ _)
      | (with_reducible exact LeO.refl _)
      | (with_reducible exact LeO.none _)
      | (with_reducible refine LeO.ite ?_ ?_)
      | (with_reducible refine LeO.bind ?_ (fun _ => ?_))
      | exact impl_LyndonWords.mono _ _
      | exact slices_Concat_int_int.mono _ _
      | exact LeO.none _
      | refine LeO.ite ?_ ?_
      | refine LeO.bind ?_ (fun _ => ?_)
set_option maxHeartbeats 8000000 in
set_option maxRecDepth 100000 in
theorem impl_CircleOf.calls (k : Nat) (a0 : Int) (r1 : List Int) (r2 : Bool) (w : World) (h : impl_CircleOf.f k a0 = some (r1, r2)) :
    Calls Try.prog 36 #[.int .i64 a0] w fun e w' => ∃ v0_ : Value, e = .returned (.tuple #[v0_, .bool r2]) ∧ Kd.R (Kd.int .i64) 3 w' w.heap.size (fun _ => True) v0_ r1 ∧ Below w.heap.size w w' := by
  have HB := Aside0.mk (Below.refl w.heap.size w)
  have H : ((impl_LyndonWords.f k a0).bind fun bt151 => (if bt151.2 = true then ((slices_Concat_int_int.f k bt151.1).bind fun t155 => (some (t155, true))) else (some (([] : List Int), false)))) = some (r1, r2) := h
  clear h
  replace H := Option.bind_eq_some_iff.mp H
  obtain ⟨⟨t151, t152⟩, A20, H⟩ := H
  replace H : (if t152 = true then ((slices_Concat_int_int.f k t151).bind fun t155 => (some (t155, true))) else (some (([] : List Int), false))) = some (r1, r2) := H
  have A2 := Aside0.mk A20
  clear A20
  by_cases c3 : t152 = true
  · (try subst c3)
    have H1 : ((slices_Concat_int_int.f k t151).bind fun t155 => (some (t155, true))) = some (r1, r2) := by rw [if_pos rfl] at H; exact H
    clear H
    have H := H1
    clear H1
    replace H := Option.bind_eq_some_iff.mp H
    obtain ⟨t155, A40, H⟩ := H
    replace H : (some (t155, true)) = some (r1, r2) := H
    have A4 := Aside0.mk A40
    clear A40
    simp only [Option.some.injEq, Prod.mk.injEq] at H
    obtain ⟨rfl, rfl⟩ := H
    go_enter Try.func36, Try.ntmps36
    go_wp2_with (first | ((with_reducible refine gate_callee (f := 43) rfl ?_); refine goesL_ (some 8) rfl rfl Try.func43 (by kernel_rfl) rfl #[.int .i64 a0] rfl (by (try simp only [List.map_toArray, List.map_cons, List.map_nil]); first | done | rfl | (simp only [List.length_drop, List.length_take]; rfl)) ?_; (with_reducible refine (impl_LyndonWords.calls k a0 t151 true _ A2.out).mono ?_); rintro e w5 ⟨v153, rfl, ho0, hb⟩; refine ⟨_, rfl, ?_⟩; have n0_ := Aside0.mk (Kd.S_lower ho0 (below_size (by repeat (first | (with_reducible first | exact HB.out | apply below_alloc | apply pw_below_drewN | apply below_drew1) | exact HB.out)))); have n1_ := Aside0.mk (below_step (by repeat (first | (with_reducible first | exact HB.out | apply below_alloc | apply pw_below_drewN | apply below_drew1) | exact HB.out)) hb); clear HB; have HO154 := n0_; have HB := n1_; clear n0_ n1_; (try clear hb); (try clear hb2); (try clear hk); (try clear hi); (try clear ho0); obtain ⟨Ao6, co6, eo6⟩ := Kd.S_slice HO154.out; subst eo6) | ((with_reducible refine gate_callee (f := 79) rfl ?_); refine goesL_ (some 14) rfl rfl Try.func79 (by kernel_rfl) rfl #[.slice Ao6 t151.length co6] rfl (by (try simp only [List.map_toArray, List.map_cons, List.map_nil]); first | done | rfl | (simp only [List.length_drop, List.length_take]; rfl)) ?_; (with_reducible refine (slices_Concat_int_int.calls k _ _ t151 t155 _ ?side1 ?side2 A4.out).mono ?_); (case side1 => repeat (first | exact (Kd.S_reads' HO154.out).2.2 | (with_reducible refine Kd.C_alloc ?_ _) | (with_reducible refine Kd.C_drewN ?_ _) | (with_reducible refine Kd.C_drew ?_))); (case side2 => exact (Kd.S_reads' HO154.out).2.1); rintro e w7 ⟨v156, rfl, ho0, hb⟩; refine ⟨_, rfl, ?_⟩; have n0_ := Aside0.mk (Kd.S_elder' (by (with_reducible repeat (first | apply Kd.S_alloc | apply Kd.S_drewN | apply Kd.S_drew)); exact HO154.out) (Kd.R_base ho0) hb); have n1_ := Aside0.mk (Kd.R_lower ho0 (below_size (by repeat (first | (with_reducible first | exact HB.out | apply below_alloc | apply pw_below_drewN | apply below_drew1) | exact HB.out)))); have n2_ := Aside0.mk (below_step (by repeat (first | (with_reducible first | exact HB.out | apply below_alloc | apply pw_below_drewN | apply below_drew1) | exact HB.out)) hb); clear HO154; clear HB; have HO154 := n0_; have HO157 := n1_; have HB := n2_; clear n0_ n1_ n2_; (try clear hb); (try clear hb2); (try clear hk); (try clear hi); (try clear ho0)))
    go_ret2
    exact ⟨_, by first | rfl | (simp [errW_none, errW_some] <;> rfl) | (simp [*, errW_none, errW_some] <;> rfl), by (with_reducible repeat (first | apply Kd.R_alloc | apply Kd.R_drewN | apply Kd.R_drew)); exact HO157.out, by repeat (first | (with_reducible first | exact HB.out | apply below_alloc | apply pw_below_drewN | apply below_drew1) | exact HB.out)⟩
  · replace c3 := Bool.eq_false_iff.mpr c3
    (try subst c3)
    have H1 : (some (([] : List Int), false)) = some (r1, r2) := by rw [if_neg (show ¬ (false = true) by decide)] at H; exact H
    clear H
    have H := H1
    clear H1
    simp only [Option.some.injEq, Prod.mk.injEq] at H
    obtain ⟨rfl, rfl⟩ := H
    go_enter Try.func36, Try.ntmps36
    go_wp2_with (first | ((with_reducible refine gate_callee (f := 43) rfl ?_); refine goesL_ (some 8) rfl rfl Try.func43 (by kernel_rfl) rfl #[.int .i64 a0] rfl (by (try simp only [List.map_toArray, List.map_cons, List.map_nil]); first | done | rfl | (simp only [List.length_drop, List.length_take]; rfl)) ?_; (with_reducible refine (impl_LyndonWords.calls k a0 t151 false _ A2.out).mono ?_); rintro e w8 ⟨v153, rfl, ho0, hb⟩; refine ⟨_, rfl, ?_⟩; have n0_ := Aside0.mk (Kd.S_lower ho0 (below_size (by repeat (first | (with_reducible first | exact HB.out | apply below_alloc | apply pw_below_drewN | apply below_drew1) | exact HB.out)))); have n1_ := Aside0.mk (below_step (by repeat (first | (with_reducible first | exact HB.out | apply below_alloc | apply pw_below_drewN | apply below_drew1) | exact HB.out)) hb); clear HB; have HO154 := n0_; have HB := n1_; clear n0_ n1_; (try clear hb); (try clear hb2); (try clear hk); (try clear hi); (try clear ho0)))
    go_ret2
    exact ⟨_, by first | rfl | (simp [errW_none, errW_some] <;> rfl) | (simp [*, errW_none, errW_some] <;> rfl), by first | exact Kd.R_nil _ _ _ _ _ | exact Kd.N_nil _ _ _ _ _ | exact Kd.V_nil _ _ _ _ _ | exact Kd.Q_nil _ _ _ _ _ | exact Kd.S_nil _ _ _ _ _, by repeat (first | (with_reducible first | exact HB.out | apply below_alloc | apply pw_below_drewN | apply below_drew1) | exact HB.out)⟩

/-! ### spec_l5Lift: function 80 -/
def spec_l5Lift.l0 : Nat → Int → Int → Option (Int)
  | 0, _, _ => none
  | k + 1, x0, x1 => if x1 > 0 then (spec_l5Lift.l0 k (wrap64 (3 * x0)) (wrap64 (x1 - 1))) else (some x0)
def spec_l5Lift.f (k : Nat) (a0 : Int) (a1 : Int) : Option (Int) := spec_l5Lift.l0 k a0 a1
theorem spec_l5Lift.mono_l : ∀ k, (∀ y0 y1, LeO (spec_l5Lift.l0 k y0 y1) (spec_l5Lift.l0 (k + 1) y0 y1))
  | 0 => fun _ _ r h => by simp [spec_l5Lift.l0] at h
  | k + 1 => by
    have ih0 := spec_l5Lift.mono_l k
    · intro y0 y1
      unfold spec_l5Lift.l0
      repeat' first
      | (with_reducible exact ih0 _ _)
      | (with_reducible exact LeO.refl _)
      | (with_reducible exact LeO.none _)
      | (with_reducible refine LeO.ite ?_ ?_)
      | (with_reducible refine LeO.bind ?_ (fun _ => ?_))
      | exact ih0 _ _
      | exact LeO.none _
      | refine LeO.ite ?_ ?_
      | refine LeO.bind ?_ (fun _ => ?_)
theorem spec_l5Lift.mono : ∀ a0 a1 k, LeO (spec_l5Lift.f k a0 a1) (spec_l5Lift.f (k + 1) a0 a1) := by
  intro a0 a1 k
  have ih0 := spec_l5Lift.mono_l k
  unfold spec_l5Lift.f
  repeat' first
      | (with_reducible exact ih0 _ _)
      | (with_reducible exact LeO.refl _)
      | (with_reducible exact LeO.none _)
      | (with_reducible refine LeO.ite ?_ ?_)
      | (with_reducible refine LeO.bind ?_ (fun _ => ?_))
      | exact ih0 _ _
      | exact LeO.none _
      | refine LeO.ite ?_ ?_
      | refine LeO.bind ?_ (fun _ => ?_)
set_option maxHeartbeats 8000000 in
set_option maxRecDepth 100000 in
theorem spec_l5Lift.calls (k : Nat) (a0 : Int) (a1 : Int) (r : Int) (w : World) (h : spec_l5Lift.f k a0 a1 = some r) :
    Calls Try.prog 80 #[.int .i64 a0, .int .i64 a1] w fun e w' => e = .returned (.int .i64 r) ∧ Drawn0 w w' := by
  have H : (spec_l5Lift.l0 k a0 a1) = some r := h
  clear h
  have H' := Aside0.mk H
  clear H
  go_enter Try.func80, Try.ntmps80
  go_wp2
  go_loopg [0, 1] k (fun kq v0 v1 w' => ∃ (x0_1 : Int) (x1_1 : Int), v0 = .int .i64 x0_1 ∧ v1 = .int .i64 x1_1 ∧ Aside0 (spec_l5Lift.l0 kq x0_1 x1_1 = some r) ∧ Aside0 (kq ≤ k) ∧ Drawn0 w w')
  case atStart => exact ⟨(a0), (a1), (by first | rfl | (simp; done) | (simp [*]; done)), (by first | rfl | (simp; done) | (simp [*]; done)), H', ⟨Nat.le_refl _⟩, by repeat (first | exact Drawn0.refl _ | apply Drawn0.step)⟩
  case round =>
    clear H'
    try clear p2
    obtain ⟨x0_1, x1_1, rfl, rfl, HA, HK1, ⟨m1, rfl⟩⟩ := hrel
    cases gk with
    | zero => exact absurd HA.out (by simp [spec_l5Lift.l0])
    | succ k1 =>
      have H := HA.out
      clear HA
      simp only [spec_l5Lift.l0] at H
      by_cases c3 : x1_1 > 0
      · rw [if_pos c3] at H
        have c3b0 : decide (0 < x1_1) = true := decide_eq_true c3
        clear c3
        have H' := Aside0.mk H
        clear H
        go_wp2
        go_roundg k1
        case measure => have := HK1.out; omega
        case rel => exact ⟨(wrap64 (3 * x0_1)), (wrap64 (x1_1 - 1)), (by first | rfl | (simp; done) | (simp [*]; done)), (by first | rfl | (simp; done) | (simp [*]; done)), H', ⟨by have := HK1.out; omega⟩, by repeat (first | exact Drawn0.refl _ | apply Drawn0.step)⟩
      · rw [if_neg c3] at H
        have c3b0 : decide (0 < x1_1) = false := decide_eq_false c3
        clear c3
        obtain rfl := Option.some.inj H
        go_wp2
        go_ret
        exact ⟨by first | rfl | (simp; done) | (simp [*]; done), by repeat (first | exact Drawn0.refl _ | apply Drawn0.step)⟩

/-! ### spec_MakePower: function 37 -/
def spec_MakePower.f (k : Nat) (a0 : Int) : Option (Int) := (spec_l5Lift.f k 1 (mx 0 (mn a0 30))).bind fun t158 => (some t158)
theorem spec_MakePower.mono : ∀ a0 k, LeO (spec_MakePower.f k a0) (spec_MakePower.f (k + 1) a0) := by
  intro a0 k
  unfold spec_MakePower.f
  repeat' first
      | (with_reducible exact spec_l5Lift.mono _ _ _)
      | (with_reducible exact LeO.refl _)
      | (with_reducible exact LeO.none _)
      | (with_reducible refine LeO.ite ?_ ?_)
      | (with_reducible refine LeO.bind ?_ (fun _ => ?_))
      | exact spec_l5Lift.mono _ _ _
      | exact LeO.none _
      | refine LeO.ite ?_ ?_
      | refine LeO.bind ?_ (fun _ => ?_)
set_option maxHeartbeats 8000000 in
set_option maxRecDepth 100000 in
theorem spec_MakePower.calls (k : Nat) (a0 : Int) (r : Int) (w : World) (h : spec_MakePower.f k a0 = some r) :
    Calls Try.prog 37 #[.int .i64 a0] w fun e w' => e = .returned (.int .i64 r) ∧ Below w.heap.size w w' := by
  have HB := Aside0.mk (Below.refl w.heap.size w)
  have H : ((spec_l5Lift.f k 1 (mx 0 (mn a0 30))).bind fun t158 => (some t158)) = some r := h
  clear h
  obtain ⟨ji2, hji2⟩ : ∃ j_ : Int, (mn a0 30) = j_ := ⟨_, rfl⟩
  replace H : ((spec_l5Lift.f k 1 (mx 0 (ji2))).bind fun t158 => (some t158)) = some r := by first | (rw [hji2] at H; exact H) | (simp only [hji2] at H ⊢; exact H)
  (try (have hji2h : ji2 ≤ 30 := by (rw [← hji2]; unfold mn; (repeat' split) <;> omega)))
  (try (have hji2g : ji2 ≤ 64 := by omega))
  have hji2_ : (if 30 < a0 then 30 else a0) = ji2 := hji2
  obtain ⟨ji3, hji3⟩ : ∃ j_ : Int, (mx 0 (ji2)) = j_ := ⟨_, rfl⟩
  replace H : ((spec_l5Lift.f k 1 (ji3)).bind fun t158 => (some t158)) = some r := by first | (rw [hji3] at H; exact H) | (simp only [hji3] at H ⊢; exact H)
  have hji3_ : (if 0 < (ji2) then (ji2) else 0) = ji3 := hji3
  replace H := Option.bind_eq_some_iff.mp H
  obtain ⟨t158, A40, H⟩ := H
  replace H : (some t158) = some r := H
  have A4 := Aside0.mk A40
  clear A40
  obtain rfl := Option.some.inj H
  go_enter Try.func37, Try.ntmps37
  go_wp2_with (first | ((with_reducible refine gate_callee (f := 80) rfl ?_); refine goesL_ (some 6) rfl rfl Try.func80 (by kernel_rfl) rfl #[.int .i64 1, .int .i64 ji3] rfl (by (try simp only [List.map_toArray, List.map_cons, List.map_nil]); first | done | (simp only [hji3]; rfl) | rfl | (simp only [List.length_drop, List.length_take]; rfl)) ?_; (with_reducible refine (spec_l5Lift.calls k 1 ji3 t158 _ A4.out).mono ?_); rintro e w' ⟨rfl, ⟨nd, rfl⟩⟩; refine ⟨_, rfl, ?_⟩))
  go_ret
  exact ⟨by first | rfl | (simp [errW_none, errW_some] <;> rfl) | (simp only [← hji2, ← hji3]; first | rfl | (simp [errW_none, errW_some] <;> rfl)) | (simp [*, errW_none, errW_some] <;> rfl), by repeat (first | (with_reducible first | exact HB.out | apply below_alloc | apply pw_below_drewN | apply below_drew1) | exact HB.out)⟩

/-! ### spec_l1In: function 65 -/
def spec_l1In.f (a0 : Int) (a1 : Int) (a2 : Int) : Option (Bool) := if a0 ≥ a1 then (some (decide (a0 ≤ a2))) else (some false)
set_option maxHeartbeats 8000000 in
set_option maxRecDepth 100000 in
theorem spec_l1In.calls (a0 : Int) (a1 : Int) (a2 : Int) (r : Bool) (w : World) (h : spec_l1In.f a0 a1 a2 = some r) :
    Calls Try.prog 65 #[.int .i64 a0, .int .i64 a1, .int .i64 a2] w fun e w' => e = .returned (.bool r) ∧ Drawn0 w w' := by
  have H : (if a0 ≥ a1 then (some (decide (a0 ≤ a2))) else (some false)) = some r := h
  clear h
  by_cases c4 : a0 ≥ a1
  · rw [if_pos c4] at H
    have c4b0 : decide (a1 ≤ a0) = true := decide_eq_true c4
    clear c4
    obtain rfl := Option.some.inj H
    go_enter Try.func65, Try.ntmps65
    go_wp2
    go_ret
    exact ⟨by first | rfl | (simp; done) | (simp [*]; done), by repeat (first | exact Drawn0.refl _ | apply Drawn0.step)⟩
  · rw [if_neg c4] at H
    have c4b0 : decide (a1 ≤ a0) = false := decide_eq_false c4
    clear c4
    obtain rfl := Option.some.inj H
    go_enter Try.func65, Try.ntmps65
    go_wp2
    go_ret
    exact ⟨by first | rfl | (simp; done) | (simp [*]; done), by repeat (first | exact Drawn0.refl _ | apply Drawn0.step)⟩

/-! ### spec_IsTrit: function 76 -/
def spec_IsTrit.f (a0 : Int) : Option (Bool) := (spec_l1In.f a0 (-1) 1).bind fun t159 => (some t159)
set_option maxHeartbeats 8000000 in
set_option maxRecDepth 100000 in
theorem spec_IsTrit.calls (a0 : Int) (r : Bool) (w : World) (h : spec_IsTrit.f a0 = some r) :
    Calls Try.prog 76 #[.int .i64 a0] w fun e w' => e = .returned (.bool r) ∧ Drawn0 w w' := by
  have H : ((spec_l1In.f a0 (-1) 1).bind fun t159 => (some t159)) = some r := h
  clear h
  replace H := Option.bind_eq_some_iff.mp H
  obtain ⟨t159, A20, H⟩ := H
  replace H : (some t159) = some r := H
  have A2 := Aside0.mk A20
  clear A20
  obtain rfl := Option.some.inj H
  go_enter Try.func76, Try.ntmps76
  go_wp2_with (first | ((with_reducible refine gate_callee (f := 65) rfl ?_); refine goesL_ (some 4) rfl rfl Try.func65 (by kernel_rfl) rfl #[.int .i64 a0, .int .i64 (-1), .int .i64 1] rfl (by (try simp only [List.map_toArray, List.map_cons, List.map_nil]); first | done | rfl | (simp only [List.length_drop, List.length_take]; rfl)) ?_; (with_reducible refine (spec_l1In.calls a0 (-1) 1 t159 _ A2.out).mono ?_); rintro e w' ⟨rfl, ⟨nd, rfl⟩⟩; refine ⟨_, rfl, ?_⟩))
  go_ret
  exact ⟨by first | rfl | (simp; done) | (simp [*]; done), by repeat (first | exact Drawn0.refl _ | apply Drawn0.step)⟩

/-! ### spec_IsWord: function 38 -/
def spec_IsWord.l0 : Nat → List Int → List Int → Int → Int → Option (Bool)
  | 0, _, _, _, _ => none
  | k + 1, x0, x5, x6, x7 => if x7 < x6 then (if 0 ≤ x7 then (if x7 < (x5.length : Int) then ((spec_IsTrit.f (rd x5 x7)).bind fun t161 => (if t161 = true then (spec_IsWord.l0 k x0 x5 x6 (wrap64 (x7 + 1))) else (some false))) else (none)) else (none)) else ((spec_l1In.f (x0.length : Int) 1 30).bind fun t162 => (some t162))
def spec_IsWord.f (k : Nat) (l0 : List Int) : Option (Bool) := spec_IsWord.l0 k l0 l0 (l0.length : Int) 0
theorem spec_IsWord.mono_l : ∀ k, (∀ y0 y1 y2 y3, LeO (spec_IsWord.l0 k y0 y1 y2 y3) (spec_IsWord.l0 (k + 1) y0 y1 y2 y3))
  | 0 => fun _ _ _ _ r h => by simp [spec_IsWord.l0] at h
  | k + 1 => by
    have ih0 := spec_IsWord.mono_l k
    · intro y0 y1 y2 y3
      unfold spec_IsWord.l0
      repeat' first
      | (with_reducible exact ih0 _ _ _ _)
      | (with_reducible exact LeO.refl _)
      | (with_reducible exact LeO.none _)
      | (with_reducible refine LeO.ite ?_ ?_)
      | (with_reducible refine LeO.bind ?_ (fun _ => ?_))
      | exact ih0 _ _ _ _
      | exact LeO.none _
      | refine LeO.ite ?_ ?_
      | refine LeO.bind ?_ (fun _ => ?_)
theorem spec_IsWord.mono : ∀ a0 k, LeO (spec_IsWord.f k a0) (spec_IsWord.f (k + 1) a0) := by
  intro a0 k
  have ih0 := spec_IsWord.mono_l k
  unfold spec_IsWord.f
  repeat' first
      | (with_reducible exact ih0 _ _ _ _)
      | (with_reducible exact LeO.refl _)
      | (with_reducible exact LeO.none _)
      | (with_reducible refine LeO.ite ?_ ?_)
      | (with_reducible refine LeO.bind ?_ (fun _ => ?_))
      | exact ih0 _ _ _ _
      | exact LeO.none _
      | refine LeO.ite ?_ ?_
      | refine LeO.bind ?_ (fun _ => ?_)
set_option maxHeartbeats 8000000 in
set_option maxRecDepth 100000 in
theorem spec_IsWord.calls (k : Nat) (A0 : Option Addr) (c0 : Nat) (l0 : List Int) (r : Bool) (w : World) (hr0 : Kd.C (Kd.int .i64) w A0 l0.length l0) (hc0 : l0.length ≤ c0) (h : spec_IsWord.f k l0 = some r) :
    Calls Try.prog 38 #[.slice A0 l0.length c0] w fun e w' => e = .returned (.bool r) ∧ Drawn0 w w' := by
  have HR0 := Aside0.mk hr0
  have HC0 := Aside0.mk hc0
  clear hr0 hc0
  have H : (spec_IsWord.l0 k l0 l0 (l0.length : Int) 0) = some r := h
  clear h
  have H' := Aside0.mk H
  clear H
  go_enter Try.func38, Try.ntmps38
  go_wp2
  go_loopg [7] k (fun kq v7 w' => ∃ (x7_1 : Int), v7 = .int .i64 x7_1 ∧ Aside0 (spec_IsWord.l0 kq l0 l0 (l0.length : Int) x7_1 = some r) ∧ Aside0 (kq ≤ k) ∧ Drawn0 w w')
  case atStart => exact ⟨(0), (by first | rfl | (simp; done) | (simp [*]; done)), H', ⟨Nat.le_refl _⟩, by repeat (first | exact Drawn0.refl _ | apply Drawn0.step)⟩
  case round =>
    clear H'
    obtain ⟨x7_1, rfl, HA, HK1, ⟨m1, rfl⟩⟩ := hrel
    cases gk with
    | zero => exact absurd HA.out (by simp [spec_IsWord.l0])
    | succ k1 =>
      have H := HA.out
      clear HA
      simp only [spec_IsWord.l0] at H
      by_cases c2 : x7_1 < (l0.length : Int)
      · rw [if_pos c2] at H
        have c2b0 : decide (x7_1 < (l0.length : Int)) = true := decide_eq_true c2
        clear c2
        by_cases c3 : 0 ≤ x7_1
        · rw [if_pos c3] at H
          have c3b0 : decide (0 ≤ x7_1) = true := decide_eq_true c3
          clear c3
          by_cases c4 : x7_1 < (l0.length : Int)
          · rw [if_pos c4] at H
            have c4b0 : decide (x7_1 < (l0.length : Int)) = true := decide_eq_true c4
            clear c4
            replace H := Option.bind_eq_some_iff.mp H
            obtain ⟨t161, A50, H⟩ := H
            replace H : (if t161 = true then (spec_IsWord.l0 k1 l0 l0 (l0.length : Int) (wrap64 (x7_1 + 1))) else (some false)) = some r := H
            have A5 := Aside0.mk A50
            clear A50
            by_cases c6 : t161 = true
            · (try subst c6)
              have H1 : (spec_IsWord.l0 k1 l0 l0 (l0.length : Int) (wrap64 (x7_1 + 1))) = some r := by rw [if_pos rfl] at H; exact H
              clear H
              have H := H1
              clear H1
              have H' := Aside0.mk H
              clear H
              have p160 : 0 ≤ (x7_1 : Int) := of_decide_eq_true (by first | (with_reducible assumption) | assumption)
              have q160 : x7_1 < (l0.length : Int) := of_decide_eq_true (by first | (with_reducible assumption) | assumption)
              obtain ⟨ad160, e160, hx160_0⟩ := Kd.at_int HR0.out x7_1 p160 q160
              cases e160
              replace p160 := eq_true p160
              replace q160 := eq_true q160
              go_wp2_with (first | ((with_reducible refine gate_callee (f := 76) rfl ?_); refine goesL_ (some 12) rfl rfl Try.func76 (by kernel_rfl) rfl #[.int .i64 (rd l0 x7_1)] rfl (by (try simp only [List.map_toArray, List.map_cons, List.map_nil]); first | done | rfl | (simp only [List.length_drop, List.length_take]; rfl)) ?_; (with_reducible refine (spec_IsTrit.calls (rd l0 x7_1) true _ A5.out).mono ?_); rintro e w' ⟨rfl, ⟨nd, rfl⟩⟩; refine ⟨_, rfl, ?_⟩))
              go_roundg k1
              case measure => have := HK1.out; omega
              case rel => exact ⟨(wrap64 (x7_1 + 1)), (by first | rfl | (simp; done) | (simp [*]; done)), H', ⟨by have := HK1.out; omega⟩, by repeat (first | exact Drawn0.refl _ | apply Drawn0.step)⟩
            · replace c6 := Bool.eq_false_iff.mpr c6
              (try subst c6)
              have H1 : (some false) = some r := by rw [if_neg (show ¬ (false = true) by decide)] at H; exact H
              clear H
              have H := H1
              clear H1
              obtain rfl := Option.some.inj H
              have p160 : 0 ≤ (x7_1 : Int) := of_decide_eq_true (by first | (with_reducible assumption) | assumption)
              have q160 : x7_1 < (l0.length : Int) := of_decide_eq_true (by first | (with_reducible assumption) | assumption)
              obtain ⟨ad160, e160, hx160_0⟩ := Kd.at_int HR0.out x7_1 p160 q160
              cases e160
              replace p160 := eq_true p160
              replace q160 := eq_true q160
              go_wp2_with (first | ((with_reducible refine gate_callee (f := 76) rfl ?_); refine goesL_ (some 12) rfl rfl Try.func76 (by kernel_rfl) rfl #[.int .i64 (rd l0 x7_1)] rfl (by (try simp only [List.map_toArray, List.map_cons, List.map_nil]); first | done | rfl | (simp only [List.length_drop, List.length_take]; rfl)) ?_; (with_reducible refine (spec_IsTrit.calls (rd l0 x7_1) false _ A5.out).mono ?_); rintro e w' ⟨rfl, ⟨nd, rfl⟩⟩; refine ⟨_, rfl, ?_⟩))
              go_ret
              exact ⟨by first | rfl | (simp; done) | (simp [*]; done), by repeat (first | exact Drawn0.refl _ | apply Drawn0.step)⟩
          · rw [if_neg c4] at H
            exact absurd H (by simp)
        · rw [if_neg c3] at H
          exact absurd H (by simp)
      · rw [if_neg c2] at H
        have c2b0 : decide (x7_1 < (l0.length : Int)) = false := decide_eq_false c2
        clear c2
        replace H := Option.bind_eq_some_iff.mp H
        obtain ⟨t162, A70, H⟩ := H
        replace H : (some t162) = some r := H
        have A7 := Aside0.mk A70
        clear A70
        obtain rfl := Option.some.inj H
        go_wp2_with (first | ((with_reducible refine gate_callee (f := 65) rfl ?_); refine goesL_ (some 17) rfl rfl Try.func65 (by kernel_rfl) rfl #[.int .i64 (l0.length : Int), .int .i64 1, .int .i64 30] rfl (by (try simp only [List.map_toArray, List.map_cons, List.map_nil]); first | done | rfl | (simp only [List.length_drop, List.length_take]; rfl)) ?_; (with_reducible refine (spec_l1In.calls (l0.length : Int) 1 30 t162 _ A7.out).mono ?_); rintro e w' ⟨rfl, ⟨nd, rfl⟩⟩; refine ⟨_, rfl, ?_⟩))
        go_ret
        exact ⟨by first | rfl | (simp; done) | (simp [*]; done), by repeat (first | exact Drawn0.refl _ | apply Drawn0.step)⟩

/-! ### spec_l2Value: function 81 -/
def spec_l2Value.l0 : Nat → List Int → Int → Int → Option (Int)
  | 0, _, _, _ => none
  | k + 1, x0, x3, x4 => if x4 ≥ 0 then (if 0 ≤ x4 then (if x4 < (x0.length : Int) then (spec_l2Value.l0 k x0 (wrap64 ((wrap64 (3 * x3)) + (rd x0 x4))) (wrap64 (x4 - 1))) else (none)) else (none)) else (some x3)
def spec_l2Value.f (k : Nat) (l0 : List Int) : Option (Int) := spec_l2Value.l0 k l0 0 (wrap64 ((l0.length : Int) - 1))
theorem spec_l2Value.mono_l : ∀ k, (∀ y0 y1 y2, LeO (spec_l2Value.l0 k y0 y1 y2) (spec_l2Value.l0 (k + 1) y0 y1 y2))
  | 0 => fun _ _ _ r h => by simp [spec_l2Value.l0] at h
  | k + 1 => by
    have ih0 := spec_l2Value.mono_l k
    · intro y0 y1 y2
      unfold spec_l2Value.l0
      repeat' first
      | (with_reducible exact ih0 _ _ _)
      | (with_reducible exact LeO.refl _)
      | (with_reducible exact LeO.none _)
      | (with_reducible refine LeO.ite ?_ ?_)
      | (with_reducible refine LeO.bind ?_ (fun _ => ?_))
      | exact ih0 _ _ _
      | exact LeO.none _
      | refine LeO.ite ?_ ?_
      | refine LeO.bind ?_ (fun _ => ?_)
theorem spec_l2Value.mono : ∀ a0 k, LeO (spec_l2Value.f k a0) (spec_l2Value.f (k + 1) a0) := by
  intro a0 k
  have ih0 := spec_l2Value.mono_l k
  unfold spec_l2Value.f
  repeat' first
      | (with_reducible exact ih0 _ _ _)
      | (with_reducible exact LeO.refl _)
      | (with_reducible exact LeO.none _)
      | (with_reducible refine LeO.ite ?_ ?_)
      | (with_reducible refine LeO.bind ?_ (fun _ => ?_))
      | exact ih0 _ _ _
      | exact LeO.none _
      | refine LeO.ite ?_ ?_
      | refine LeO.bind ?_ (fun _ => ?_)
set_option maxHeartbeats 8000000 in
set_option maxRecDepth 100000 in
theorem spec_l2Value.calls (k : Nat) (A0 : Option Addr) (c0 : Nat) (l0 : List Int) (r : Int) (w : World) (hr0 : Kd.C (Kd.int .i64) w A0 l0.length l0) (hc0 : l0.length ≤ c0) (h : spec_l2Value.f k l0 = some r) :
    Calls Try.prog 81 #[.slice A0 l0.length c0] w fun e w' => e = .returned (.int .i64 r) ∧ Drawn0 w w' := by
  have HR0 := Aside0.mk hr0
  have HC0 := Aside0.mk hc0
  clear hr0 hc0
  have H : (spec_l2Value.l0 k l0 0 (wrap64 ((l0.length : Int) - 1))) = some r := h
  clear h
  have H' := Aside0.mk H
  clear H
  go_enter Try.func81, Try.ntmps81
  go_wp2
  go_loopg [3, 4] k (fun kq v3 v4 w' => ∃ (x3_1 : Int) (x4_1 : Int), v3 = .int .i64 x3_1 ∧ v4 = .int .i64 x4_1 ∧ Aside0 (spec_l2Value.l0 kq l0 x3_1 x4_1 = some r) ∧ Aside0 (kq ≤ k) ∧ Drawn0 w w')
  case atStart => exact ⟨(0), (wrap64 ((l0.length : Int) - 1)), (by first | rfl | (simp; done) | (simp [*]; done)), (by first | rfl | (simp; done) | (simp [*]; done)), H', ⟨Nat.le_refl _⟩, by repeat (first | exact Drawn0.refl _ | apply Drawn0.step)⟩
  case round =>
    clear H'
    obtain ⟨x3_1, x4_1, rfl, rfl, HA, HK1, ⟨m1, rfl⟩⟩ := hrel
    cases gk with
    | zero => exact absurd HA.out (by simp [spec_l2Value.l0])
    | succ k1 =>
      have H := HA.out
      clear HA
      simp only [spec_l2Value.l0] at H
      by_cases c2 : x4_1 ≥ 0
      · rw [if_pos c2] at H
        have c2b0 : decide (0 ≤ x4_1) = true := decide_eq_true c2
        clear c2
        by_cases c3 : 0 ≤ x4_1
        · rw [if_pos c3] at H
          have c3b0 : decide (0 ≤ x4_1) = true := decide_eq_true c3
          clear c3
          by_cases c4 : x4_1 < (l0.length : Int)
          · rw [if_pos c4] at H
            have c4b0 : decide (x4_1 < (l0.length : Int)) = true := decide_eq_true c4
            clear c4
            have H' := Aside0.mk H
            clear H
            have p163 : 0 ≤ (x4_1 : Int) := of_decide_eq_true (by first | (with_reducible assumption) | assumption)
            have q163 : x4_1 < (l0.length : Int) := of_decide_eq_true (by first | (with_reducible assumption) | assumption)
            obtain ⟨ad163, e163, hx163_0⟩ := Kd.at_int HR0.out x4_1 p163 q163
            cases e163
            replace p163 := eq_true p163
            replace q163 := eq_true q163
            go_wp2
            go_roundg k1
            case measure => have := HK1.out; omega
            case rel => exact ⟨(wrap64 ((wrap64 (3 * x3_1)) + (rd l0 x4_1))), (wrap64 (x4_1 - 1)), (by first | rfl | (simp; done) | (simp [*]; done)), (by first | rfl | (simp; done) | (simp [*]; done)), H', ⟨by have := HK1.out; omega⟩, by repeat (first | exact Drawn0.refl _ | apply Drawn0.step)⟩
          · rw [if_neg c4] at H
            exact absurd H (by simp)
        · rw [if_neg c3] at H
          exact absurd H (by simp)
      · rw [if_neg c2] at H
        have c2b0 : decide (0 ≤ x4_1) = false := decide_eq_false c2
        clear c2
        obtain rfl := Option.some.inj H
        go_wp2
        go_ret
        exact ⟨by first | rfl | (simp; done) | (simp [*]; done), by repeat (first | exact Drawn0.refl _ | apply Drawn0.step)⟩

/-! ### spec_ValueOf: function 39 -/
def spec_ValueOf.f (k : Nat) (l0 : List Int) : Option (Int) := (spec_IsWord.f k l0).bind fun t164 => (if t164 = true then ((spec_l2Value.f k l0).bind fun t165 => (some t165)) else (some 0))
theorem spec_ValueOf.mono : ∀ a0 k, LeO (spec_ValueOf.f k a0) (spec_ValueOf.f (k + 1) a0) := by
  intro a0 k
  unfold spec_ValueOf.f
  repeat' first
      | (with_reducible exact spec_IsWord.mono _ _)
      | (with_reducible exact spec_l2Value.mono _ _)
      | (with_reducible exact LeO.refl _)
      | (with_reducible exact LeO.none _)
      | (with_reducible refine LeO.ite ?_ ?_)
      | (with_reducible refine LeO.bind ?_ (fun _ => ?_))
      | exact spec_IsWord.mono _ _
      | exact spec_l2Value.mono _ _
      | exact LeO.none _
      | refine LeO.ite ?_ ?_
      | refine LeO.bind ?_ (fun _ => ?_)
set_option maxHeartbeats 8000000 in
set_option maxRecDepth 100000 in
theorem spec_ValueOf.calls (k : Nat) (A0 : Option Addr) (c0 : Nat) (l0 : List Int) (r : Int) (w : World) (hr0 : Kd.C (Kd.int .i64) w A0 l0.length l0) (hc0 : l0.length ≤ c0) (h : spec_ValueOf.f k l0 = some r) :
    Calls Try.prog 39 #[.slice A0 l0.length c0] w fun e w' => e = .returned (.int .i64 r) ∧ Drawn0 w w' := by
  have HR0 := Aside0.mk hr0
  have HC0 := Aside0.mk hc0
  clear hr0 hc0
  have H : ((spec_IsWord.f k l0).bind fun t164 => (if t164 = true then ((spec_l2Value.f k l0).bind fun t165 => (some t165)) else (some 0))) = some r := h
  clear h
  replace H := Option.bind_eq_some_iff.mp H
  obtain ⟨t164, A20, H⟩ := H
  replace H : (if t164 = true then ((spec_l2Value.f k l0).bind fun t165 => (some t165)) else (some 0)) = some r := H
  have A2 := Aside0.mk A20
  clear A20
  by_cases c3 : t164 = true
  · (try subst c3)
    have H1 : ((spec_l2Value.f k l0).bind fun t165 => (some t165)) = some r := by rw [if_pos rfl] at H; exact H
    clear H
    have H := H1
    clear H1
    replace H := Option.bind_eq_some_iff.mp H
    obtain ⟨t165, A40, H⟩ := H
    replace H : (some t165) = some r := H
    have A4 := Aside0.mk A40
    clear A40
    obtain rfl := Option.some.inj H
    go_enter Try.func39, Try.ntmps39
    go_wp2_with (first | ((with_reducible refine gate_callee (f := 38) rfl ?_); refine goesL_ (some 4) rfl rfl Try.func38 (by kernel_rfl) rfl #[.slice A0 l0.length c0] rfl (by (try simp only [List.map_toArray, List.map_cons, List.map_nil]); first | done | rfl | (simp only [List.length_drop, List.length_take]; rfl)) ?_; (with_reducible refine (spec_IsWord.calls k _ _ l0 true _ ?side1 ?side2 A2.out).mono ?_); (case side1 => repeat (first | exact HR0.out | (with_reducible refine Kd.C_alloc ?_ _) | (with_reducible refine Kd.C_drewN ?_ _) | (with_reducible refine Kd.C_drew ?_))); (case side2 => exact HC0.out); rintro e w' ⟨rfl, ⟨nd, rfl⟩⟩; refine ⟨_, rfl, ?_⟩) | ((with_reducible refine gate_callee (f := 81) rfl ?_); refine goesL_ (some 7) rfl rfl Try.func81 (by kernel_rfl) rfl #[.slice A0 l0.length c0] rfl (by (try simp only [List.map_toArray, List.map_cons, List.map_nil]); first | done | rfl | (simp only [List.length_drop, List.length_take]; rfl)) ?_; (with_reducible refine (spec_l2Value.calls k _ _ l0 t165 _ ?side1 ?side2 A4.out).mono ?_); (case side1 => repeat (first | exact HR0.out | (with_reducible refine Kd.C_alloc ?_ _) | (with_reducible refine Kd.C_drewN ?_ _) | (with_reducible refine Kd.C_drew ?_))); (case side2 => exact HC0.out); rintro e w' ⟨rfl, ⟨nd, rfl⟩⟩; refine ⟨_, rfl, ?_⟩))
    go_ret
    exact ⟨by first | rfl | (simp; done) | (simp [*]; done), by repeat (first | exact Drawn0.refl _ | apply Drawn0.step)⟩
  · replace c3 := Bool.eq_false_iff.mpr c3
    (try subst c3)
    have H1 : (some 0) = some r := by rw [if_neg (show ¬ (false = true) by decide)] at H; exact H
    clear H
    have H := H1
    clear H1
    obtain rfl := Option.some.inj H
    go_enter Try.func39, Try.ntmps39
    go_wp2_with (first | ((with_reducible refine gate_callee (f := 38) rfl ?_); refine goesL_ (some 4) rfl rfl Try.func38 (by kernel_rfl) rfl #[.slice A0 l0.length c0] rfl (by (try simp only [List.map_toArray, List.map_cons, List.map_nil]); first | done | rfl | (simp only [List.length_drop, List.length_take]; rfl)) ?_; (with_reducible refine (spec_IsWord.calls k _ _ l0 false _ ?side1 ?side2 A2.out).mono ?_); (case side1 => repeat (first | exact HR0.out | (with_reducible refine Kd.C_alloc ?_ _) | (with_reducible refine Kd.C_drewN ?_ _) | (with_reducible refine Kd.C_drew ?_))); (case side2 => exact HC0.out); rintro e w' ⟨rfl, ⟨nd, rfl⟩⟩; refine ⟨_, rfl, ?_⟩))
    go_ret
    exact ⟨by first | rfl | (simp; done) | (simp [*]; done), by repeat (first | exact Drawn0.refl _ | apply Drawn0.step)⟩

/-! ### spec_LimitOf: function 40 -/
def spec_LimitOf.l0 : Nat → Int → Int → Int → Option (Int)
  | 0, _, _, _ => none
  | k + 1, x0, x3, x4 => if x4 < x0 then (spec_LimitOf.l0 k x0 (wrap64 ((wrap64 (3 * x3)) + 1)) (wrap64 (x4 + 1))) else (some x3)
def spec_LimitOf.f (k : Nat) (a0 : Int) : Option (Int) := (spec_l1In.f a0 1 30).bind fun t166 => (if t166 = true then (spec_LimitOf.l0 k a0 0 0) else (some 0))
theorem spec_LimitOf.mono_l : ∀ k, (∀ y0 y1 y2, LeO (spec_LimitOf.l0 k y0 y1 y2) (spec_LimitOf.l0 (k + 1) y0 y1 y2))
  | 0 => fun _ _ _ r h => by simp [spec_LimitOf.l0] at h
  | k + 1 => by
    have ih0 := spec_LimitOf.mono_l k
    · intro y0 y1 y2
      unfold spec_LimitOf.l0
      repeat' first
      | (with_reducible exact ih0 _ _ _)
      | (with_reducible exact LeO.refl _)
      | (with_reducible exact LeO.none _)
      | (with_reducible refine LeO.ite ?_ ?_)
      | (with_reducible refine LeO.bind ?_ (fun _ => ?_))
      | exact ih0 _ _ _
      | exact LeO.none _
      | refine LeO.ite ?_ ?_
      | refine LeO.bind ?_ (fun _ => ?_)
theorem spec_LimitOf.mono : ∀ a0 k, LeO (spec_LimitOf.f k a0) (spec_LimitOf.f (k + 1) a0) := by
  intro a0 k
  have ih0 := spec_LimitOf.mono_l k
  unfold spec_LimitOf.f
  repeat' first
      | (with_reducible exact ih0 _ _ _)
      | (with_reducible exact LeO.refl _)
      | (with_reducible exact LeO.none _)
      | (with_reducible refine LeO.ite ?_ ?_)
      | (with_reducible refine LeO.bind ?_ (fun _ => ?_))
      | exact ih0 _ _ _
      | exact LeO.none _
      | refine LeO.ite ?_ ?_
      | refine LeO.bind ?_ (fun _ => ?_)
set_option maxHeartbeats 8000000 in
set_option maxRecDepth 100000 in
theorem spec_LimitOf.calls (k : Nat) (a0 : Int) (r : Int) (w : World) (h : spec_LimitOf.f k a0 = some r) :
    Calls Try.prog 40 #[.int .i64 a0] w fun e w' => e = .returned (.int .i64 r) ∧ Drawn0 w w' := by
  have H : ((spec_l1In.f a0 1 30).bind fun t166 => (if t166 = true then (spec_LimitOf.l0 k a0 0 0) else (some 0))) = some r := h
  clear h
  replace H := Option.bind_eq_some_iff.mp H
  obtain ⟨t166, A20, H⟩ := H
  replace H : (if t166 = true then (spec_LimitOf.l0 k a0 0 0) else (some 0)) = some r := H
  have A2 := Aside0.mk A20
  clear A20
  by_cases c3 : t166 = true
  · (try subst c3)
    have H1 : (spec_LimitOf.l0 k a0 0 0) = some r := by rw [if_pos rfl] at H; exact H
    clear H
    have H := H1
    clear H1
    have H' := Aside0.mk H
    clear H
    go_enter Try.func40, Try.ntmps40
    go_wp2_with (first | ((with_reducible refine gate_callee (f := 65) rfl ?_); refine goesL_ (some 6) rfl rfl Try.func65 (by kernel_rfl) rfl #[.int .i64 a0, .int .i64 1, .int .i64 30] rfl (by (try simp only [List.map_toArray, List.map_cons, List.map_nil]); first | done | rfl | (simp only [List.length_drop, List.length_take]; rfl)) ?_; (with_reducible refine (spec_l1In.calls a0 1 30 true _ A2.out).mono ?_); rintro e w' ⟨rfl, ⟨nd, rfl⟩⟩; refine ⟨_, rfl, ?_⟩))
    go_loopg [3, 4] k (fun kq v3 v4 w' => ∃ (x3_1 : Int) (x4_1 : Int), v3 = .int .i64 x3_1 ∧ v4 = .int .i64 x4_1 ∧ Aside0 (spec_LimitOf.l0 kq a0 x3_1 x4_1 = some r) ∧ Aside0 (kq ≤ k) ∧ Drawn0 w w')
    case atStart => exact ⟨(0), (0), (by first | rfl | (simp; done) | (simp [*]; done)), (by first | rfl | (simp; done) | (simp [*]; done)), H', ⟨Nat.le_refl _⟩, by repeat (first | exact Drawn0.refl _ | apply Drawn0.step)⟩
    case round =>
      clear H'
      try clear p2
      try clear c3
      obtain ⟨x3_1, x4_1, rfl, rfl, HA, HK1, ⟨m1, rfl⟩⟩ := hrel
      cases gk with
      | zero => exact absurd HA.out (by simp [spec_LimitOf.l0])
      | succ k1 =>
        have H := HA.out
        clear HA
        simp only [spec_LimitOf.l0] at H
        by_cases c4 : x4_1 < a0
        · rw [if_pos c4] at H
          have c4b0 : decide (x4_1 < a0) = true := decide_eq_true c4
          clear c4
          have H' := Aside0.mk H
          clear H
          go_wp2
          go_roundg k1
          case measure => have := HK1.out; omega
          case rel => exact ⟨(wrap64 ((wrap64 (3 * x3_1)) + 1)), (wrap64 (x4_1 + 1)), (by first | rfl | (simp; done) | (simp [*]; done)), (by first | rfl | (simp; done) | (simp [*]; done)), H', ⟨by have := HK1.out; omega⟩, by repeat (first | exact Drawn0.refl _ | apply Drawn0.step)⟩
        · rw [if_neg c4] at H
          have c4b0 : decide (x4_1 < a0) = false := decide_eq_false c4
          clear c4
          obtain rfl := Option.some.inj H
          go_wp2
          go_ret
          exact ⟨by first | rfl | (simp; done) | (simp [*]; done), by repeat (first | exact Drawn0.refl _ | apply Drawn0.step)⟩
  · replace c3 := Bool.eq_false_iff.mpr c3
    (try subst c3)
    have H1 : (some 0) = some r := by rw [if_neg (show ¬ (false = true) by decide)] at H; exact H
    clear H
    have H := H1
    clear H1
    obtain rfl := Option.some.inj H
    go_enter Try.func40, Try.ntmps40
    go_wp2_with (first | ((with_reducible refine gate_callee (f := 65) rfl ?_); refine goesL_ (some 6) rfl rfl Try.func65 (by kernel_rfl) rfl #[.int .i64 a0, .int .i64 1, .int .i64 30] rfl (by (try simp only [List.map_toArray, List.map_cons, List.map_nil]); first | done | rfl | (simp only [List.length_drop, List.length_take]; rfl)) ?_; (with_reducible refine (spec_l1In.calls a0 1 30 false _ A2.out).mono ?_); rintro e w' ⟨rfl, ⟨nd, rfl⟩⟩; refine ⟨_, rfl, ?_⟩))
    go_ret
    exact ⟨by first | rfl | (simp; done) | (simp [*]; done), by repeat (first | exact Drawn0.refl _ | apply Drawn0.step)⟩

end Go.Proofs.Ytemcokpkgpnloaa.HFnCircle
