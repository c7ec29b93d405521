/- Text for FnBranched: written by a program of this session on the pattern of the kit's print. -/
import Derived.Test.YtlmiankjbffboaaHFnBranchedx0
import Derived.Test.YtlmiankjbffboaaHFnBranchedx1
import Derived.Test.YtlmiankjbffboaaHFnBranchedx2
import Derived.Test.YtlmiankjbffboaaHFnBranchedx3
namespace Go.Proofs.Ytlmiankjbffboaa.HFnBranched
open Go.RowKit Go.Proofs.YtlmiankjbffboaaW.PrintWords Go.Proofs.YtlmiankjbffboaaW.PrintLast Go.Proofs.YtlmiankjbffboaaW.PrintMore
attribute [local go_sem] max2_int min2_int max_two min_two max_three min_three max_four min_four
set_option linter.unusedVariables false
set_option linter.unusedSimpArgs false

/-! ### impl_step: function 43 -/
def impl_step.nd (c : Int) : Nat := if c = 2 ∨ c = 3 ∨ c = 4 ∨ c = 8 ∨ c = 12 then 2 else if c = 5 ∨ c = 6 ∨ c = 7 ∨ c = 9 ∨ c = 10 ∨ c = 11 ∨ c = 14 then 1 else 0
def impl_step.go (k : Nat) (x : S48) (pc : Int) (st cl : List Int) (y a : Int) : Option (Int × Int × List Int × List Int) :=
 if x.f0 = 1 then some (0, pc + 1, st ++ [x.f1], cl)
 else if x.f0 = 2 then (impl_WrapCell.f k (wrap64 (a + y))).bind fun r => some (0, pc + 1, (st.set (st.length - 2) r).take (st.length - 1), cl)
 else if x.f0 = 3 then (impl_WrapCell.f k (wrap64 (a - y))).bind fun r => some (0, pc + 1, (st.set (st.length - 2) r).take (st.length - 1), cl)
 else if x.f0 = 4 then (impl_WrapCell.f k (wrap64 (a * y))).bind fun r => some (0, pc + 1, (st.set (st.length - 2) r).take (st.length - 1), cl)
 else if x.f0 = 5 then some (0, pc + 1, st.set (st.length - 1) (wrap64 (-y)), cl)
 else if x.f0 = 6 then (impl_SignOf.f y).bind fun r => some (0, pc + 1, st.set (st.length - 1) r, cl)
 else if x.f0 = 7 then some (0, pc + 1, st ++ [y], cl)
 else if x.f0 = 8 then some (0, pc + 1, (st.set (st.length - 2) y).set (st.length - 1) a, cl)
 else if x.f0 = 9 then some (0, pc + 1, st.take (st.length - 1), cl)
 else if x.f0 = 10 then (impl_shifted.f k y x.f1).bind fun r => some (0, pc + 1, st.set (st.length - 1) r, cl)
 else if x.f0 = 11 then some (0, pc + 1, st.set (st.length - 1) (rd cl (y + 13)), cl)
 else if x.f0 = 12 then some (0, pc + 1, st.take (st.length - 2), cl.set (y + 13).toNat a)
 else if x.f0 = 13 then some (0, x.f1, st, cl)
 else if x.f0 = 14 then (impl_SignOf.f y).bind fun r => some (0, if r = -1 then x.f1 else if r = 0 then x.f2 else x.f3, st.take (st.length - 1), cl)
 else none
theorem impl_step.go_mono (k : Nat) (x : S48) (pc : Int) (st cl : List Int) (y a : Int) : LeO (impl_step.go k x pc st cl y a) (impl_step.go (k + 1) x pc st cl y a) := by
 unfold impl_step.go
 repeat' first
  | (with_reducible exact LeO.refl _)
  | (with_reducible refine LeO.ite ?_ ?_)
  | (with_reducible refine LeO.bind ?_ (fun _ => ?_))
  | exact impl_WrapCell.mono _ _
  | exact impl_shifted.mono _ _ _
def impl_step.f (k : Nat) (l : List S48) (pc : Int) (st cl : List Int) : Option (Int × Int × List Int × List Int) :=
 if pc = (l.length : Int) then some (2, pc, st, cl)
 else if 0 ≤ pc ∧ pc < (l.length : Int) ∧ l.length ≤ 80 ∧ st.length ≤ 20 ∧ cl.length = 27 then
  if (rd_T48 l pc).f0 = 15 then some (1, pc, st, cl)
  else if st.length < impl_step.nd (rd_T48 l pc).f0 then some (3, pc, st, cl)
  else if st.length = 20 ∧ ((rd_T48 l pc).f0 = 1 ∨ (rd_T48 l pc).f0 = 7) then some (3, pc, st, cl)
  else if (rd_T48 l pc).f0 = 11 ∨ (rd_T48 l pc).f0 = 12 then (impl_size.f (rd st ((st.length : Int) - 1))).bind fun sz => if 13 < sz then some (4, pc, st, cl) else if -13 ≤ rd st ((st.length : Int) - 1) ∧ rd st ((st.length : Int) - 1) ≤ 13 then impl_step.go k (rd_T48 l pc) pc st cl (rd st ((st.length : Int) - 1)) (rd st ((st.length : Int) - 2)) else none
  else impl_step.go k (rd_T48 l pc) pc st cl (rd st ((st.length : Int) - 1)) (rd st ((st.length : Int) - 2))
 else none
theorem impl_step.mono : ∀ a b c d k, LeO (impl_step.f k a b c d) (impl_step.f (k + 1) a b c d) := fun a b c d k => LeO.ite (LeO.refl _) (LeO.ite (LeO.ite (LeO.refl _) (LeO.ite (LeO.refl _) (LeO.ite (LeO.refl _) (LeO.ite (LeO.bind (LeO.refl _) (fun _ => LeO.ite (LeO.refl _) (LeO.ite (impl_step.go_mono _ _ _ _ _ _ _) (LeO.refl _)))) (impl_step.go_mono _ _ _ _ _ _ _))))) (LeO.refl _))
/-- The machine in memory (block gm) and the operation that was copied (block gx). -/
structure impl_step.St (w0 W : World) (gm gx : Nat) (pc : Int) (vs vc : Value) (st cl : List Int) (a b c d : Int) : Prop where
 m : W.heap[gm]? = some (.cells #[.int .i64 pc, vs, vc] 28 (0, 0))
 x : W.heap[gx]? = some (.cells #[.int .i64 a, .int .i64 b, .int .i64 c, .int .i64 d] 48 (0, 0))
 s : Kd.R (Kd.int .i64) 3 W w0.heap.size (fun k_ => some k_ ≠ vc.ownBlock) vs st
 c : Kd.R (Kd.int .i64) 3 W w0.heap.size (fun k_ => some k_ ≠ vs.ownBlock) vc cl
 b : Below w0.heap.size w0 W
 gm : w0.heap.size ≤ gm
 gx : w0.heap.size ≤ gx
structure impl_step.Held (w0 w : World) (gm : Nat) (pc : Int) (vs vc : Value) (st cl : List Int) : Prop where
 m : w.heap[gm]? = some (.cells #[.int .i64 pc, vs, vc] 28 (0, 0))
 s : Kd.R (Kd.int .i64) 3 w w0.heap.size (fun k_ => some k_ ≠ vc.ownBlock) vs st
 c : Kd.R (Kd.int .i64) 3 w w0.heap.size (fun k_ => some k_ ≠ vs.ownBlock) vc cl
 b : Below w0.heap.size w0 w
 gm : w0.heap.size ≤ gm
section
variable {w0 W : World} {gm gx : Nat} {pc : Int} {vs vc : Value} {st cl : List Int} {a b c d : Int} {n gs cs : Nat}
theorem impl_step.St.held (h : impl_step.St w0 W gm gx pc vs vc st cl a b c d) : impl_step.Held w0 W gm pc vs vc st cl := ⟨h.m, h.s, h.c, h.b, h.gm⟩
theorem impl_step.St.mx (h : impl_step.St w0 W gm gx pc vs vc st cl a b c d) : gm ≠ gx := blk_ne h.m h.x (by decide)
theorem impl_step.St.start (h : impl_step.Held w0 W gm pc vs vc st cl) (n : Nat) (hn : n = W.heap.size) : impl_step.St w0 ((W.alloc (.cells #[.int .i64 a, .int .i64 b, .int .i64 c, .int .i64 d] 48)).drew) gm n pc vs vc st cl a b c d := by
 subst hn
 exact ⟨blk_drew (blk_alloc h.m _), blk_drew (blk_new _ _), Kd.R_drew (Kd.R_alloc h.s _), Kd.R_drew (Kd.R_alloc h.c _), below_drew1 (below_alloc h.b _), h.gm, Nat.le_trans h.gm (Nat.le_of_lt (blk_lt h.m))⟩
theorem impl_step.St.drewN (h : impl_step.St w0 W gm gx pc vs vc st cl a b c d) (n : Nat) : impl_step.St w0 (W.drewN n) gm gx pc vs vc st cl a b c d := ⟨blk_drewN h.m n, blk_drewN h.x n, Kd.R_drewN h.s n, Kd.R_drewN h.c n, pw_below_drewN h.b n, h.gm, h.gx⟩
theorem impl_step.St.drew (h : impl_step.St w0 W gm gx pc vs vc st cl a b c d) : impl_step.St w0 W.drew gm gx pc vs vc st cl a b c d := ⟨blk_drew h.m, blk_drew h.x, Kd.R_drew h.s, Kd.R_drew h.c, below_drew1 h.b, h.gm, h.gx⟩
theorem impl_step.St.below {W' : World} (h : impl_step.St w0 W gm gx pc vs vc st cl a b c d) (hb : Below W.heap.size W W') : impl_step.St w0 W' gm gx pc vs vc st cl a b c d := ⟨blk_below h.m hb, blk_below h.x hb, Kd.R_below h.s hb, Kd.R_below h.c hb, below_step h.b hb, h.gm, h.gx⟩
theorem impl_step.St.alloc (h : impl_step.St w0 W gm gx pc vs vc st cl a b c d) (o : Obj) : impl_step.St w0 (W.alloc o) gm gx pc vs vc st cl a b c d := h.below (below_alloc (Below.refl _ _) o)
theorem impl_step.St.pc' (h : impl_step.St w0 W gm gx pc vs vc st cl a b c d) (p : Int) : impl_step.St w0 (W.setCell ⟨gm, 0, none⟩ (.int .i64 p)) gm gx p vs vc st cl a b c d :=
 ⟨blk_put h.m 0 _ rfl, blk_far h.x (fun e => h.mx e.symm) _, Kd.R_set h.s h.m (by decide) 0 _, Kd.R_set h.c h.m (by decide) 0 _, below_set h.b h.gm, h.gm, h.gx⟩
theorem impl_step.St.vs' (h : impl_step.St w0 W gm gx pc vs vc st cl a b c d) {vs' : Value} {st' : List Int} (hs : Kd.R (Kd.int .i64) 3 W w0.heap.size (fun k_ => some k_ ≠ vc.ownBlock) vs' st') (hc : Kd.R (Kd.int .i64) 3 W w0.heap.size (fun k_ => some k_ ≠ vs'.ownBlock) vc cl) : impl_step.St w0 (W.setCell ⟨gm, 1, none⟩ vs') gm gx pc vs' vc st' cl a b c d :=
 ⟨blk_put h.m 1 _ rfl, blk_far h.x (fun e => h.mx e.symm) _, Kd.R_set hs h.m (by decide) 1 _, Kd.R_set hc h.m (by decide) 1 _, below_set h.b h.gm, h.gm, h.gx⟩
theorem impl_step.St.fresh (h : impl_step.St w0 W gm gx pc vs vc st cl a b c d) : ∀ k, W.heap.size ≤ k → some k ≠ vc.ownBlock := fun k hk e => by have := Kd.R_lt h.c k e.symm; omega
theorem impl_step.St.grown {W1 : World} {v1 : Value} {st1 : List Int} (h : impl_step.St w0 W gm gx pc vs vc st cl a b c d) (hR : Kd.R (Kd.int .i64) 3 W1 w0.heap.size (fun k_ => some k_ ≠ vc.ownBlock) v1 st1) (hb : Below w0.heap.size w0 W1) (hg : W.grownBy W1 vs.ownBlock) (hat : v1.ownBlock = vs.ownBlock ∨ ∃ b, v1.ownBlock = some b ∧ W.heap.size ≤ b) :
  (W1.cell? ⟨gm, 1, none⟩ = some vs ∧ W1.frozen? ⟨gm, 1, none⟩ = false) ∧ W1.cell? ⟨gx, 0, none⟩ = some (.int .i64 a) ∧ W1.cell? ⟨gx, 1, none⟩ = some (.int .i64 b) ∧ impl_step.St w0 (W1.setCell ⟨gm, 1, none⟩ v1) gm gx pc v1 vc st1 cl a b c d := by
 have m1 := blk_grown h.m hg (Kd.R_ne h.s h.m (by decide))
 have x1 := blk_grown h.x hg (Kd.R_ne h.s h.x (by decide))
 have c1 : Kd.R (Kd.int .i64) 3 W1 w0.heap.size (fun k_ => some k_ ≠ v1.ownBlock) vc cl := Kd.R_mono (Kd.R_after (ok := fun _ => True) (Kd.R_mono h.c (fun k hk => ⟨trivial, hk⟩)) hg hat) (fun k hk => hk.2)
 exact ⟨⟨(blk_cell m1 1).trans rfl, blk_frozen m1 1⟩, (blk_cell x1 0).trans rfl, (blk_cell x1 1).trans rfl, blk_put m1 1 _ rfl, blk_far x1 (fun e => h.mx e.symm) _, Kd.R_set hR m1 (by decide) 1 _, Kd.R_set c1 m1 (by decide) 1 _, below_set hb h.gm, h.gm, h.gx⟩
theorem impl_step.St.put (h : impl_step.St w0 W gm gx pc (.slice (some ⟨gs, 0, none⟩) n cs) vc st cl a b c d) (i : Int) (x : Int) : impl_step.St w0 (W.setCell ⟨gs, i.toNat, none⟩ (.int .i64 x)) gm gx pc (.slice (some ⟨gs, 0, none⟩) n cs) vc (st.set i.toNat x) cl a b c d := by
 have e1 : gm ≠ gs := fun e => Kd.R_ne h.s h.m (by decide) (by rw [e]; rfl)
 have e2 : gx ≠ gs := fun e => Kd.R_ne h.s h.x (by decide) (by rw [e]; rfl)
 have hg : w0.heap.size ≤ gs := Kd.R_base h.s gs rfl
 exact ⟨blk_far h.m e1 _, blk_far h.x e2 _, Kd.R_putn h.s i x, Kd.R_far (p := ⟨gs, i.toNat, none⟩) h.c (fun k hk e => hk (by rw [e]; rfl)) _, below_set h.b hg, h.gm, h.gx⟩
theorem impl_step.St.putc (h : impl_step.St w0 W gm gx pc vs (.slice (some ⟨gs, 0, none⟩) n cs) st cl a b c d) (i : Int) (x : Int) : impl_step.St w0 (W.setCell ⟨gs, i.toNat, none⟩ (.int .i64 x)) gm gx pc vs (.slice (some ⟨gs, 0, none⟩) n cs) st (cl.set i.toNat x) a b c d := by
 have e1 : gm ≠ gs := fun e => Kd.R_ne h.c h.m (by decide) (by rw [e]; rfl)
 have e2 : gx ≠ gs := fun e => Kd.R_ne h.c h.x (by decide) (by rw [e]; rfl)
 have hg : w0.heap.size ≤ gs := Kd.R_base h.c gs rfl
 exact ⟨blk_far h.m e1 _, blk_far h.x e2 _, Kd.R_far (p := ⟨gs, i.toNat, none⟩) h.s (fun k hk e => hk (by rw [e]; rfl)) _, Kd.R_putn h.c i x, below_set h.b hg, h.gm, h.gx⟩
theorem impl_step.St.cut {A : Option Addr} (h : impl_step.St w0 W gm gx pc (.slice A n cs) vc st cl a b c d) (m : Nat) (hm : m ≤ st.length) : impl_step.St w0 (W.setCell ⟨gm, 1, none⟩ (.slice A m cs)) gm gx pc (.slice A m cs) vc (st.take m) cl a b c d :=
 h.vs' (Kd.R_take h.s hm) (Kd.R_mono h.c (fun k hk e => hk (e.trans (by cases A <;> rfl))))
theorem impl_step.St.at (h : impl_step.St w0 W gm gx pc (.slice (some ⟨gs, 0, none⟩) n cs) vc st cl a b c d) (i : Int) (h0 : 0 ≤ i) (h1 : i < st.length) : W.cell? ⟨gs, i.toNat, none⟩ = some (.int .i64 (rd st i)) ∧ W.frozen? ⟨gs, i.toNat, none⟩ = false := by
 have e := (Kd.R_reads' h.s).1
 exact Kd.R_celln 0 h.s i h0 (by omega)
theorem impl_step.St.atc (h : impl_step.St w0 W gm gx pc vs (.slice (some ⟨gs, 0, none⟩) n cs) st cl a b c d) (i : Int) (h0 : 0 ≤ i) (h1 : i < cl.length) : W.cell? ⟨gs, i.toNat, none⟩ = some (.int .i64 (rd cl i)) ∧ W.frozen? ⟨gs, i.toNat, none⟩ = false := by
 have e := (Kd.R_reads' h.c).1
 exact Kd.R_celln 0 h.c i h0 (by omega)
theorem impl_step.St.ns (h : impl_step.St w0 W gm gx pc (.slice (some ⟨gs, 0, none⟩) n cs) vc st cl a b c d) : (gm ≠ gs ∧ gs ≠ gm) ∧ gx ≠ gs ∧ gs ≠ gx := by
 have e1 : gm ≠ gs := fun e => Kd.R_ne h.s h.m (by decide) (by rw [e]; rfl)
 have e2 : gx ≠ gs := fun e => Kd.R_ne h.s h.x (by decide) (by rw [e]; rfl)
 exact ⟨⟨e1, e1.symm⟩, e2, e2.symm⟩
theorem impl_step.St.nc (h : impl_step.St w0 W gm gx pc vs (.slice (some ⟨gs, 0, none⟩) n cs) st cl a b c d) : (gm ≠ gs ∧ gs ≠ gm) ∧ gx ≠ gs ∧ gs ≠ gx := by
 have e1 : gm ≠ gs := fun e => Kd.R_ne h.c h.m (by decide) (by rw [e]; rfl)
 have e2 : gx ≠ gs := fun e => Kd.R_ne h.c h.x (by decide) (by rw [e]; rfl)
 exact ⟨⟨e1, e1.symm⟩, e2, e2.symm⟩
theorem impl_step.St.sc {gc n2 c2 : Nat} (h : impl_step.St w0 W gm gx pc (.slice (some ⟨gs, 0, none⟩) n cs) (.slice (some ⟨gc, 0, none⟩) n2 c2) st cl a b c d) : gs ≠ gc ∧ gc ≠ gs := by
 have e1 : gs ≠ gc := fun e => h.s.1 gs rfl (by rw [e]; rfl)
 exact ⟨e1, e1.symm⟩
theorem impl_step.St.cells (h : impl_step.St w0 W gm gx pc vs vc st cl a b c d) : W.cell? ⟨gm, 0, none⟩ = some (.int .i64 pc) ∧ W.cell? ⟨gm, 1, none⟩ = some vs ∧ W.cell? ⟨gm, 2, none⟩ = some vc ∧ W.frozen? ⟨gm, 0, none⟩ = false ∧ W.frozen? ⟨gm, 1, none⟩ = false ∧ W.cell? ⟨gx, 0, none⟩ = some (.int .i64 a) ∧ W.cell? ⟨gx, 1, none⟩ = some (.int .i64 b) ∧ W.cell? ⟨gx, 2, none⟩ = some (.int .i64 c) ∧ W.cell? ⟨gx, 3, none⟩ = some (.int .i64 d) :=
 ⟨(blk_cell h.m 0).trans rfl, (blk_cell h.m 1).trans rfl, (blk_cell h.m 2).trans rfl, blk_frozen h.m 0, blk_frozen h.m 1, (blk_cell h.x 0).trans rfl, (blk_cell h.x 1).trans rfl, (blk_cell h.x 2).trans rfl, (blk_cell h.x 3).trans rfl⟩
end
theorem impl_step.app {P : Program} {ops : Array Oper} {o : Oper} {a : Act} {Kc : Act → World → Prop} {Q : Exit → Act → World → Prop} {E : Prop} {w0 W W' : World} {p : Int} (hw : Region.wanted o (yielded ops a.tmps) = true) (s x : Operand) (t : TypeId) (hW : W' = W.alloc (.cells #[.int .i64 p] 3))
  (ho : o.op = .call { callee := .builtin .append, args := #[s, x], argTypes := #[t, t] }) (ht : P.underlying t = some (.slice 3)) (hinfo : (P.info? 3).map (fun i => (i.zero, i.size, i.bytes)) = some (some (.int .i64 0), 1, 8))
  (v : Value) (xs : List Int) (ok : Nat → Prop) (hs : a.eval s = v) (hx : a.eval x = .slice (some ⟨W.heap.size, 0, none⟩) 1 1) (hfresh : ∀ k, W.heap.size ≤ k → ok k)
  (HO : Kd.R (Kd.int .i64) 3 W w0.heap.size ok v xs) (HB : Below w0.heap.size w0 W) (hl : xs.length ≤ 1000000)
  (h : ∀ v1 w1, Kd.R (Kd.int .i64) 3 w1 w0.heap.size ok v1 (xs ++ [p]) → Below w0.heap.size w0 w1 → W.grownBy w1 v.ownBlock → (v1.ownBlock = v.ownBlock ∨ ∃ b, v1.ownBlock = some b ∧ W.heap.size ≤ b) → Kc (a.put o.dst v1) w1) :
  if Region.wanted o (yielded ops a.tmps) = true then Oper.wp P o a W' Kc Q else E := by
 subst hW
 have h1 := Kd.R_append_step (P := P) (ops := ops) (o := o) (a := a) (Q := Q) (Kc := Kc) (Kd.int .i64) (w0 := w0) (W := W) w0.heap.size hw s x t 3 (.int .i64 0) 8 ho ht hinfo rfl (by decide) (by omega) v xs p [.int .i64 p] ok (fun _ => False) hs hx rfl (fun _ hk => hk.elim) hfresh HO HB HB.size (by omega) h
 rw [if_pos hw] at h1 ⊢
 exact h1
theorem impl_step.idx (xa xb xc : Int) : (∀ W : World, (Instr.index 85 (.agg #[.int .i64 xa, .int .i64 xb, .int .i64 xc]) (.int .i64 (IntKind.i64.wrap 0))).run Try.prog W = .ok (.int .i64 xa) W) ∧ (∀ W : World, (Instr.index 85 (.agg #[.int .i64 xa, .int .i64 xb, .int .i64 xc]) (.int .i64 (IntKind.i64.wrap 1))).run Try.prog W = .ok (.int .i64 xb) W) ∧ (∀ W : World, (Instr.index 85 (.agg #[.int .i64 xa, .int .i64 xb, .int .i64 xc]) (.int .i64 (IntKind.i64.wrap 2))).run Try.prog W = .ok (.int .i64 xc) W) := by
 have hu := Try.underlying85
 have e0 : IntKind.i64.wrap 0 = 0 := by decide
 have e1 : IntKind.i64.wrap 1 = 1 := by decide
 have e2 : IntKind.i64.wrap 2 = 2 := by decide
 rw [e0, e1, e2]
 refine ⟨fun W => ?_, fun W => ?_, fun W => ?_⟩ <;> simp [Instr.index, run_underlying hu, asIntOf, go_sem]
theorem impl_step.need (k : Nat) : impl_needs.f (k + 1) 1 = some 0 ∧ impl_needs.f (k + 1) 2 = some 2 ∧ impl_needs.f (k + 1) 3 = some 2 ∧ impl_needs.f (k + 1) 4 = some 2 ∧ impl_needs.f (k + 1) 5 = some 1 ∧ impl_needs.f (k + 1) 6 = some 1 ∧ impl_needs.f (k + 1) 7 = some 1 ∧ impl_needs.f (k + 1) 8 = some 2 ∧ impl_needs.f (k + 1) 9 = some 1 ∧ impl_needs.f (k + 1) 10 = some 1 ∧ impl_needs.f (k + 1) 11 = some 1 ∧ impl_needs.f (k + 1) 12 = some 2 ∧ impl_needs.f (k + 1) 13 = some 0 ∧ impl_needs.f (k + 1) 14 = some 1 := by
 refine ⟨?_, ?_, ?_, ?_, ?_, ?_, ?_, ?_, ?_, ?_, ?_, ?_, ?_, ?_⟩ <;> simp [impl_needs.f, impl_needs.j0]
end Go.Proofs.Ytlmiankjbffboaa.HFnBranched
