/- Text for FnExprs: written by a program of this session on the pattern of the kit's print. -/
import Derived.Test.YtjfgcipbbcplmaaDoorProg
import Derived.Below
import Derived.Deep.Draws
import Derived.Deep.AppendLies
import Derived.Maps.AppendAt
import Derived.OwnWalk
import Derived.Laws.BytesArg
import Derived.Laws.MakeOwn
import Derived.Laws.OwnMore
import Derived.Deep.OwnRows
import Derived.Tactics
import Derived.Lib.ConvBytes
import Derived.Laws.Slices
import Derived.WalkKit
import Derived.KernelRfl
import Derived.RowKit3
import Derived.Deep.LoopGhost
import Derived.Deep.QuietTactic
import Derived.BigQuiet
import Derived.WideLaws
import Derived.Deep.DeepCutAuto
import Derived.Deep.CutBlock
import Derived.Deep.RegionHeld3
import Derived.Laws.Rows
import Derived.Lib.AppendStr
import Derived.ArgAppend
import Derived.Laws.IdiomCopy
import Derived.OrdersHeld
import Derived.Laws.BitsLemmas
import Derived.RowKit
import Derived.Lib.SliceRun
import Derived.Test.YtjfgcipbbcplmaaDoorQ
import Derived.Test.YtjfgcipbbcplmaaDoorAny
import Derived.Test.YtjfgcipbbcplmaaDoorHLdFnExprs
import Derived.Test.YtjfgcipbbcplmaaDoorWWords
import Derived.Test.YtjfgcipbbcplmaaDoorWLast
import Derived.Test.YtjfgcipbbcplmaaDoorWTab
import Derived.Test.YtjfgcipbbcplmaaDoorWQPut
import Derived.Test.YtjfgcipbbcplmaaDoorWApart
import Derived.Test.YtjfgcipbbcplmaaDoorWFoot
import Derived.Test.YtjfgcipbbcplmaaDoorWKept
import Derived.Test.YtjfgcipbbcplmaaDoorWShare
import Derived.Test.YtjfgcipbbcplmaaDoorWN
import Derived.Laws.StructEq
import Derived.Test.YtjfgcipbbcplmaaDoorWRepsOne
import Derived.Test.YtjfgcipbbcplmaaDoorWInv
import Derived.Test.YtjfgcipbbcplmaaDoorWGuard
import Derived.Test.YtjfgcipbbcplmaaDoorWNEv
import Derived.Test.YtjfgcipbbcplmaaDoorWMore
namespace Go.Proofs.YtjfgcipbbcplmaaDoor.HFnExprs
open Go.RowKit Go.Proofs.YtjfgcipbbcplmaaDoorW.PrintWords Go.Proofs.YtjfgcipbbcplmaaDoorW.PrintLast Go.Proofs.YtjfgcipbbcplmaaDoorW.PrintMore
attribute [local go_sem] max2_int min2_int max_two min_two max_three min_three max_four min_four
set_option linter.unusedVariables false
set_option linter.unusedSimpArgs false



def errW : Option Int → Value
 | none => .nilIface
 | some c => .iface 0 (.int .i64 c)
theorem errW_none : errW none = .nilIface := rfl
theorem errW_some (c : Int) : errW (some c) = .iface 0 (.int .i64 c) := rfl

theorem info3 : (Tryd.prog.info? 3).map (fun i => (i.zero, i.size, i.bytes)) = some (some (.int .i64 0), 1, 8) := by kernel_rfl
theorem info25 : (Tryd.prog.info? 25).map (fun i => (i.zero, i.size, i.bytes)) = some (some (.agg #[(.int .i64 0), (.int .i64 0), (.slice none 0 0)]), 3, 40) := by kernel_rfl
-- the values' own types
theorem U_0 {p : Prop} (h : p := by refine (Kd.N_reads' (e := 25) (base := w.heap.size) (ok := fun k_ => (((((True ∧ k_ ≠ gb749) ∧ some k_ ≠ (.slice Ao19 t753.length co19 : Value).ownBlock) ∧ k_ ≠ gb757) ∧ some k_ ≠ (.slice Ao25 t760.length co25 : Value).ownBlock) ∧ k_ ≠ gb764)) (n := t746.length) (c := co13) ?_).2.2; exact T_16) : p := h
theorem U_1 {p : Prop} (h : p := by refine (Kd.N_reads' (e := 25) (base := w.heap.size) (ok := fun k_ => ((((some k_ ≠ (.slice Ao13 t746.length co13 : Value).ownBlock ∧ k_ ≠ gb749) ∧ k_ ≠ gb757) ∧ some k_ ≠ (.slice Ao25 t760.length co25 : Value).ownBlock) ∧ k_ ≠ gb764)) (n := t753.length) (c := co19) ?_).2.2; exact T_17) : p := h
theorem U_2 {p : Prop} (h : p := by repeat (first | (with_reducible first | exact HI0.out | apply IsS68.alloc | apply IsS68.drewN | apply IsS68.drew | apply IsS68.set_0 | apply IsS68.set_1 | apply IsS68.set_2 | refine IsS68.farc ?_ NB0_533.out _ | apply IsS68.farc (hne := NB0_533.out) | refine IsS68.farc ?_ NB0_542.out _ | apply IsS68.farc (hne := NB0_542.out) | apply IsS68.farc (hne := NB0_542.out)) | exact HI0.out)) : p := h
theorem U_3 {p : Prop} (h : p := by repeat (first | (with_reducible first | exact HI0.out | apply IsS68.alloc | apply IsS68.drewN | apply IsS68.drew | apply IsS68.set_0 | apply IsS68.set_1 | apply IsS68.set_2 | refine IsS68.farc ?_ NB0_558.out _ | apply IsS68.farc (hne := NB0_558.out) | refine IsS68.farc ?_ NB0_567.out _ | apply IsS68.farc (hne := NB0_567.out) | apply IsS68.farc (hne := NB0_567.out)) | exact HI0.out)) : p := h
theorem U_4 {p : Prop} (h : p := by repeat (first | (with_reducible first | exact HI0.out | apply IsS68.alloc | apply IsS68.drewN | apply IsS68.drew | apply IsS68.set_0 | apply IsS68.set_1 | apply IsS68.set_2 | refine IsS68.farc ?_ NB0_473.out _ | apply IsS68.farc (hne := NB0_473.out) | apply IsS68.farc (hne := NB0_473.out)) | exact HI0.out)) : p := h
theorem U_5 {p : Prop} (h : p := by repeat (first | (with_reducible first | exact HB.out | apply below_alloc | apply pw_below_drewN | apply below_drew1 | refine below_set ?_ (IsS68.ge HI0.out) | refine below_set ?_ GE533.out | refine below_set ?_ GE542.out) | exact HB.out)) : p := h
theorem U_6 {p : Prop} (h : p := by repeat (first | (with_reducible first | exact HB.out | apply below_alloc | apply pw_below_drewN | apply below_drew1 | refine below_set ?_ (IsS68.ge HI0.out) | refine below_set ?_ GE558.out | refine below_set ?_ GE567.out) | exact HB.out)) : p := h
theorem U_7 {p : Prop} (h : p := by exact ⟨hL.out.on T_31⟩) : p := h
theorem U_8 {p : Prop} (h : p := by repeat (first | (with_reducible first | exact HI0.out | apply IsS106.alloc | apply IsS106.drewN | apply IsS106.drew | apply IsS106.set_1 | apply IsS106.set_2 | refine IsS106.farc ?_ NB0_124.out _) | exact HI0.out)) : p := h
theorem U_9 {p : Prop} (h : p := by repeat (first | (with_reducible first | exact HB.out | apply below_alloc | apply pw_below_drewN | apply below_drew1 | refine below_set ?_ (IsS106.ge HI0.out) | refine below_set ?_ GE124.out) | exact HB.out)) : p := h
theorem U_10 {p : Prop} (h : p := by repeat (first | (with_reducible first | exact HB.out | apply below_alloc | apply pw_below_drewN | apply below_drew1 | refine below_set ?_ (IsS68.ge HI0.out) | refine below_set ?_ GE473.out) | exact HB.out)) : p := h
theorem U_11 {p : Prop} (h : p := by repeat (first | (with_reducible first | exact HI0.out | apply IsS68.alloc | apply IsS68.drewN | apply IsS68.drew | apply IsS68.set_0 | apply IsS68.set_1 | apply IsS68.set_2) | exact HI0.out)) : p := h
theorem U_12 {p : Prop} (h : p := by repeat (first | exact (Kd.N_reads' HO_750002.out).2.2 | (with_reducible refine Kd.C_alloc ?_ _) | (with_reducible refine Kd.C_drewN ?_ _) | (with_reducible refine Kd.C_drew ?_))) : p := h
theorem U_13 {p : Prop} (h : p := by repeat (first | (with_reducible first | exact HI0.out | apply IsS106.alloc | apply IsS106.drewN | apply IsS106.drew | apply IsS106.set_1 | apply IsS106.set_2) | exact HI0.out)) : p := h
theorem U_14 {p : Prop} (h : p := by repeat (first | exact (Kd.C_below HR0_2.out HB.out) | (with_reducible refine Kd.C_alloc ?_ _) | (with_reducible refine Kd.C_drewN ?_ _) | (with_reducible refine Kd.C_drew ?_))) : p := h
theorem U_15 {p : Prop} (h : p := by repeat (first | (with_reducible first | exact HB.out | apply below_alloc | apply pw_below_drewN | apply below_drew1 | refine below_set ?_ (IsS106.ge HI0.out)) | exact HB.out)) : p := h
theorem U_16 {p : Prop} (h : p := by repeat (first | exact (Kd.N_reads' HO762.out).2.2 | (with_reducible refine Kd.C_alloc ?_ _) | (with_reducible refine Kd.C_drewN ?_ _) | (with_reducible refine Kd.C_drew ?_))) : p := h
theorem U_17 {p : Prop} (h : p := by repeat (first | exact (Kd.N_reads' HO748.out).2.2 | (with_reducible refine Kd.C_alloc ?_ _) | (with_reducible refine Kd.C_drewN ?_ _) | (with_reducible refine Kd.C_drew ?_))) : p := h
theorem U_18 {p : Prop} (h : p := by repeat (first | exact (Kd.N_reads' HO772.out).2.2 | (with_reducible refine Kd.C_alloc ?_ _) | (with_reducible refine Kd.C_drewN ?_ _) | (with_reducible refine Kd.C_drew ?_))) : p := h
theorem U_19 {p : Prop} (h : p := by repeat (first | (with_reducible first | exact HB.out | apply below_alloc | apply pw_below_drewN | apply below_drew1 | refine below_set ?_ (IsS68.ge HI0.out)) | exact HB.out)) : p := h
theorem U_20 {p : Prop} (h : p := by repeat (first | exact (Kd.R_reads' HO_5.out).2.2 | (with_reducible refine Kd.C_alloc ?_ _) | (with_reducible refine Kd.C_drewN ?_ _) | (with_reducible refine Kd.C_drew ?_))) : p := h
theorem U_21 {p : Prop} (h : p := by repeat (first | exact HR0.out | (with_reducible refine Kd.C_alloc ?_ _) | (with_reducible refine Kd.C_drewN ?_ _) | (with_reducible refine Kd.C_drew ?_))) : p := h
theorem U_22 {p : Prop} (h : p := by exact (fun k_ hk => Nat.lt_of_lt_of_le (HP.out k_ hk) (below_drew1 HB.out).size)) : p := h
theorem U_23 {p : Prop} (h : p := by exact (fun k_ hk => Nat.lt_of_lt_of_le (HP.out k_ hk) HB.out.size)) : p := h
theorem U_24 {p : Prop} (h : p := by first | (go_simp; done) | (go_simp; rfl)) : p := h
theorem U_25 {p : Prop} (h : p := by exact Kd.C_below HR608_2.out (Qb HB.out)) : p := h
theorem U_26 {p : Prop} (h : p := by exact (Kd.N_reads' HO_750002.out).2.1) : p := h
theorem U_27 {p : Prop} (h : p := by exact (Kd.N_reads' HO748.out).2.1) : p := h
theorem U_28 {p : Prop} (h : p := by exact (below_size (Qb HB.out))) : p := h
theorem U_29 {p : Prop} (h : p := by exact ⟨hL.out.on (Qb HB.out)⟩) : p := h
theorem U_30 {p : Prop} (h : p := by exact HC0_2.out) : p := h
theorem T_61 {p : Prop} (h : p := by (have := HK1.out; omega)) : p := h
theorem T_60 {p : Prop} (h : p := by (have := HJ1.out; have := HJ7.out; have := HK3.out; omega)) : p := h
theorem T_59 {p : Prop} (h : p := by ((with_reducible repeat (first | apply Kd.N_alloc | apply Kd.N_drewN | apply Kd.N_drew)); exact HO779.out)) : p := h
theorem T_58 {p : Prop} (h : p := by ((with_reducible repeat (first | apply Kd.N_alloc | apply Kd.N_drewN | apply Kd.N_drew)); exact HO772.out)) : p := h
theorem T_57 {p : Prop} (h : p := by ((with_reducible repeat (first | apply Kd.N_alloc | apply Kd.N_drewN | apply Kd.N_drew)); exact HO762.out)) : p := h
theorem T_56 {p : Prop} (h : p := by ((with_reducible repeat (first | apply Kd.N_alloc | apply Kd.N_drewN | apply Kd.N_drew)); exact HO755.out)) : p := h
theorem T_55 {p : Prop} (h : p := by ((with_reducible repeat (first | apply Kd.N_alloc | apply Kd.N_drewN | apply Kd.N_drew)); exact HO748.out)) : p := h
theorem T_54 {p : Prop} (h : p := by ((with_reducible repeat (first | apply Kd.N_alloc | apply Kd.N_drewN | apply Kd.N_drew)); exact HO_568002.out)) : p := h
theorem T_53 {p : Prop} (h : p := by ((with_reducible repeat (first | apply Kd.N_alloc | apply Kd.N_drewN | apply Kd.N_drew)); exact HO_543002.out)) : p := h
theorem T_52 {p : Prop} (h : p := by ((with_reducible repeat (first | apply Kd.N_alloc | apply Kd.N_drewN | apply Kd.N_drew)); exact HO_765002.out)) : p := h
theorem T_51 {p : Prop} (h : p := by ((with_reducible repeat (first | apply Kd.N_alloc | apply Kd.N_drewN | apply Kd.N_drew)); exact HO_758002.out)) : p := h
theorem T_50 {p : Prop} (h : p := by ((with_reducible repeat (first | apply Kd.N_alloc | apply Kd.N_drewN | apply Kd.N_drew)); exact HO_750002.out)) : p := h
theorem T_49 {p : Prop} (h : p := by ((try simp only [List.map_toArray, List.map_cons, List.map_nil]); first | done | rfl | (simp only [List.length_drop, List.length_take]; rfl))) : p := h
theorem T_48 {p : Prop} (h : p := by (repeat (first | (with_reducible first | exact HK.out | apply KeepBut.set_ | apply keep_drewN | apply keep_drew | apply keep_alloc) | exact HK.out))) : p := h
theorem T_47 {p : Prop} (h : p := by (refine Qe ?_; refine blk_far ?_ NB774_781.out _; refine Qe ?_; refine blk_far ?_ NB774_781.out _; refine Qe ?_; refine blk_far ?_ NB774_781.out _; exact Qa BK774.out)) : p := h
theorem T_46 {p : Prop} (h : p := by (refine Qe ?_; refine blk_far ?_ NB764_781.out _; refine Qe ?_; refine blk_far ?_ NB764_781.out _; refine Qe ?_; refine blk_far ?_ NB764_781.out _; exact Qa BK764.out)) : p := h
theorem T_45 {p : Prop} (h : p := by (refine Qe ?_; refine blk_far ?_ NB757_781.out _; refine Qe ?_; refine blk_far ?_ NB757_781.out _; refine Qe ?_; refine blk_far ?_ NB757_781.out _; exact Qa BK757.out)) : p := h
theorem T_44 {p : Prop} (h : p := by (refine Qe ?_; refine blk_far ?_ NB749_781.out _; refine Qe ?_; refine blk_far ?_ NB749_781.out _; refine Qe ?_; refine blk_far ?_ NB749_781.out _; exact Qa BK749.out)) : p := h
theorem T_43 {p : Prop} (h : p := by (refine Qe ?_; refine blk_far ?_ NB764_774.out _; refine Qe ?_; refine blk_far ?_ NB764_774.out _; refine Qe ?_; refine blk_far ?_ NB764_774.out _; exact Qa BK764.out)) : p := h
theorem T_42 {p : Prop} (h : p := by (refine Qe ?_; refine blk_far ?_ NB757_774.out _; refine Qe ?_; refine blk_far ?_ NB757_774.out _; refine Qe ?_; refine blk_far ?_ NB757_774.out _; exact Qa BK757.out)) : p := h
theorem T_41 {p : Prop} (h : p := by (refine Qe ?_; refine blk_far ?_ NB749_774.out _; refine Qe ?_; refine blk_far ?_ NB749_774.out _; refine Qe ?_; refine blk_far ?_ NB749_774.out _; exact Qa BK749.out)) : p := h
theorem T_40 {p : Prop} (h : p := by (refine Qe ?_; refine blk_far ?_ NB757_764.out _; refine Qe ?_; refine blk_far ?_ NB757_764.out _; refine Qe ?_; refine blk_far ?_ NB757_764.out _; exact Qa BK757.out)) : p := h
theorem T_39 {p : Prop} (h : p := by (refine Qe ?_; refine blk_far ?_ NB749_764.out _; refine Qe ?_; refine blk_far ?_ NB749_764.out _; refine Qe ?_; refine blk_far ?_ NB749_764.out _; exact Qa BK749.out)) : p := h
theorem T_38 {p : Prop} (h : p := by (refine Qe ?_; refine blk_far ?_ NB602_609.out _; refine Qe ?_; refine blk_far ?_ NB602_609.out _; refine Qe ?_; refine blk_far ?_ NB602_609.out _; exact Qa BK602.out)) : p := h
theorem T_37 {p : Prop} (h : p := by (repeat (first | (with_reducible first | exact HB.out | apply below_alloc | apply pw_below_drewN | apply below_drew1 | refine below_set ?_ (IsS68.ge HI0.out)) | exact HB.out))) : p := h
theorem T_36 {p : Prop} (h : p := by (repeat (first | (with_reducible first | exact HK.out | apply KeepBut.set_ | apply keep_drewN | apply keep_drew | apply keep_alloc | refine keep_far ?_ GW558.out _) | exact HK.out))) : p := h
theorem T_35 {p : Prop} (h : p := by (repeat (first | (with_reducible first | exact HK.out | apply KeepBut.set_ | apply keep_drewN | apply keep_drew | apply keep_alloc | refine keep_far ?_ GW533.out _) | exact HK.out))) : p := h
theorem T_34 {p : Prop} (h : p := by (repeat (first | (with_reducible first | exact HK.out | apply KeepBut.set_ | apply keep_drewN | apply keep_drew | apply keep_alloc | refine keep_far ?_ GW473.out _) | exact HK.out))) : p := h
theorem T_33 {p : Prop} (h : p := by (repeat (first | (with_reducible first | exact HK.out | apply KeepBut.set_ | apply keep_drewN | apply keep_drew | apply keep_alloc | refine keep_far ?_ GW124.out _) | exact HK.out))) : p := h
theorem T_32 {p : Prop} (h : p := by (repeat (first | (with_reducible first | exact HI0.out | apply IsS68.alloc | apply IsS68.drewN | apply IsS68.drew | apply IsS68.set_0 | apply IsS68.set_1 | apply IsS68.set_2) | exact HI0.out))) : p := h
theorem T_31 {p : Prop} (h : p := by (repeat (first | (with_reducible first | exact HB.out | apply below_alloc | apply pw_below_drewN | apply below_drew1 | refine below_set ?_ (IsS68.ge HI0.out) | refine below_set ?_ GE473.out) | exact HB.out))) : p := h
theorem T_30 {p : Prop} (h : p := by (repeat (first | (with_reducible first | exact HB.out | apply below_alloc | apply pw_below_drewN | apply below_drew1 | refine below_set ?_ (IsS106.ge HI0.out) | refine below_set ?_ GE124.out) | exact HB.out))) : p := h
theorem T_29 {p : Prop} (h : p := by (repeat (first | (with_reducible first | exact HK.out | apply KeepBut.set_ | apply keep_drewN | apply keep_drew | apply keep_alloc | refine keep_far ?_ GW558.out _ | refine keep_far ?_ GW567.out _) | exact HK.out))) : p := h
theorem T_28 {p : Prop} (h : p := by (repeat (first | (with_reducible first | exact HK.out | apply KeepBut.set_ | apply keep_drewN | apply keep_drew | apply keep_alloc | refine keep_far ?_ GW533.out _ | refine keep_far ?_ GW542.out _) | exact HK.out))) : p := h
theorem T_27 {p : Prop} (h : p := by (repeat (first | (with_reducible first | exact HI0.out | apply IsS106.alloc | apply IsS106.drewN | apply IsS106.drew | apply IsS106.set_1 | apply IsS106.set_2 | refine IsS106.farc ?_ NB0_124.out _) | exact HI0.out))) : p := h
theorem T_26 {p : Prop} (h : p := by (repeat (first | (with_reducible first | exact HI0.out | apply IsS68.alloc | apply IsS68.drewN | apply IsS68.drew | apply IsS68.set_0 | apply IsS68.set_1 | apply IsS68.set_2 | refine IsS68.farc ?_ NB0_473.out _ | apply IsS68.farc (hne := NB0_473.out) | apply IsS68.farc (hne := NB0_473.out)) | exact HI0.out))) : p := h
theorem T_25 {p : Prop} (h : p := by (refine Qe ?_; refine blk_put (cs := #[.int .i64 t775, .int .i64 t776, .slice none 0 0]) ?_ 2 _ rfl; refine Qe ?_; refine blk_put (cs := #[.int .i64 t775, .int .i64 0, .slice none 0 0]) ?_ 1 _ rfl; refine Qe ?_; refine blk_put (cs := #[.int .i64 0, .int .i64 0, .slice none 0 0]) ?_ 0 _ rfl; exact Qa BK781.out)) : p := h
theorem T_24 {p : Prop} (h : p := by (refine Qe ?_; refine blk_put (cs := #[.int .i64 t768, .int .i64 t769, .slice none 0 0]) ?_ 2 _ rfl; refine Qe ?_; refine blk_put (cs := #[.int .i64 t768, .int .i64 0, .slice none 0 0]) ?_ 1 _ rfl; refine Qe ?_; refine blk_put (cs := #[.int .i64 0, .int .i64 0, .slice none 0 0]) ?_ 0 _ rfl; exact Qa BK774.out)) : p := h
theorem T_23 {p : Prop} (h : p := by (refine Qe ?_; refine blk_put (cs := #[.int .i64 t758, .int .i64 t759, .slice none 0 0]) ?_ 2 _ rfl; refine Qe ?_; refine blk_put (cs := #[.int .i64 t758, .int .i64 0, .slice none 0 0]) ?_ 1 _ rfl; refine Qe ?_; refine blk_put (cs := #[.int .i64 0, .int .i64 0, .slice none 0 0]) ?_ 0 _ rfl; exact Qa BK764.out)) : p := h
theorem T_22 {p : Prop} (h : p := by (refine Qe ?_; refine blk_put (cs := #[.int .i64 1, .int .i64 t531, .slice none 0 0]) ?_ 2 _ rfl; refine Qe ?_; refine blk_put (cs := #[.int .i64 1, .int .i64 0, .slice none 0 0]) ?_ 1 _ rfl; refine Qe ?_; refine blk_put (cs := #[.int .i64 0, .int .i64 0, .slice none 0 0]) ?_ 0 _ rfl; refine Qe ?_; refine blk_far ?_ NB473_0.out _; exact Qa BK473.out)) : p := h
theorem T_21 {p : Prop} (h : p := by (refine Qe ?_; refine blk_put (cs := #[.int .i64 ((rd_T25 l0_2 x43_3).f0), .int .i64 ((rd_T25 l0_2 x43_3).f1), .slice none 0 0]) ?_ 2 _ rfl; refine Qe ?_; refine blk_put (cs := #[.int .i64 ((rd_T25 l0_2 x43_3).f0), .int .i64 0, .slice none 0 0]) ?_ 1 _ rfl; refine Qe ?_; refine blk_put (cs := #[.int .i64 0, .int .i64 0, .slice none 0 0]) ?_ 0 _ rfl; exact Qa BK609.out)) : p := h
theorem T_20 {p : Prop} (h : p := by (repeat (first | (with_reducible first | exact HI0.out | apply IsS68.alloc | apply IsS68.drewN | apply IsS68.drew | apply IsS68.set_0 | apply IsS68.set_1 | apply IsS68.set_2 | refine IsS68.farc ?_ NB0_558.out _ | apply IsS68.farc (hne := NB0_558.out) | refine IsS68.farc ?_ NB0_567.out _ | apply IsS68.farc (hne := NB0_567.out) | apply IsS68.farc (hne := NB0_567.out)) | exact HI0.out))) : p := h
theorem T_19 {p : Prop} (h : p := by (repeat (first | (with_reducible first | exact HI0.out | apply IsS68.alloc | apply IsS68.drewN | apply IsS68.drew | apply IsS68.set_0 | apply IsS68.set_1 | apply IsS68.set_2 | refine IsS68.farc ?_ NB0_533.out _ | apply IsS68.farc (hne := NB0_533.out) | refine IsS68.farc ?_ NB0_542.out _ | apply IsS68.farc (hne := NB0_542.out) | apply IsS68.farc (hne := NB0_542.out)) | exact HI0.out))) : p := h
theorem T_18 {p : Prop} (h : p := by ((with_reducible repeat (first | apply Kd.N_alloc | apply Kd.N_drewN | apply Kd.N_drew)); exact (Kd.N_mono (Kd.N_far (p := ⟨gb764, 2, none⟩) (Kd.N_far (p := ⟨gb764, 1, none⟩) (Kd.N_far (p := ⟨gb764, 0, none⟩) (Kd.N_mono HO762.out (fun k_ hk => (⟨hk, hk.2⟩ : _ ∧ k_ ≠ gb764))) (fun _ hk => hk.2) (.int .i64 t758)) (fun _ hk => hk.2) (.int .i64 t759)) (fun _ hk => hk.2) (.slice Ao25 t760.length co25)) (fun _ h_ => h_.1)))) : p := h
theorem T_17 {p : Prop} (h : p := by ((with_reducible repeat (first | apply Kd.N_alloc | apply Kd.N_drewN | apply Kd.N_drew)); exact (Kd.N_mono (Kd.N_far (p := ⟨gb764, 2, none⟩) (Kd.N_far (p := ⟨gb764, 1, none⟩) (Kd.N_far (p := ⟨gb764, 0, none⟩) (Kd.N_mono HO755.out (fun k_ hk => (⟨hk, hk.2⟩ : _ ∧ k_ ≠ gb764))) (fun _ hk => hk.2) (.int .i64 t758)) (fun _ hk => hk.2) (.int .i64 t759)) (fun _ hk => hk.2) (.slice Ao25 t760.length co25)) (fun _ h_ => h_.1)))) : p := h
theorem T_16 {p : Prop} (h : p := by ((with_reducible repeat (first | apply Kd.N_alloc | apply Kd.N_drewN | apply Kd.N_drew)); exact (Kd.N_mono (Kd.N_far (p := ⟨gb764, 2, none⟩) (Kd.N_far (p := ⟨gb764, 1, none⟩) (Kd.N_far (p := ⟨gb764, 0, none⟩) (Kd.N_mono HO748.out (fun k_ hk => (⟨hk, hk.2⟩ : _ ∧ k_ ≠ gb764))) (fun _ hk => hk.2) (.int .i64 t758)) (fun _ hk => hk.2) (.int .i64 t759)) (fun _ hk => hk.2) (.slice Ao25 t760.length co25)) (fun _ h_ => h_.1)))) : p := h
theorem T_15 {p : Prop} (h : p := by ((with_reducible repeat (first | apply Kd.N_alloc | apply Kd.N_drewN | apply Kd.N_drew)); exact (Kd.N_mono (Kd.N_far (p := ⟨gb774, 2, none⟩) (Kd.N_far (p := ⟨gb774, 1, none⟩) (Kd.N_far (p := ⟨gb774, 0, none⟩) (Kd.N_mono HO_750002.out (fun k_ hk => (⟨hk, hk.2⟩ : _ ∧ k_ ≠ gb774))) (fun _ hk => hk.2) (.int .i64 t768)) (fun _ hk => hk.2) (.int .i64 t769)) (fun _ hk => hk.2) (.slice Ao99 t770.length co99)) (fun _ h_ => h_.1)))) : p := h
theorem T_14 {p : Prop} (h : p := by ((with_reducible repeat (first | apply Kd.N_alloc | apply Kd.N_drewN | apply Kd.N_drew)); exact (Kd.N_mono (Kd.N_far (p := ⟨gb774, 2, none⟩) (Kd.N_far (p := ⟨gb774, 1, none⟩) (Kd.N_far (p := ⟨gb774, 0, none⟩) (Kd.N_mono HO_750002.out (fun k_ hk => (⟨hk, hk.2⟩ : _ ∧ k_ ≠ gb774))) (fun _ hk => hk.2) (.int .i64 t768)) (fun _ hk => hk.2) (.int .i64 t769)) (fun _ hk => hk.2) (.slice Ao74 t770.length co74)) (fun _ h_ => h_.1)))) : p := h
theorem T_13 {p : Prop} (h : p := by ((with_reducible repeat (first | apply Kd.N_alloc | apply Kd.N_drewN | apply Kd.N_drew)); exact (Kd.N_mono (Kd.N_far (p := ⟨gb774, 2, none⟩) (Kd.N_far (p := ⟨gb774, 1, none⟩) (Kd.N_far (p := ⟨gb774, 0, none⟩) (Kd.N_mono HO_750002.out (fun k_ hk => (⟨hk, hk.2⟩ : _ ∧ k_ ≠ gb774))) (fun _ hk => hk.2) (.int .i64 t768)) (fun _ hk => hk.2) (.int .i64 t769)) (fun _ hk => hk.2) (.slice Ao145 t770.length co145)) (fun _ h_ => h_.1)))) : p := h
theorem T_12 {p : Prop} (h : p := by ((with_reducible repeat (first | apply Kd.N_alloc | apply Kd.N_drewN | apply Kd.N_drew)); exact (Kd.N_mono (Kd.N_far (p := ⟨gb774, 2, none⟩) (Kd.N_far (p := ⟨gb774, 1, none⟩) (Kd.N_far (p := ⟨gb774, 0, none⟩) (Kd.N_mono HO_750002.out (fun k_ hk => (⟨hk, hk.2⟩ : _ ∧ k_ ≠ gb774))) (fun _ hk => hk.2) (.int .i64 t768)) (fun _ hk => hk.2) (.int .i64 t769)) (fun _ hk => hk.2) (.slice Ao122 t770.length co122)) (fun _ h_ => h_.1)))) : p := h
theorem T_11 {p : Prop} (h : p := by (first | exact Nat.ne_of_lt (Nat.lt_of_lt_of_le (by have := World.block_lt_of_cell? _ _ hw669_2; first | rwa [add_block] at this | exact this) GW629.out) | (rw [add_block]; exact Nat.ne_of_lt (Nat.lt_of_lt_of_le (by have := World.block_lt_of_cell? _ _ hw669_2; first | rwa [add_block] at this | exact this) GW629.out)) | (show (Addr.add _ _).block ≠ _; rw [add_block]; exact Nat.ne_of_lt (Nat.lt_of_lt_of_le (by have := World.block_lt_of_cell? _ _ hw669_2; first | rwa [add_block] at this | exact this) GW629.out)) | (dsimp only; exact Nat.ne_of_lt (Nat.lt_of_lt_of_le (by have := World.block_lt_of_cell? _ _ hw669_2; first | rwa [add_block] at this | exact this) GW629.out)))) : p := h
theorem T_10 {p : Prop} (h : p := by (first | exact Nat.ne_of_lt (Nat.lt_of_lt_of_le (by have := World.block_lt_of_cell? _ _ hw669_1; first | rwa [add_block] at this | exact this) GW629.out) | (rw [add_block]; exact Nat.ne_of_lt (Nat.lt_of_lt_of_le (by have := World.block_lt_of_cell? _ _ hw669_1; first | rwa [add_block] at this | exact this) GW629.out)) | (show (Addr.add _ _).block ≠ _; rw [add_block]; exact Nat.ne_of_lt (Nat.lt_of_lt_of_le (by have := World.block_lt_of_cell? _ _ hw669_1; first | rwa [add_block] at this | exact this) GW629.out)) | (dsimp only; exact Nat.ne_of_lt (Nat.lt_of_lt_of_le (by have := World.block_lt_of_cell? _ _ hw669_1; first | rwa [add_block] at this | exact this) GW629.out)))) : p := h
theorem T_9 {p : Prop} (h : p := by (first | exact Nat.ne_of_lt (Nat.lt_of_lt_of_le (by have := World.block_lt_of_cell? _ _ hw669_0; first | rwa [add_block] at this | exact this) GW629.out) | (rw [add_block]; exact Nat.ne_of_lt (Nat.lt_of_lt_of_le (by have := World.block_lt_of_cell? _ _ hw669_0; first | rwa [add_block] at this | exact this) GW629.out)) | (show (Addr.add _ _).block ≠ _; rw [add_block]; exact Nat.ne_of_lt (Nat.lt_of_lt_of_le (by have := World.block_lt_of_cell? _ _ hw669_0; first | rwa [add_block] at this | exact this) GW629.out)) | (dsimp only; exact Nat.ne_of_lt (Nat.lt_of_lt_of_le (by have := World.block_lt_of_cell? _ _ hw669_0; first | rwa [add_block] at this | exact this) GW629.out)))) : p := h
theorem T_8 {p : Prop} (h : p := by (first | exact Nat.ne_of_lt (Nat.lt_of_lt_of_le (by have := World.block_lt_of_cell? _ _ hw663_2; first | rwa [add_block] at this | exact this) GW629.out) | (rw [add_block]; exact Nat.ne_of_lt (Nat.lt_of_lt_of_le (by have := World.block_lt_of_cell? _ _ hw663_2; first | rwa [add_block] at this | exact this) GW629.out)) | (show (Addr.add _ _).block ≠ _; rw [add_block]; exact Nat.ne_of_lt (Nat.lt_of_lt_of_le (by have := World.block_lt_of_cell? _ _ hw663_2; first | rwa [add_block] at this | exact this) GW629.out)) | (dsimp only; exact Nat.ne_of_lt (Nat.lt_of_lt_of_le (by have := World.block_lt_of_cell? _ _ hw663_2; first | rwa [add_block] at this | exact this) GW629.out)))) : p := h
theorem T_7 {p : Prop} (h : p := by (first | exact Nat.ne_of_lt (Nat.lt_of_lt_of_le (by have := World.block_lt_of_cell? _ _ hw663_1; first | rwa [add_block] at this | exact this) GW629.out) | (rw [add_block]; exact Nat.ne_of_lt (Nat.lt_of_lt_of_le (by have := World.block_lt_of_cell? _ _ hw663_1; first | rwa [add_block] at this | exact this) GW629.out)) | (show (Addr.add _ _).block ≠ _; rw [add_block]; exact Nat.ne_of_lt (Nat.lt_of_lt_of_le (by have := World.block_lt_of_cell? _ _ hw663_1; first | rwa [add_block] at this | exact this) GW629.out)) | (dsimp only; exact Nat.ne_of_lt (Nat.lt_of_lt_of_le (by have := World.block_lt_of_cell? _ _ hw663_1; first | rwa [add_block] at this | exact this) GW629.out)))) : p := h
theorem T_6 {p : Prop} (h : p := by (first | exact Nat.ne_of_lt (Nat.lt_of_lt_of_le (by have := World.block_lt_of_cell? _ _ hw663_0; first | rwa [add_block] at this | exact this) GW629.out) | (rw [add_block]; exact Nat.ne_of_lt (Nat.lt_of_lt_of_le (by have := World.block_lt_of_cell? _ _ hw663_0; first | rwa [add_block] at this | exact this) GW629.out)) | (show (Addr.add _ _).block ≠ _; rw [add_block]; exact Nat.ne_of_lt (Nat.lt_of_lt_of_le (by have := World.block_lt_of_cell? _ _ hw663_0; first | rwa [add_block] at this | exact this) GW629.out)) | (dsimp only; exact Nat.ne_of_lt (Nat.lt_of_lt_of_le (by have := World.block_lt_of_cell? _ _ hw663_0; first | rwa [add_block] at this | exact this) GW629.out)))) : p := h
theorem T_5 {p : Prop} (h : p := by (first | exact Nat.ne_of_lt (Nat.lt_of_lt_of_le (by have := World.block_lt_of_cell? _ _ hw654_2; first | rwa [add_block] at this | exact this) GW629.out) | (rw [add_block]; exact Nat.ne_of_lt (Nat.lt_of_lt_of_le (by have := World.block_lt_of_cell? _ _ hw654_2; first | rwa [add_block] at this | exact this) GW629.out)) | (show (Addr.add _ _).block ≠ _; rw [add_block]; exact Nat.ne_of_lt (Nat.lt_of_lt_of_le (by have := World.block_lt_of_cell? _ _ hw654_2; first | rwa [add_block] at this | exact this) GW629.out)) | (dsimp only; exact Nat.ne_of_lt (Nat.lt_of_lt_of_le (by have := World.block_lt_of_cell? _ _ hw654_2; first | rwa [add_block] at this | exact this) GW629.out)))) : p := h
theorem T_4 {p : Prop} (h : p := by (first | exact Nat.ne_of_lt (Nat.lt_of_lt_of_le (by have := World.block_lt_of_cell? _ _ hw654_1; first | rwa [add_block] at this | exact this) GW629.out) | (rw [add_block]; exact Nat.ne_of_lt (Nat.lt_of_lt_of_le (by have := World.block_lt_of_cell? _ _ hw654_1; first | rwa [add_block] at this | exact this) GW629.out)) | (show (Addr.add _ _).block ≠ _; rw [add_block]; exact Nat.ne_of_lt (Nat.lt_of_lt_of_le (by have := World.block_lt_of_cell? _ _ hw654_1; first | rwa [add_block] at this | exact this) GW629.out)) | (dsimp only; exact Nat.ne_of_lt (Nat.lt_of_lt_of_le (by have := World.block_lt_of_cell? _ _ hw654_1; first | rwa [add_block] at this | exact this) GW629.out)))) : p := h
theorem T_3 {p : Prop} (h : p := by (first | exact Nat.ne_of_lt (Nat.lt_of_lt_of_le (by have := World.block_lt_of_cell? _ _ hw654_0; first | rwa [add_block] at this | exact this) GW629.out) | (rw [add_block]; exact Nat.ne_of_lt (Nat.lt_of_lt_of_le (by have := World.block_lt_of_cell? _ _ hw654_0; first | rwa [add_block] at this | exact this) GW629.out)) | (show (Addr.add _ _).block ≠ _; rw [add_block]; exact Nat.ne_of_lt (Nat.lt_of_lt_of_le (by have := World.block_lt_of_cell? _ _ hw654_0; first | rwa [add_block] at this | exact this) GW629.out)) | (dsimp only; exact Nat.ne_of_lt (Nat.lt_of_lt_of_le (by have := World.block_lt_of_cell? _ _ hw654_0; first | rwa [add_block] at this | exact this) GW629.out)))) : p := h
theorem T_2 {p : Prop} (h : p := by (first | exact Nat.ne_of_lt (Nat.lt_of_lt_of_le (by have := World.block_lt_of_cell? _ _ hw648_2; first | rwa [add_block] at this | exact this) GW629.out) | (rw [add_block]; exact Nat.ne_of_lt (Nat.lt_of_lt_of_le (by have := World.block_lt_of_cell? _ _ hw648_2; first | rwa [add_block] at this | exact this) GW629.out)) | (show (Addr.add _ _).block ≠ _; rw [add_block]; exact Nat.ne_of_lt (Nat.lt_of_lt_of_le (by have := World.block_lt_of_cell? _ _ hw648_2; first | rwa [add_block] at this | exact this) GW629.out)) | (dsimp only; exact Nat.ne_of_lt (Nat.lt_of_lt_of_le (by have := World.block_lt_of_cell? _ _ hw648_2; first | rwa [add_block] at this | exact this) GW629.out)))) : p := h
theorem T_1 {p : Prop} (h : p := by (first | exact Nat.ne_of_lt (Nat.lt_of_lt_of_le (by have := World.block_lt_of_cell? _ _ hw648_1; first | rwa [add_block] at this | exact this) GW629.out) | (rw [add_block]; exact Nat.ne_of_lt (Nat.lt_of_lt_of_le (by have := World.block_lt_of_cell? _ _ hw648_1; first | rwa [add_block] at this | exact this) GW629.out)) | (show (Addr.add _ _).block ≠ _; rw [add_block]; exact Nat.ne_of_lt (Nat.lt_of_lt_of_le (by have := World.block_lt_of_cell? _ _ hw648_1; first | rwa [add_block] at this | exact this) GW629.out)) | (dsimp only; exact Nat.ne_of_lt (Nat.lt_of_lt_of_le (by have := World.block_lt_of_cell? _ _ hw648_1; first | rwa [add_block] at this | exact this) GW629.out)))) : p := h
theorem T_0 {p : Prop} (h : p := by (first | exact Nat.ne_of_lt (Nat.lt_of_lt_of_le (by have := World.block_lt_of_cell? _ _ hw648_0; first | rwa [add_block] at this | exact this) GW629.out) | (rw [add_block]; exact Nat.ne_of_lt (Nat.lt_of_lt_of_le (by have := World.block_lt_of_cell? _ _ hw648_0; first | rwa [add_block] at this | exact this) GW629.out)) | (show (Addr.add _ _).block ≠ _; rw [add_block]; exact Nat.ne_of_lt (Nat.lt_of_lt_of_le (by have := World.block_lt_of_cell? _ _ hw648_0; first | rwa [add_block] at this | exact this) GW629.out)) | (dsimp only; exact Nat.ne_of_lt (Nat.lt_of_lt_of_le (by have := World.block_lt_of_cell? _ _ hw648_0; first | rwa [add_block] at this | exact this) GW629.out)))) : p := h
/-! #### struct type 25, nested in itself -/
structure S25 where
 f0 : Int
 f1 : Int
 f2 : (List S25)
def z25 : S25 := ⟨(0 : Int), (0 : Int), ([] : List S25)⟩
def F25 (d : Kd S25) : Kd S25 := Kd.iso (Kd.pair (Kd.int .i64) (Kd.pair (Kd.int .i64) (Kd.slice 25 d))) (fun x : S25 => (x.f0, x.f1, x.f2))
theorem mono25 : Kd.Mono F25 := Kd.mono_iso _ (Kd.mono_pair (Kd.mono_const _) (Kd.mono_pair (Kd.mono_const _) (Kd.mono_slice 25 Kd.mono_id)))
theorem sub25 : Kd.Sub F25 [25] := Kd.sub_iso _ (Kd.sub_pair (Kd.sub_const _ (by decide)) (Kd.sub_pair (Kd.sub_const _ (by decide)) (Kd.sub_slice 25 (by decide) Kd.sub_id)))
theorem sz25 : ∀ n, (Kd.upto F25 3 [25] n).sz = 3 := Kd.upto_sz (fun _ => rfl)
def k25 : Kd S25 := Kd.fix F25 3 [25] sz25 (Kd.upto_E sub25)
theorem k25_open {w : World} {x : S25} {cs : List Value} (h : k25.K w x cs) : ∃ A2 c2, cs = [.int .i64 x.f0, .int .i64 x.f1, .slice A2 x.f2.length c2] ∧ x.f2.length ≤ c2 ∧ k25.C w A2 x.f2.length x.f2 := by
 obtain ⟨n, h⟩ := h
 cases n with
 | zero => exact h.elim
 | succ n =>
  obtain ⟨_, _, rfl, rfl, ⟨_, _, rfl, rfl, ⟨A2, c2, rfl, l2, g2⟩⟩⟩ := h
  exact ⟨A2, c2, rfl, l2, Kd.fix_C g2⟩
theorem k25_mk (w : World) (x : S25) {A2 : Option Addr} {c2 : Nat} (l2 : x.f2.length ≤ c2) (g2 : k25.C w A2 x.f2.length x.f2) : k25.K w x [.int .i64 x.f0, .int .i64 x.f1, .slice A2 x.f2.length c2] := by
 obtain ⟨n2, q2⟩ := Kd.fix_C_back mono25 g2
 have r2 := Kd.upto_C_le mono25 sz25 (show n2 ≤ n2 by omega) q2
 exact ⟨n2 + 1, ⟨[.int .i64 x.f0], [.int .i64 x.f1, .slice A2 x.f2.length c2], rfl, rfl, ⟨[.int .i64 x.f1], [.slice A2 x.f2.length c2], rfl, rfl, ⟨A2, c2, rfl, l2, r2⟩⟩⟩⟩
theorem k25_mkM (w : World) (base : Nat) (ok : Nat → Prop) (x : S25) {v2 : Value} (g2 : k25.R 25 w base ok v2 x.f2) : k25.M w base ok x [.int .i64 x.f0, .int .i64 x.f1, v2] := by
 obtain ⟨n2, q2⟩ := Kd.fix_R_back mono25 g2
 have r2 := Kd.upto_R_le mono25 sz25 (show n2 ≤ n2 by omega) q2
 exact ⟨n2 + 1, ⟨[.int .i64 x.f0], [.int .i64 x.f1, v2], rfl, rfl, ⟨[.int .i64 x.f1], [v2], rfl, rfl, ⟨v2, rfl, r2⟩⟩⟩⟩
theorem k25_openF {W : World} {ok : Nat → Prop} {x : S25} {cs : List Value} (h : Kd.FK k25 W ok x cs) : ∃ A2 c2, cs = [.int .i64 x.f0, .int .i64 x.f1, .slice A2 x.f2.length c2] ∧ x.f2.length ≤ c2 ∧ Kd.F k25 W ok A2 x.f2.length x.f2 := by
 obtain ⟨A2, c2, rfl, l2, _⟩ := k25_open (Kd.FK_now h)
 exact ⟨A2, c2, rfl, l2, (fun W' hW => by obtain ⟨A2_, c2_, he, l2_, g2_⟩ := k25_open (h W' hW); injection (Option.some.inj (show some (Value.slice A2 x.f2.length c2) = some (Value.slice A2_ x.f2.length c2_) from congrArg (fun l => l[2]?) he)) with ha_ _ _; rw [ha_]; exact g2_)⟩
theorem k25_mkF (W : World) (ok : Nat → Prop) (x : S25) {A2 : Option Addr} {c2 : Nat} (l2 : x.f2.length ≤ c2) (g2 : Kd.F k25 W ok A2 x.f2.length x.f2) : Kd.FK k25 W ok x [.int .i64 x.f0, .int .i64 x.f1, .slice A2 x.f2.length c2] := fun W2 hW => k25_mk W2 x l2 (g2 W2 hW)
def rd_T25 (xs : List S25) (i : Int) : S25 := xs.getD i.toNat z25
theorem at_T25 {w : World} {A : Option Addr} {n : Nat} {xs : List S25} (h : Kd.C k25 w A n xs) (i : Int) (h0 : 0 ≤ i) (h1 : i < n) : ∃ ad A2 c2, A = some ad ∧ w.cell? (ad.add (i.toNat * 3)) = some (.int .i64 (rd_T25 xs i).f0) ∧ w.cell? ⟨(ad.add (i.toNat * 3)).block, (ad.add (i.toNat * 3)).off + 1, none⟩ = some (.int .i64 (rd_T25 xs i).f1) ∧ w.cell? ⟨(ad.add (i.toNat * 3)).block, (ad.add (i.toNat * 3)).off + 2, none⟩ = some (.slice A2 (rd_T25 xs i).f2.length c2) ∧ (rd_T25 xs i).f2.length ≤ c2 ∧ k25.C w A2 (rd_T25 xs i).f2.length (rd_T25 xs i).f2 := by
 obtain ⟨ad, c, e, _, hK, hc0⟩ := Kd.C_get h z25 i h0 h1
 have hc : ∀ j u, c[j]? = some u → w.cell? (ad.add (i.toNat * 3 + j)) = some u := hc0
 obtain ⟨A2, c2, rfl, l2, g2⟩ := k25_open hK
 exact ⟨ad, A2, c2, e, hc 0 _ rfl, by rw [← add_field _ _ 1 (by omega)]; exact hc 1 _ rfl, by rw [← add_field _ _ 2 (by omega)]; exact hc 2 _ rfl, l2, g2⟩

end Go.Proofs.YtjfgcipbbcplmaaDoor.HFnExprs
