/- Rows of trees, no two nodes of which lead to one block: the kind of a row inside an element is itself such a row. -/
import Derived.Test.YtjfgcipbbcplmaaDoorWMore
import Derived.Test.YtjfgcipbbcplmaaDoorWKept
import Derived.Test.YtjfgcipbbcplmaaDoorWApart
set_option linter.unusedVariables false
namespace Go.Proofs.YtjfgcipbbcplmaaDoorW.PrintWords
open Go.RowKit
namespace Kd
def sliceS {α : Type} (e : Nat) (d : Kd α) : Kd (List α) where
  sz := 1
  E := e :: d.E
  K := (slice e d).K
  M := fun w base ok xs cs => ∃ v, cs = [v] ∧ Kd.S d e w base ok v xs
  K_len := (slice e d).K_len
  K_one := (slice e d).K_one
  K_below := (slice e d).K_below
  K_of_M := by
    rintro w base ok x cs ⟨v, rfl, h⟩
    exact (slice e d).K_of_M (ok := ok) (base := base) ⟨v, rfl, S_R h⟩
  M_mono := by
    rintro w base ok ok' x cs hok ⟨v, rfl, h⟩
    exact ⟨v, rfl, S_mono h hok⟩
  M_bound := by
    rintro w base ok x cs ⟨v, rfl, h⟩
    exact ⟨v, rfl, S_bound h⟩
  M_move := by
    rintro w w1 base ok x cs hm ⟨v, rfl, h⟩
    exact ⟨v, rfl, S_move h hm⟩
  M_lower := by
    rintro w base base' ok x cs hb ⟨v, rfl, h⟩
    exact ⟨v, rfl, S_lower h hb⟩
theorem S_imp {α : Type} {d d' : Kd α} (hs : d.sz = d'.sz) (h : ∀ w base ok x cs, d.M w base ok x cs → d'.M w base ok x cs) {e : Nat} {w : World} {base : Nat} {ok : Nat → Prop} {v : Value} {xs : List α} (hr : Kd.S d e w base ok v xs) : Kd.S d' e w base ok v xs := by
  obtain ⟨f, hr⟩ := hr
  exact ⟨f, R_imp (d := tag f d) (d' := tag f d') hs (fun w base ok x cs hm => h w base _ x.1 cs hm) hr⟩
theorem mono_sliceS {α β : Type} (e : Nat) {G : Kd α → Kd β} (hG : Mono G) : Mono (fun d => sliceS e (G d)) := by
  refine ⟨fun _ _ _ => rfl, (mono_slice e hG).K, ?_⟩
  rintro d d' hs h w base ok x cs ⟨v, rfl, hr⟩
  exact ⟨v, rfl, S_imp (hG.sz d d' hs) (hG.M d d' hs h) hr⟩
theorem sub_sliceS {α β : Type} {E : List Nat} (e : Nat) {G : Kd α → Kd β} (he : e ∈ E) (hG : Sub G E) : Sub (fun d => sliceS e (G d)) E := sub_slice e he hG
section
variable {α : Type} {F : Kd α → Kd α} {sz : Nat} {E : List Nat} {hs : ∀ n, (upto F sz E n).sz = sz} {hE : ∀ n q, q ∈ (upto F sz E n).E → q ∈ E}
theorem fix_S_back (hm : Mono F) {e : Nat} {w : World} {base : Nat} {ok : Nat → Prop} {v : Value} {xs : List α} (h : Kd.S (fix F sz E hs hE) e w base ok v xs) : ∃ n, Kd.S (upto F sz E n) e w base ok v xs := by
  obtain ⟨f, h0, inner, ho, hr⟩ := h
  obtain ⟨N, hN⟩ := reps_bounded (R := fun n p c => (tag f (upto F sz E n)).M w base (fun k => ok k ∧ some k ≠ v.ownBlock) p c) (fun n m p c hnm hp => upto_M_le hm hs hnm hp) hr
  refine ⟨N, f, h0, inner, ?_, ?_⟩
  · show w.ownsRow base e (upto F sz E N).sz v xs.zipIdx.length inner
    rw [hs N]; exact ho
  · show Reps _ (upto F sz E N).sz xs.zipIdx inner
    rw [hs N]; exact hN
end
end Kd
theorem QcS {X p : Prop} (x : X) (h : X → p := by (intro x; (with_reducible repeat (first | apply Kd.S_alloc | apply Kd.S_drewN | apply Kd.S_drew)); exact x)) : p := h x
theorem QfS {p q : Prop} (h : q) (t : q → p := by (intro x; (with_reducible repeat (first | apply Kd.S_alloc | apply Kd.S_drewN | apply Kd.S_drew)); exact x)) : p := t h
end Go.Proofs.YtjfgcipbbcplmaaDoorW.PrintWords
