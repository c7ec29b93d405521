/- What an argument that is read as data is, in the print's own kinds. -/
import Derived.Test.YtjfgcipbbcplmaaDoorBase
import Derived.Deep.Slices
import Derived.ChangeArms
import Derived.DataReads
import Derived.WideShapes
set_option linter.unusedVariables false
set_option linter.unusedSimpArgs false
namespace Go.Proofs.YtjfgcipbbcplmaaDoor.Base
open Go.RowKit Go.Proofs.YtjfgcipbbcplmaaDoorW.PrintWords Go.Proofs.YtjfgcipbbcplmaaDoorW.PrintLast Go.Proofs.YtjfgcipbbcplmaaDoorW.PrintMore

/-- Cells that read as data of type t, at n rounds of the reader, are a value of the kind d, of which Wf holds. -/
def OpN {α : Type} (P : Program) (w : World) (t : Nat) (d : Kd α) (Wf : α → Prop) (n : Nat) : Prop :=
  ∀ (H : Type) (enc : TypeId × Value → H) (spare : Nat → Bool) (fuel : Nat) (cs : List Value) (x : DataW H × List MemPlace), fuel ≤ n → DataW.trod enc P w 0 spare true fuel t cs = some x → ∃ y, d.K w y cs ∧ Wf y
theorem op_int {P : Program} {w : World} {t : Nat} {k : IntKind} (ht : P.underlying t = some (.int k)) (n : Nat) : OpN P w t (Kd.int k) (fun x => (Lit.int k x).wf = true) n := by
  intro H enc spare fuel cs x _ h
  obtain ⟨a, rfl, _, hw⟩ := DataW.trod_int ht h
  exact ⟨a, rfl, hw⟩
theorem add_add' (a : Addr) (i j : Nat) : (a.add i).add j = a.add (i + j) := Go.Deep.add_add a i j
theorem op_slice {α : Type} (z : α) {P : Program} {w : World} {t e : Nat} {d : Kd α} {Wf : α → Prop} (ht : P.underlying t = some (.slice e)) (hc : P.cellsOf e = d.sz) (n : Nat) (he : ∀ m, m < n → OpN P w e d Wf m) :
    OpN P w t (Kd.slice e d) (fun xs => xs.length ≤ maxLen ∧ ∀ x ∈ xs, Wf x) n := by
  intro H enc spare fuel cs x hf h
  rcases DataW.trod_slice ht h with ⟨rfl, _⟩ | ⟨a, len, cap, elems, rest, m, rfl, rfl, _, hb, hl, hm, hlen, hel, _, _⟩
  · exact ⟨[], ⟨none, 0, rfl, Nat.le_refl _, Kd.C_nil _ _⟩, by simp, by simp⟩
  · haveI : Inhabited α := ⟨z⟩
    obtain ⟨f, hF⟩ := Go.Deep.choose_lt (α := α) (n := len) (p := fun i y => ∃ cs', cs'.length = d.sz ∧ (∀ j, j < d.sz → w.cell? (a.add (i * d.sz + j)) = cs'[j]?) ∧ d.K w y cs' ∧ Wf y) (by
      intro i hi
      have h1 := hel i hi
      rw [List.getElem?_eq_getElem (by omega)] at h1
      obtain ⟨cs', h2, h3⟩ := Option.bind_eq_some_iff.1 h1
      obtain ⟨_, hl2, hcell⟩ := World.cells?_some h2
      obtain ⟨y, hK, hW⟩ := he m (by omega) H enc spare m cs' _ (Nat.le_refl _) h3
      refine ⟨y, cs', by rw [hl2, hc], fun j hj => ?_, hK, hW⟩
      have := hcell j (by rw [hc]; exact hj)
      rw [add_add', hc] at this
      exact this)
    refine ⟨(List.range len).map f, ⟨some a, cap, by simp, by simpa using hl, ?_⟩, by simp; omega, ?_⟩
    · refine ⟨rfl, by simp; unfold maxLen at hm; omega, fun _ => ⟨a, rfl, fun j p hp => ?_⟩⟩
      obtain ⟨hj, rfl⟩ : j < len ∧ f j = p := by
        rw [List.getElem?_map] at hp
        by_cases hj : j < len
        · rw [List.getElem?_range hj] at hp; exact ⟨hj, by simpa using hp⟩
        · rw [List.getElem?_eq_none (by simp; omega)] at hp; simp at hp
      obtain ⟨cs', h1, h2, h3, _⟩ := hF j hj
      refine ⟨cs', h1, h3, fun i u hu => ?_⟩
      have hi : i < d.sz := by rw [← h1]; exact (List.getElem?_eq_some_iff.1 hu).1
      rw [h2 i hi]; exact hu
    · intro x hx
      obtain ⟨j, hj, rfl⟩ := List.mem_map.1 hx
      obtain ⟨_, _, _, _, h4⟩ := hF j (List.mem_range.1 hj)
      exact h4
end Go.Proofs.YtjfgcipbbcplmaaDoor.Base
