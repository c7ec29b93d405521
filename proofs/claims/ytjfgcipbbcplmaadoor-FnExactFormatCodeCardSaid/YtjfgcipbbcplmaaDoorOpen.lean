/- What an argument that is read as data is, in the print's own kinds. -/
import Derived.Test.YtjfgcipbbcplmaaDoorBase
import Derived.Deep.Slices
import Derived.ChangeArms
import Derived.DataReads
import Derived.WideShapes
set_option linter.unusedVariables false
set_option linter.unusedSimpArgs false
namespace Go.Proofs.YtjfgcipbbcplmaaDoor.Base
open Go.RowKit Go.Proofs.YtjfgcipbbcplmaaDoorW.PrintWords Go.Proofs.YtjfgcipbbcplmaaDoorW.PrintLast Go.Proofs.YtjfgcipbbcplmaaDoorW.PrintMore

/-- Cells that read as data of type t, at n rounds of the reader, are a value of the kind d, of which Wf holds. -/
def OpN {α : Type} (P : Program) (w : World) (t : Nat) (d : Kd α) (Wf : α → Prop) (n : Nat) : Prop :=
  ∀ (H : Type) (enc : TypeId × Value → H) (spare : Nat → Bool) (fuel : Nat) (cs : List Value) (x : DataW H × List MemPlace), fuel ≤ n → DataW.trod enc P w 0 spare true fuel t cs = some x → ∃ y, d.K w y cs ∧ Wf y
theorem op_int {P : Program} {w : World} {t : Nat} {k : IntKind} (ht : P.underlying t = some (.int k)) (n : Nat) : OpN P w t (Kd.int k) (fun x => (Lit.int k x).wf = true) n := by
  intro H enc spare fuel cs x _ h
  obtain ⟨a, rfl, _, hw⟩ := DataW.trod_int ht h
  exact ⟨a, rfl, hw⟩
theorem op_bool {P : Program} {w : World} {t : Nat} (ht : P.underlying t = some .bool) (n : Nat) : OpN P w t Kd.bool (fun _ => True) n := by
  intro H enc spare fuel cs x _ h
  obtain ⟨a, rfl, _⟩ := DataW.trod_bool ht h
  exact ⟨a, rfl, trivial⟩
theorem op_string {P : Program} {w : World} {t : Nat} (ht : P.underlying t = some .string) (n : Nat) : OpN P w t Kd.string (fun x => x.size ≤ maxLen) n := by
  intro H enc spare fuel cs x _ h
  obtain ⟨a, rfl, _, hw⟩ := DataW.trod_string ht h
  exact ⟨a, rfl, hw⟩
theorem add_add' (a : Addr) (i j : Nat) : (a.add i).add j = a.add (i + j) := Go.Deep.add_add a i j
theorem op_slice {α : Type} (z : α) {P : Program} {w : World} {t e : Nat} {d : Kd α} {Wf : α → Prop} (ht : P.underlying t = some (.slice e)) (hc : P.cellsOf e = d.sz) (n : Nat) (he : ∀ m, m < n → OpN P w e d Wf m) :
    OpN P w t (Kd.slice e d) (fun xs => xs.length ≤ maxLen ∧ ∀ x ∈ xs, Wf x) n := by
  intro H enc spare fuel cs x hf h
  rcases DataW.trod_slice ht h with ⟨rfl, _⟩ | ⟨a, len, cap, elems, rest, m, rfl, rfl, _, hb, hl, hm, hlen, hel, _, _⟩
  · exact ⟨[], ⟨none, 0, rfl, Nat.le_refl _, Kd.C_nil _ _⟩, by simp, by simp⟩
  · haveI : Inhabited α := ⟨z⟩
    obtain ⟨f, hF⟩ := Go.Deep.choose_lt (α := α) (n := len) (p := fun i y => ∃ cs', cs'.length = d.sz ∧ (∀ j, j < d.sz → w.cell? (a.add (i * d.sz + j)) = cs'[j]?) ∧ d.K w y cs' ∧ Wf y) (by
      intro i hi
      have h1 := hel i hi
      rw [List.getElem?_eq_getElem (by omega)] at h1
      obtain ⟨cs', h2, h3⟩ := Option.bind_eq_some_iff.1 h1
      obtain ⟨_, hl2, hcell⟩ := World.cells?_some h2
      obtain ⟨y, hK, hW⟩ := he m (by omega) H enc spare m cs' _ (Nat.le_refl _) h3
      refine ⟨y, cs', by rw [hl2, hc], fun j hj => ?_, hK, hW⟩
      have := hcell j (by rw [hc]; exact hj)
      rw [add_add', hc] at this
      exact this)
    refine ⟨(List.range len).map f, ⟨some a, cap, by simp, by simpa using hl, ?_⟩, by simp; omega, ?_⟩
    · refine ⟨rfl, by simp; unfold maxLen at hm; omega, fun _ => ⟨a, rfl, fun j p hp => ?_⟩⟩
      obtain ⟨hj, rfl⟩ : j < len ∧ f j = p := by
        rw [List.getElem?_map] at hp
        by_cases hj : j < len
        · rw [List.getElem?_range hj] at hp; exact ⟨hj, by simpa using hp⟩
        · rw [List.getElem?_eq_none (by simp; omega)] at hp; simp at hp
      obtain ⟨cs', h1, h2, h3, _⟩ := hF j hj
      refine ⟨cs', h1, h3, fun i u hu => ?_⟩
      have hi : i < d.sz := by rw [← h1]; exact (List.getElem?_eq_some_iff.1 hu).1
      rw [h2 i hi]; exact hu
    · intro x hx
      obtain ⟨j, hj, rfl⟩ := List.mem_map.1 hx
      obtain ⟨_, _, _, _, h4⟩ := hF j (List.mem_range.1 hj)
      exact h4
theorem op_struct2 {α β : Type} {P : Program} {w : World} {t : Nat} {f0 f1 : Field} {d0 : Kd α} {d1 : Kd β} {W0 : α → Prop} {W1 : β → Prop} (ht : P.underlying t = some (.struct #[f0, f1])) (hc : P.cellsOf t = 2)
    (o0 : f0.offset = 0) (o1 : f1.offset = 1) (c0 : P.cellsOf f0.type = 1) (c1 : P.cellsOf f1.type = 1) (n : Nat) (h0 : ∀ m, m < n → OpN P w f0.type d0 W0 m) (h1 : ∀ m, m < n → OpN P w f1.type d1 W1 m) :
    OpN P w t (Kd.pair d0 d1) (fun y => W0 y.1 ∧ W1 y.2) n := by
  intro H enc spare fuel cs x hf h
  obtain ⟨xs, m, rfl, _, hl, hlen, hel⟩ := DataW.trod_struct ht h
  rw [hc] at hl
  match cs, hl with
  | [u0, u1], _ =>
    have e0 := hel 0 f0 rfl
    have e1 := hel 1 f1 rfl
    rw [o0, c0] at e0
    rw [o1, c1] at e1
    rw [List.getElem?_eq_getElem (by simp [hlen])] at e0 e1
    obtain ⟨y0, k0, w0⟩ := h0 m (by omega) H enc spare m _ _ (Nat.le_refl _) e0
    obtain ⟨y1, k1, w1⟩ := h1 m (by omega) H enc spare m _ _ (Nat.le_refl _) e1
    exact ⟨(y0, y1), ⟨[u0], [u1], rfl, k0, k1⟩, w0, w1⟩
theorem op_struct3 {α β γ : Type} {P : Program} {w : World} {t : Nat} {f0 f1 f2 : Field} {d0 : Kd α} {d1 : Kd β} {d2 : Kd γ} {W0 : α → Prop} {W1 : β → Prop} {W2 : γ → Prop} (ht : P.underlying t = some (.struct #[f0, f1, f2])) (hc : P.cellsOf t = 3)
    (o0 : f0.offset = 0) (o1 : f1.offset = 1) (o2 : f2.offset = 2) (c0 : P.cellsOf f0.type = 1) (c1 : P.cellsOf f1.type = 1) (c2 : P.cellsOf f2.type = 1) (n : Nat) (h0 : ∀ m, m < n → OpN P w f0.type d0 W0 m) (h1 : ∀ m, m < n → OpN P w f1.type d1 W1 m) (h2 : ∀ m, m < n → OpN P w f2.type d2 W2 m) :
    OpN P w t (Kd.pair d0 (Kd.pair d1 d2)) (fun y => W0 y.1 ∧ W1 y.2.1 ∧ W2 y.2.2) n := by
  intro H enc spare fuel cs x hf h
  obtain ⟨xs, m, rfl, _, hl, hlen, hel⟩ := DataW.trod_struct ht h
  rw [hc] at hl
  match cs, hl with
  | [u0, u1, u2], _ =>
    have e0 := hel 0 f0 rfl
    have e1 := hel 1 f1 rfl
    have e2 := hel 2 f2 rfl
    rw [o0, c0] at e0
    rw [o1, c1] at e1
    rw [o2, c2] at e2
    rw [List.getElem?_eq_getElem (by simp [hlen])] at e0 e1 e2
    obtain ⟨y0, k0, w0⟩ := h0 m (by omega) H enc spare m _ _ (Nat.le_refl _) e0
    obtain ⟨y1, k1, w1⟩ := h1 m (by omega) H enc spare m _ _ (Nat.le_refl _) e1
    obtain ⟨y2, k2, w2⟩ := h2 m (by omega) H enc spare m _ _ (Nat.le_refl _) e2
    exact ⟨(y0, y1, y2), ⟨[u0], [u1, u2], rfl, k0, [u1], [u2], rfl, k1, k2⟩, w0, w1, w2⟩
theorem op_struct4 {α β γ δ : Type} {P : Program} {w : World} {t : Nat} {f0 f1 f2 f3 : Field} {d0 : Kd α} {d1 : Kd β} {d2 : Kd γ} {d3 : Kd δ} {W0 : α → Prop} {W1 : β → Prop} {W2 : γ → Prop} {W3 : δ → Prop} (ht : P.underlying t = some (.struct #[f0, f1, f2, f3])) (hc : P.cellsOf t = 4)
    (o0 : f0.offset = 0) (o1 : f1.offset = 1) (o2 : f2.offset = 2) (o3 : f3.offset = 3) (c0 : P.cellsOf f0.type = 1) (c1 : P.cellsOf f1.type = 1) (c2 : P.cellsOf f2.type = 1) (c3 : P.cellsOf f3.type = 1) (n : Nat) (h0 : ∀ m, m < n → OpN P w f0.type d0 W0 m) (h1 : ∀ m, m < n → OpN P w f1.type d1 W1 m) (h2 : ∀ m, m < n → OpN P w f2.type d2 W2 m) (h3 : ∀ m, m < n → OpN P w f3.type d3 W3 m) :
    OpN P w t (Kd.pair d0 (Kd.pair d1 (Kd.pair d2 d3))) (fun y => W0 y.1 ∧ W1 y.2.1 ∧ W2 y.2.2.1 ∧ W3 y.2.2.2) n := by
  intro H enc spare fuel cs x hf h
  obtain ⟨xs, m, rfl, _, hl, hlen, hel⟩ := DataW.trod_struct ht h
  rw [hc] at hl
  match cs, hl with
  | [u0, u1, u2, u3], _ =>
    have e0 := hel 0 f0 rfl
    have e1 := hel 1 f1 rfl
    have e2 := hel 2 f2 rfl
    have e3 := hel 3 f3 rfl
    rw [o0, c0] at e0
    rw [o1, c1] at e1
    rw [o2, c2] at e2
    rw [o3, c3] at e3
    rw [List.getElem?_eq_getElem (by simp [hlen])] at e0 e1 e2 e3
    obtain ⟨y0, k0, w0⟩ := h0 m (by omega) H enc spare m _ _ (Nat.le_refl _) e0
    obtain ⟨y1, k1, w1⟩ := h1 m (by omega) H enc spare m _ _ (Nat.le_refl _) e1
    obtain ⟨y2, k2, w2⟩ := h2 m (by omega) H enc spare m _ _ (Nat.le_refl _) e2
    obtain ⟨y3, k3, w3⟩ := h3 m (by omega) H enc spare m _ _ (Nat.le_refl _) e3
    exact ⟨(y0, y1, y2, y3), ⟨[u0], [u1, u2, u3], rfl, k0, [u1], [u2, u3], rfl, k1, [u2], [u3], rfl, k2, k3⟩, w0, w1, w2, w3⟩
theorem op_imp {α : Type} {P : Program} {w : World} {t : Nat} {d : Kd α} {W W' : α → Prop} {n : Nat} (h : OpN P w t d W n) (hi : ∀ x, W x → W' x) : OpN P w t d W' n := by
  intro H enc spare fuel cs x hf hx
  obtain ⟨y, hk, hw⟩ := h H enc spare fuel cs x hf hx
  exact ⟨y, hk, hi y hw⟩
end Go.Proofs.YtjfgcipbbcplmaaDoor.Base
