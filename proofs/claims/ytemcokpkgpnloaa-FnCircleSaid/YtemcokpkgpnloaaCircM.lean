/- The circles of words: each word once. -/
import Derived.Test.YtemcokpkgpnloaaLynM
set_option linter.unusedVariables false
set_option linter.unusedSimpArgs false
namespace Go.Proofs.Ytemcokpkgpnloaa.Base
open Go.Proofs.Ytemcokpkgpnloaa.SortR
def circ1 : List Int := [-1, 0, 1]
def circ2 : List Int := [-1, -1, 0, -1, 1, 0, 0, 1, 1]
def circ3 : List Int := [-1, -1, -1, 0, -1, -1, 1, -1, 0, 0, -1, 0, 1, -1, 1, 0, -1, 1, 1, 0, 0, 0, 1, 0, 1, 1, 1]
def circ4 : List Int := [-1, -1, -1, -1, 0, -1, -1, -1, 1, -1, -1, 0, 0, -1, -1, 0, 1, -1, -1, 1, 0, -1, -1, 1, 1, -1, 0, -1, 0, -1, 1, -1, 0, 0, 0, -1, 0, 0, 1, -1, 0, 1, 0, -1, 0, 1, 1, -1, 1, -1, 1, 0, 0, -1, 1, 0, 1, -1, 1, 1, 0, -1, 1, 1, 1, 0, 0, 0, 0, 1, 0, 0, 1, 1, 0, 1, 0, 1, 1, 1, 1]
def circ5 : List Int := [-1, -1, -1, -1, -1, 0, -1, -1, -1, -1, 1, -1, -1, -1, 0, 0, -1, -1, -1, 0, 1, -1, -1, -1, 1, 0, -1, -1, -1, 1, 1, -1, -1, 0, -1, 0, -1, -1, 0, -1, 1, -1, -1, 0, 0, 0, -1, -1, 0, 0, 1, -1, -1, 0, 1, 0, -1, -1, 0, 1, 1, -1, -1, 1, -1, 0, -1, -1, 1, -1, 1, -1, -1, 1, 0, 0, -1, -1, 1, 0, 1, -1, -1, 1, 1, 0, -1, -1, 1, 1, 1, -1, 0, -1, 0, 0, -1, 0, -1, 0, 1, -1, 0, -1, 1, 0, -1, 0, -1, 1, 1, -1, 0, 0, -1, 1, -1, 0, 0, 0, 0, -1, 0, 0, 0, 1, -1, 0, 0, 1, 0, -1, 0, 0, 1, 1, -1, 0, 1, -1, 1, -1, 0, 1, 0, 0, -1, 0, 1, 0, 1, -1, 0, 1, 1, 0, -1, 0, 1, 1, 1, -1, 1, -1, 1, 0, -1, 1, -1, 1, 1, -1, 1, 0, 0, 0, -1, 1, 0, 0, 1, -1, 1, 0, 1, 0, -1, 1, 0, 1, 1, -1, 1, 1, 0, 0, -1, 1, 1, 0, 1, -1, 1, 1, 1, 0, -1, 1, 1, 1, 1, 0, 0, 0, 0, 0, 1, 0, 0, 0, 1, 1, 0, 0, 1, 0, 1, 0, 0, 1, 1, 1, 0, 1, 0, 1, 1, 0, 1, 1, 1, 1, 1]
def circ (k : Nat) : List Int := if k = 1 then circ1 else if k = 2 then circ2 else if k = 3 then circ3 else if k = 4 then circ4 else circ5
def win (c : List Int) (k M i : Nat) : List Int := (List.range k).map (fun p => c.getD ((i + p) % M) 0)
def cvals (c : List Int) (k M : Nat) : List Int := (List.range M).map (fun i => val (win c k M i) + L3 k)
def diff : List Int → Bool
  | [] => true
  | a :: l => !(l.contains a) && diff l
def checkC (k : Nat) : Bool := decide ((circ k).length = 3 ^ k) && (circ k).all isTrit && diff (cvals (circ k) k (3 ^ k))
set_option maxRecDepth 100000
theorem circ_is1 : (specL 1).flatten = circ1 := by decide +kernel
theorem checkC1 : checkC 1 = true := by decide +kernel
theorem circ_is2 : (specL 2).flatten = circ2 := by decide +kernel
theorem checkC2 : checkC 2 = true := by decide +kernel
theorem circ_is3 : (specL 3).flatten = circ3 := by decide +kernel
theorem checkC3 : checkC 3 = true := by decide +kernel
theorem circ_is4 : (specL 4).flatten = circ4 := by decide +kernel
theorem checkC4 : checkC 4 = true := by decide +kernel
theorem circ_is5 : (specL 5).flatten = circ5 := by decide +kernel
theorem checkC5 : checkC 5 = true := by decide +kernel
theorem circ_is (k : Nat) (h : 1 ≤ k ∧ k ≤ 5) : (specL k).flatten = circ k := by
  have : k = 1 ∨ k = 2 ∨ k = 3 ∨ k = 4 ∨ k = 5 := by omega
  rcases this with rfl | rfl | rfl | rfl | rfl
  · exact circ_is1
  · exact circ_is2
  · exact circ_is3
  · exact circ_is4
  · exact circ_is5
theorem checkC_all (k : Nat) (h : 1 ≤ k ∧ k ≤ 5) : checkC k = true := by
  have : k = 1 ∨ k = 2 ∨ k = 3 ∨ k = 4 ∨ k = 5 := by omega
  rcases this with rfl | rfl | rfl | rfl | rfl
  · exact checkC1
  · exact checkC2
  · exact checkC3
  · exact checkC4
  · exact checkC5
theorem diff_get : ∀ (l : List Int), diff l = true → ∀ i (h : i < l.length), l[i] ∉ l.take i
  | [], _, i, h => by simp at h
  | a :: l, hd, 0, h => by simp
  | a :: l, hd, i + 1, h => by
    simp only [diff, Bool.and_eq_true, Bool.not_eq_true', List.contains_eq_mem, decide_eq_false_iff_not] at hd
    have ih := diff_get l hd.2 i (by simpa using h)
    simp only [List.getElem_cons_succ, List.take_succ_cons, List.mem_cons, not_or]
    refine ⟨fun e => hd.1 ?_, ih⟩
    rw [← e]
    exact List.getElem_mem _
def seenM (vs : List Int) (M : Nat) : List Bool := vs.foldl (fun a (v : Int) => a.set v.toNat true) (List.replicate M false)
theorem seenM_snoc (vs : List Int) (v : Int) (M : Nat) : seenM (vs ++ [v]) M = (seenM vs M).set v.toNat true := by simp [seenM, List.foldl_append]
theorem seenM_fold : ∀ (vs : List Int) (a : List Bool) (v : Int), (∀ x ∈ vs, 0 ≤ x) → 0 ≤ v → v ∉ vs → (vs.foldl (fun a (v : Int) => a.set v.toNat true) a).length = a.length ∧ (vs.foldl (fun a (v : Int) => a.set v.toNat true) a)[v.toNat]? = a[v.toNat]?
  | [], a, v, _, _, _ => ⟨rfl, rfl⟩
  | x :: vs, a, v, h0, hv, hn => by
    have ih := seenM_fold vs (a.set x.toNat true) v (fun y hy => h0 y (by simp [hy])) hv (fun h => hn (by simp [h]))
    have hx := h0 x (by simp)
    have hne : ¬ x.toNat = v.toNat := fun e => hn (by have : v = x := by omega
                                                      simp [this])
    refine ⟨by simpa using ih.1, ih.2.trans ?_⟩
    rw [List.getElem?_set, if_neg hne]
theorem seenM_get (vs : List Int) (M : Nat) (v : Int) (h0 : ∀ x ∈ vs, 0 ≤ x) (hv : 0 ≤ v ∧ v < M) (hn : v ∉ vs) : (seenM vs M).length = M ∧ (seenM vs M).getD v.toNat false = false := by
  have h := seenM_fold vs (List.replicate M false) v h0 hv.1 hn
  refine ⟨by simpa [seenM] using h.1, ?_⟩
  rw [List.getD_eq_getElem?_getD]
  have e : (seenM vs M)[v.toNat]? = (List.replicate M false)[v.toNat]? := h.2
  rw [e]
  have : v.toNat < M := by omega
  simp [this]
theorem win_ok (k : Nat) (h : 1 ≤ k ∧ k ≤ 5) (i : Nat) : isWord (win (circ k) k (3 ^ k) i) = true ∧ (win (circ k) k (3 ^ k) i).length = k := by
  have hc := checkC_all k h
  simp only [checkC, Bool.and_eq_true] at hc
  have ht := hc.1.2
  rw [List.all_eq_true] at ht
  have hl : (win (circ k) k (3 ^ k) i).length = k := by simp [win]
  refine ⟨(isWord_iff _).2 ⟨by omega, fun a ha => ?_⟩, hl⟩
  obtain ⟨p, _, rfl⟩ := List.mem_map.1 ha
  rw [List.getD_eq_getElem?_getD]
  rcases h2 : (circ k)[(i + p) % 3 ^ k]? with _ | b
  · simp
  · exact (isTrit_iff _).1 (ht b (List.mem_of_getElem? h2))
end Go.Proofs.Ytemcokpkgpnloaa.Base
