/- Text for FnExactWeighingsOf: written by a program of this session on the pattern of the kit's print. -/
import Derived.Test.YtffohdlbkigehaaHFnExactWeighingsOfx0
import Derived.Test.YtffohdlbkigehaaHFnExactWeighingsOfx1
import Derived.Test.YtffohdlbkigehaaHFnExactWeighingsOfx3
namespace Go.Proofs.Ytffohdlbkigehaa.HFnExactWeighingsOf
open Go.RowKit Go.Proofs.YtffohdlbkigehaaW.PrintWords Go.Proofs.YtffohdlbkigehaaW.PrintLast Go.Proofs.YtffohdlbkigehaaW.PrintMore
attribute [local go_sem] max2_int min2_int max_two min_two max_three min_three max_four min_four   -- for this text's walks alone
set_option linter.unusedVariables false
set_option linter.unusedSimpArgs false

/-! ### impl_WeighingsOf: function 45 -/
/-- One word's trits put into the lists of both pans (two lists a weighing, one behind the other). -/
def impl_WeighingsOf.one (c : Int) : List Int → Nat → List (List Int) → List (List Int)
  | [], _, rs => rs
  | a :: tl, i, rs => impl_WeighingsOf.one c tl (i + 1) (if a = 1 then rs.set (2 * i) (rs.getD (2 * i) [] ++ [c]) else if a = -1 then rs.set (2 * i + 1) (rs.getD (2 * i + 1) [] ++ [c]) else rs)
def impl_WeighingsOf.all : List (List Int) → Int → List (List Int) → List (List Int)
  | [], _, rs => rs
  | w :: ws, c, rs => impl_WeighingsOf.all ws (c + 1) (impl_WeighingsOf.one c w 0 rs)
def impl_WeighingsOf.pairs (rs : List (List Int)) (m : Nat) : List S29 := (List.range m).map (fun i => ⟨rs.getD (2 * i) [], rs.getD (2 * i + 1) []⟩)
theorem impl_WeighingsOf.flat0 (w : World) (base g m : Nat) (cs : Array Value) (ok : Nat → Prop) (hh : w.heap[g]? = some (.cells cs 29 (0, 0))) (hs : cs.toList = List.replicate (2 * m) (.slice none 0 0)) (hb : base ≤ g) (hk : ok g) (hm : 2 * m ≤ maxLen) : Kd.S (Kd.slice 3 (Kd.int .i64)) 29 w base ok (.slice (some ⟨g, 0, none⟩) (2 * m) (2 * m)) (List.replicate (2 * m) []) := by
  have hsz : cs.size = 2 * m := by rw [← Array.length_toList, hs]; simp
  refine ⟨fun _ => 0, fun k hk2 => ?_, cs.toList, ⟨?_, .inr ⟨g, 2 * m, cs, ?_, hb, hh, by simp, hm, ?_, ?_⟩⟩, ?_, fun j p hj => ?_⟩
  · have : g = k := by simpa [Value.ownBlock] using hk2
    exact this ▸ hk
  · simp [hs, Kd.tag, Kd.slice]
  · simp
  · simp [hsz, Kd.tag, Kd.slice]
  · simp [hs, Kd.tag, Kd.slice]
  · simp [hs, Kd.tag, Kd.slice]
  · rw [List.getElem?_zipIdx, List.getElem?_replicate] at hj
    by_cases hjm : j < 2 * m
    · rw [if_pos hjm] at hj
      simp only [Option.map_some, Option.some.injEq] at hj
      subst hj
      refine ⟨.slice none 0 0, ?_, Kd.R_nil _ _ _ _ _⟩
      rw [hs]
      show ((List.replicate (2 * m) (Value.slice none 0 0)).drop (j * 1)).take 1 = _
      rw [Nat.mul_one, List.drop_eq_getElem_cons (by simpa using hjm)]
      simp
    · rw [if_neg hjm] at hj
      simp at hj
theorem impl_WeighingsOf.mk (m : Nat) (hm : m ≤ 1000000) : ∀ W : World, (Instr.makeSlice 58 (.int .i64 (m : Int)) (.int .i64 (m : Int))).run Try.prog W = .ok (.slice (some ⟨W.heap.size, 0, none⟩) m m) (W.alloc (.cells (madeCells #[.slice none 0 0, .slice none 0 0] (m * 2)) 29)) := by
  intro W
  obtain ⟨i0, hi, hzz⟩ := Option.map_eq_some_iff.1 info29
  simp only [Prod.mk.injEq] at hzz
  obtain ⟨hz0, hz1, hz2⟩ := hzz
  have hr := run_make (P := Try.prog) W 58 29 i0 _ Try.underlying58 hi hz0 .i64 .i64 (m : Int) (m : Int) (by omega) (by omega) (by rw [hz2]; omega) (by omega)
  simp only [Int.toNat_natCast] at hr
  rw [hz1] at hr
  exact hr
theorem impl_WeighingsOf.made (m : Nat) : (madeCells #[(.slice none 0 0 : Value), .slice none 0 0] (m * 2)).toList = List.replicate (2 * m) (.slice none 0 0) := by
  apply List.ext_getElem (by simp [madeCells]; omega)
  intro i h1 h2
  have h : i % 2 = 0 ∨ i % 2 = 1 := by omega
  rcases h with h | h <;> simp [madeCells, h]
theorem impl_WeighingsOf.putback {W : World} {base g t N : Nat} {ok oki : Nat → Prop} {rs : List (List Int)} {v0 v1 : Value} {x' : List Int} (hH : Kd.H (Kd.slice 3 (Kd.int .i64)) 29 W base ok (.slice (some ⟨g, 0, none⟩) N N) rs ((t : Nat) : Int) oki [v0]) (ht : t < N) (hR : Kd.R (Kd.int .i64) 3 W base oki v1 x') (hg : ∀ k, oki k → k ≠ g) :
    Kd.S (Kd.slice 3 (Kd.int .i64)) 29 (W.setCell ⟨g, t, none⟩ v1) base ok (.slice (some ⟨g, 0, none⟩) N N) (rs.set t x') := by
  have hone : v1.oneCell' = true := by
    obtain ⟨A, c, rfl⟩ := Kd.R_slice hR
    rfl
  obtain ⟨h2, h3⟩ := Kd.H_seg hH (by omega) (by omega) (seg := [v1]) (j := 0) (by show 0 + 1 ≤ 1; decide) (by intro q hq; rw [List.mem_singleton.1 hq]; exact hone)
  have e : W.setCells g ((t : Int).toNat * (Kd.slice 3 (Kd.int .i64)).sz + 0) [v1] = W.setCell ⟨g, t, none⟩ v1 := by
    simp [World.setCells, Kd.slice]
  rw [e] at h2
  have hb := Kd.H_back h2 (x' := x') (okp := oki) ⟨v1, rfl, Kd.R_far hR (fun k hk => hg k hk) v1⟩ (fun _ h => h)
  simpa using hb
theorem impl_WeighingsOf.lens {rs : List (List Int)} {idx ii t : Nat} (h : ∀ s, (rs.getD s []).length ≤ idx + 1 ∧ (2 * ii ≤ s → (rs.getD s []).length ≤ idx)) (h0 : 2 * ii ≤ t) (h1 : t < 2 * (ii + 1)) (c : Int) : ∀ s, ((rs.set t (rs.getD t [] ++ [c])).getD s []).length ≤ idx + 1 ∧ (2 * (ii + 1) ≤ s → ((rs.set t (rs.getD t [] ++ [c])).getD s []).length ≤ idx) := by
  intro s
  have hs := h s
  have ht := h t
  rw [List.getD_eq_getElem?_getD, List.getElem?_set]
  by_cases he : t = s
  · subst he
    rw [if_pos rfl]
    split
    · simp only [Option.getD_some, List.length_append, List.length_singleton]
      have := ht.2 h0
      exact ⟨by omega, fun h2 => by omega⟩
    · simp
  · rw [if_neg he, ← List.getD_eq_getElem?_getD]
    exact ⟨hs.1, fun h2 => hs.2 (by omega)⟩
def impl_WeighingsOf.Flat (w : World) (b : Nat) (v : Value) (xs : List S29) : Prop := (v = .slice none 0 0 ∧ xs = []) ∨ ∃ (g m : Nat) (rs : List (List Int)), v = .slice (some ⟨g, 0, none⟩) m m ∧ xs = impl_WeighingsOf.pairs rs m ∧ rs.length = 2 * m ∧ Kd.S (Kd.slice 3 (Kd.int .i64)) 29 w b (fun k_ => b ≤ k_) (.slice (some ⟨g, 0, none⟩) (2 * m) (2 * m)) rs
theorem impl_WeighingsOf.flatK {w : World} {b g m : Nat} {rs : List (List Int)} (hl : rs.length = 2 * m) (h : Kd.S (Kd.slice 3 (Kd.int .i64)) 29 w b (fun k_ => b ≤ k_) (.slice (some ⟨g, 0, none⟩) (2 * m) (2 * m)) rs) : Kd.S k29 29 w b (fun _ => True) (.slice (some ⟨g, 0, none⟩) m m) (impl_WeighingsOf.pairs rs m) := by
  obtain ⟨f, hok, inner, ho, hr⟩ := h
  have hil : inner.length = 2 * m := by have := hr.1; rw [List.length_zipIdx, hl] at this; simpa [Kd.tag, Kd.slice] using this
  rcases ho.2 with ⟨he, _⟩ | ⟨g', cap, cur, he, hb, hh, hnc, hcm, hcs, htk⟩
  · exact absurd he (by simp)
  · injection he with e1 e2 e3
    injection e1 with e1
    injection e1 with e1
    subst e1
    subst e3
    have hcs' : cur.size = 2 * m := by simpa [Kd.tag, Kd.slice] using hcs
    have htk' : cur.toList.take (2 * m) = inner := by rw [← htk, List.length_zipIdx, hl]; simp [Kd.tag, Kd.slice]
    have hz : (Kd.tag (fun k => f k / 2) k29).sz = 2 := rfl
    have hpl : (impl_WeighingsOf.pairs rs m).length = m := by simp [impl_WeighingsOf.pairs]
    refine ⟨fun k => f k / 2, fun k _ => trivial, inner, ⟨by rw [List.length_zipIdx, hpl, hz, hil]; omega, .inr ⟨g, m, cur, by rw [List.length_zipIdx, hpl], hb, hh, by rw [List.length_zipIdx, hpl]; exact Nat.le_refl _, by omega, by rw [hz, hcs']; omega, by rw [List.length_zipIdx, hpl, hz, Nat.mul_comm]; exact htk'⟩⟩, by rw [List.length_zipIdx, hpl, hz, hil]; omega, fun j p hj => ?_⟩
    have hjm : j < m := by
      have := (List.getElem?_eq_some_iff.1 hj).1
      rw [List.length_zipIdx, hpl] at this
      exact this
    have hpj : (impl_WeighingsOf.pairs rs m)[j]? = some ⟨rs.getD (2 * j) [], rs.getD (2 * j + 1) []⟩ := by
      simp [impl_WeighingsOf.pairs, hjm]
    have hp2 := Kd.zip_at hpj
    rw [hp2] at hj
    obtain rfl := Option.some.inj hj
    have row : ∀ t, t < 2 * m → ∃ v, inner[t]? = some v ∧ Kd.R (Kd.int .i64) 3 w b (fun k => k ≠ g ∧ f k = t) v (rs.getD t []) := by
      intro t ht
      have htl : t < rs.length := by omega
      obtain ⟨v, hc, hR⟩ := hr.2 t (rs[t], t) (Kd.zip_at (List.getElem?_eq_getElem htl))
      have hsz : (Kd.tag f (Kd.slice 3 (Kd.int .i64))).sz = 1 := rfl
      rw [hsz, Nat.mul_one, List.drop_eq_getElem_cons (by omega)] at hc
      simp only [List.take_succ_cons, List.take_zero] at hc
      injection hc with hc _
      have eg : rs.getD t [] = rs[t] := by simp [List.getD_eq_getElem?_getD, List.getElem?_eq_getElem htl]
      rw [eg]
      exact ⟨v, by rw [List.getElem?_eq_getElem (by omega), hc], Kd.R_mono hR (fun k hk => ⟨fun e => hk.1.2 (by simp [Value.ownBlock, e]), hk.2⟩)⟩
    obtain ⟨v0, i0, r0⟩ := row (2 * j) (by omega)
    obtain ⟨v1, i1, r1⟩ := row (2 * j + 1) (by omega)
    have hcell : (inner.drop (j * 2)).take 2 = [v0, v1] := by
      obtain ⟨h0, e0⟩ := List.getElem?_eq_some_iff.1 i0
      obtain ⟨h1, e1⟩ := List.getElem?_eq_some_iff.1 i1
      rw [Nat.mul_comm, List.drop_eq_getElem_cons h0, List.drop_eq_getElem_cons h1, e0, e1]
      simp
    show k29.M w b _ _ ((inner.drop (j * (Kd.tag (fun k => f k / 2) k29).sz)).take (Kd.tag (fun k => f k / 2) k29).sz)
    rw [hz, hcell]
    exact k29_mkM w b _ _ (Kd.R_mono r0 (fun k hk => ⟨⟨trivial, fun e => hk.1 (by simpa [Value.ownBlock] using e)⟩, by show f k / 2 = j; omega⟩)) (Kd.R_mono r1 (fun k hk => ⟨⟨trivial, fun e => hk.1 (by simpa [Value.ownBlock] using e)⟩, by show f k / 2 = j; omega⟩))
def impl_WeighingsOf.f (k : Nat) (l : List (List Int)) : Option (List S29 × Bool) := (impl_sameLength.f k l).bind fun t => if t = true then (if 0 < l.length ∧ l.length ≤ 1000000 ∧ (l.getD 0 []).length ≤ 1000000 ∧ (∀ w ∈ l, w.length = (l.getD 0 []).length) then some (impl_WeighingsOf.pairs (impl_WeighingsOf.all l 0 (List.replicate (2 * (l.getD 0 []).length) [])) (l.getD 0 []).length, true) else none) else some ([], false)
theorem impl_WeighingsOf.mono : ∀ l k, LeO (impl_WeighingsOf.f k l) (impl_WeighingsOf.f (k + 1) l) := fun l k => LeO.bind (impl_sameLength.mono l k) (fun _ => LeO.refl _)
set_option maxHeartbeats 8000000 in
set_option maxRecDepth 100000 in
theorem impl_WeighingsOf.calls0 (k : Nat) (A0 : Option Addr) (c0 : Nat) (l0 : List (List Int)) (r1 : List S29) (r2 : Bool) (w : World) (hr0 : Kd.C (Kd.slice 3 (Kd.int .i64)) w A0 l0.length l0) (hc0 : l0.length ≤ c0) (h : impl_WeighingsOf.f k l0 = some (r1, r2)) :
    Calls Try.prog 45 #[.slice A0 l0.length c0] w fun e w' => ∃ v0_ : Value, e = .returned (.tuple #[v0_, .bool r2]) ∧ impl_WeighingsOf.Flat w' w.heap.size v0_ r1 ∧ Below w.heap.size w w' := by
  unfold impl_WeighingsOf.f at h
  obtain ⟨t, ht, h1⟩ := Option.bind_eq_some_iff.1 h
  clear h
  cases t with
  | false =>
    rw [if_neg (by simp)] at h1
    obtain ⟨rfl, rfl⟩ := Prod.mk.inj (Option.some.inj h1)
    clear h1
    go_enter Try.func45, Try.ntmps45
    go_wp2_with (go_at_call 69; with_reducible refine (impl_sameLength.calls k A0 c0 l0 false _ hr0 hc0 ht).mono ?_; rintro e w1 ⟨rfl, hb1⟩)
    go_ret2
    exact ⟨_, rfl, .inl ⟨rfl, rfl⟩, by repeat (first | (with_reducible first | exact hb1 | apply below_alloc | apply pw_below_drewN | apply below_drew1) | exact hb1)⟩
  | true =>
    rw [if_pos rfl] at h1
    by_cases hc : 0 < l0.length ∧ l0.length ≤ 1000000 ∧ (l0.getD 0 []).length ≤ 1000000 ∧ (∀ w ∈ l0, w.length = (l0.getD 0 []).length)
    · rw [if_pos hc] at h1
      obtain ⟨rfl, rfl⟩ := Prod.mk.inj (Option.some.inj h1)
      clear h1
      obtain ⟨hl0, hl1, hm1, hall⟩ := hc
      obtain ⟨g2, g4, hg⟩ := Go.Proofs.Ytffohdlbkigehaa.Any.rowsOf hr0
      obtain ⟨ad0, e0, hb0, hx0, _, _⟩ := hg 0 hl0
      cases e0
      rw [Addr.add_zero'] at hb0 hx0
      obtain ⟨m, hm⟩ : ∃ m, m = (l0.getD 0 []).length := ⟨_, rfl⟩
      rw [← hm] at hx0 hm1 hall ⊢
      have hmk := impl_WeighingsOf.mk m hm1
      replace hall := Aside0.mk hall
      replace hg := Aside0.mk hg
      replace hr0 := Aside0.mk hr0
      clear hm
      have b1 : (0 < l0.length) = True := eq_true hl0
      have b2 : ((0 : Int) < (l0.length : Int)) = True := eq_true (by omega)
      go_enter Try.func45, Try.ntmps45
      go_wp2_with (go_at_call 69; with_reducible refine (impl_sameLength.calls k (some ad0) c0 l0 true _ hr0.out hc0 ht).mono ?_; rintro e w1 ⟨rfl, hb1⟩; have hx1 := Go.Proofs.Ytffohdlbkigehaa.Any.cell_below hb1 hb0 hx0; replace hb1 := Aside0.mk hb1)
      obtain ⟨g, hgq⟩ : ∃ g, g = w1.heap.size := ⟨_, rfl⟩
      have hS0 : Aside0 (Kd.S (Kd.slice 3 (Kd.int .i64)) 29 (w1.alloc (.cells (madeCells #[.slice none 0 0, .slice none 0 0] (m * 2)) 29)) w.heap.size (fun k_ => w.heap.size ≤ k_) (.slice (some ⟨g, 0, none⟩) (2 * m) (2 * m)) (List.replicate (2 * m) [])) := ⟨impl_WeighingsOf.flat0 _ _ g m _ _ (by rw [hgq]; exact heap_alloc_new _ _) (impl_WeighingsOf.made m) (by rw [hgq]; exact hb1.out.size) (by rw [hgq]; exact hb1.out.size) (by simp [maxLen]; omega)⟩
      rw [← hgq]
      have hgw : w.heap.size ≤ g := by rw [hgq]; exact hb1.out.size
      clear hx1 hx0 hmk
      go_loopg [19] l0.length (fun gg s19 wr => ∃ (idx : Nat) (rs : List (List Int)), idx ≤ l0.length ∧ l0.length - idx ≤ gg ∧ s19 = .int .i64 idx ∧ Aside0 (impl_WeighingsOf.all (l0.drop idx) idx rs = impl_WeighingsOf.all l0 0 (List.replicate (2 * m) []) ∧ rs.length = 2 * m ∧ ∀ t, (rs.getD t []).length ≤ idx) ∧ Aside0 (Kd.S (Kd.slice 3 (Kd.int .i64)) 29 wr w.heap.size (fun k_ => w.heap.size ≤ k_) (.slice (some ⟨g, 0, none⟩) (2 * m) (2 * m)) rs) ∧ Aside0 (Below w.heap.size w wr))
      case atStart => exact ⟨0, List.replicate (2 * m) [], Nat.zero_le _, by omega, rfl, ⟨rfl, by simp, fun t => by simp [List.getD_eq_getElem?_getD, List.getElem?_replicate]; split <;> simp⟩, hS0, ⟨by repeat (first | (with_reducible first | exact hb1.out | apply below_alloc | apply pw_below_drewN | apply below_drew1) | exact hb1.out)⟩⟩
      case round =>
        clear hS0 hgq hb1
        obtain ⟨idx, rs, hix, hig, rfl, hA, HS, HB⟩ := hrel
        by_cases hlt : idx < l0.length
        · have hltz : decide ((idx : Int) < (l0.length : Int)) = true := decide_eq_true (by omega)
          obtain ⟨ad, ea, hba, hxa, hga, hCa⟩ := hg.out idx hlt
          cases ea
          have hxw := Go.Proofs.Ytffohdlbkigehaa.Any.cell_below HB.out hba hxa
          have egd : l0.getD idx [] = l0[idx] := by simp [List.getD_eq_getElem?_getD, List.getElem?_eq_getElem hlt]
          obtain ⟨wd, hwd⟩ : ∃ wd, wd = l0.getD idx [] := ⟨_, rfl⟩
          have hwm : wd.length = m := by rw [hwd, egd]; exact hall.out _ (List.getElem_mem _)
          obtain ⟨hA1, hrl, hlen⟩ := hA.out
          have hA2 : impl_WeighingsOf.all (l0.drop (idx + 1)) ((idx : Int) + 1) (impl_WeighingsOf.one idx wd 0 rs) = impl_WeighingsOf.all l0 0 (List.replicate (2 * m) []) := by
            rw [← hA1, List.drop_eq_getElem_cons hlt, impl_WeighingsOf.all, hwd, egd]
          rw [← hwd, hwm] at hxw
          rw [← hwd] at hCa hga
          obtain ⟨Gx, hGx⟩ : ∃ Gx, Gx = g2 idx := ⟨_, rfl⟩
          rw [← hGx] at hxw hCa
          clear hGx
          have hCa0 := Aside0.mk hCa
          clear hwd egd hA hA1 hxa hCa
          have b3 : (idx < l0.length) = True := eq_true hlt
          have b4 : (0 ≤ (idx : Int)) = True := eq_true (by omega)
          have b5 : ((idx : Int) < (l0.length : Int)) = True := eq_true (by omega)
          replace hA2 := Aside0.mk hA2
          replace hlen := Aside0.mk hlen
          replace hwm := Aside0.mk hwm
          go_wp2
          go_loopg [26] m (fun gg s26 wr => ∃ (ii : Nat) (rs : List (List Int)), ii ≤ m ∧ m - ii ≤ gg ∧ s26 = .int .i64 ii ∧ Aside0 (impl_WeighingsOf.all (l0.drop (idx + 1)) ((idx : Int) + 1) (impl_WeighingsOf.one idx (wd.drop ii) ii rs) = impl_WeighingsOf.all l0 0 (List.replicate (2 * m) []) ∧ rs.length = 2 * m ∧ ∀ t, (rs.getD t []).length ≤ idx + 1 ∧ (2 * ii ≤ t → (rs.getD t []).length ≤ idx)) ∧ Aside0 (Kd.S (Kd.slice 3 (Kd.int .i64)) 29 wr w.heap.size (fun k_ => w.heap.size ≤ k_) (.slice (some ⟨g, 0, none⟩) (2 * m) (2 * m)) rs) ∧ Aside0 (Below w.heap.size w wr))
          case atStart => exact ⟨0, rs, Nat.zero_le _, by omega, rfl, ⟨by simpa using hA2.out, hrl, fun t => ⟨by have := hlen.out t; omega, fun _ => hlen.out t⟩⟩, HS, HB⟩
          case round =>
            clear hxw HS HB hA2 hlen hrl
            obtain ⟨ii, rs, hii, hgi, rfl, hA, HS, HB⟩ := hrel
            by_cases hlti : ii < m
            · have hltzi : decide ((ii : Int) < (m : Int)) = true := decide_eq_true (by omega)
              obtain ⟨adx, ex, hx⟩ := Kd.at_int (Kd.C_below hCa0.out HB.out) (ii : Int) (by omega) (by have := hwm.out; omega)
              obtain ⟨hA1, hrl, hlen⟩ := hA.out
              have hil : ii < wd.length := by have := hwm.out; omega
              have e : rd wd (ii : Int) = wd[ii] := by simp [rd, List.getD_eq_getElem?_getD, List.getElem?_eq_getElem hil]
              rw [show ((ii : Int)).toNat = ii by omega, e] at hx
              rw [List.drop_eq_getElem_cons hil, impl_WeighingsOf.one] at hA1
              obtain ⟨a, ha⟩ : ∃ a, a = wd[ii] := ⟨_, rfl⟩
              rw [← ha] at hx hA1
              clear ha e hil hA
              have b6 : (0 ≤ (ii : Int)) = True := eq_true (by omega)
              have b7 : ((ii : Int) < (m : Int)) = True := eq_true (by omega)
              have b8 : (ii < m) = True := eq_true hlti
              have hk1 : ii + 1 ≤ m := hlti
              cases ex
              by_cases a1 : a = 1
              · rw [if_pos a1] at hA1
                have a1b : (a == 1) = true := beq_iff_eq.mpr a1
                clear a1
                obtain ⟨oki, cc, hcs, hM, hcell, hfr, hoki, hH⟩ := Kd.S_elem HS.out [] ((2 * ii : Nat) : Int) (by omega) (by omega)
                rw [show (((2 * ii : Nat) : Int)).toNat = 2 * ii by omega] at hM hcell hfr
                have hlen2 := Aside0.mk (impl_WeighingsOf.lens (t := 2 * ii) hlen (by omega) (by omega) (idx : Int))
                have hxl := (hlen (2 * ii)).1
                obtain ⟨xx, hxx⟩ : ∃ xx, xx = (rs.getD (2 * ii) []) := ⟨_, rfl⟩
                rw [← hxx] at hM hA1 hlen2 hxl
                clear hxx
                obtain ⟨yy, hyy⟩ : ∃ yy, yy = xx ++ [(idx : Int)] := ⟨_, rfl⟩
                rw [← hyy] at hA1 hlen2
                replace hyy := Aside0.mk hyy
                obtain ⟨v, rfl, hR⟩ := hM
                obtain ⟨Av, cv, rfl⟩ := Kd.R_slice hR
                have hx2 : wr.cell? ⟨g, ii * 2, none⟩ = some (.slice Av xx.length cv) := by
                  have h1 := hcell 0 _ rfl
                  simpa [Kd.slice, Nat.mul_comm] using h1
                have hf2 : wr.frozen? ⟨g, ii * 2, none⟩ = false := by
                  have h1 := hfr 0
                  simpa [Kd.slice, Nat.mul_comm] using h1
                have hne : some g ≠ (Value.slice Av xx.length cv).ownBlock := fun e => (hoki g (hR.1 g e.symm)).2 rfl
                have hHw := Kd.H_widen hH
                replace hA1 := Aside0.mk hA1
                replace hlen := Aside0.mk hlen
                go_wp2_with ((with_reducible refine gate_builtin (b := .append) (xs := #[.tmp 40, .tmp 42]) rfl ?_); at_builtin; refine Kd.R_append (Kd.int .i64) (w0 := w) w.heap.size rfl (.tmp 40) (.tmp 42) 22 3 (.int .i64 0) 8 rfl Try.underlying22 info3 rfl (by decide) (by omega) (.slice Av xx.length cv) xx (idx : Int) [.int .i64 idx] (fun k_ => oki k_ ∨ w.heap.size ≤ k_ ∧ wr.heap.size ≤ k_) (fun _ => False) rfl rfl ?aP (fun _ hk => hk.elim) ?aF ?aO ?aB ?aS ?aL ?_; (case aP => exact rfl); (case aB => exact HB.out); (case aF => exact (fun k_ hk_ => .inr ⟨Nat.le_trans HB.out.size hk_, hk_⟩)); (case aO => exact Kd.R_mono hR (fun k_ hk_ => .inl hk_)); (case aS => exact HB.out.size); (case aL => omega); intro v1 w2 hR1 hB1 hG1 _; rw [← hyy.out] at hR1; obtain ⟨Aw, cw, rfl⟩ := Kd.R_slice hR1; have hx3 := World.grownBy.cell hG1 hx2 hne; have hf3 : w2.frozen? ⟨g, ii * 2, none⟩ = false := (World.frozen?_of_block (hG1.block g (World.block_lt_of_cell? _ _ hx2) hne)).trans hf2; have hS2 := impl_WeighingsOf.putback (Kd.H_grown hHw hG1 (fun k_ hk_ => .inl (hR.1 k_ hk_))) (by omega) hR1 (fun k_ hk_ => hk_.elim (fun h_ => (hoki k_ h_).2) (fun h_ => by have h1_ := World.block_lt_of_cell? _ _ hx2; dsimp only at h1_; omega)); have hB2 := Below.setCell hB1 (p := ⟨g, ii * 2, none⟩) hgw (.slice Aw yy.length cw); replace hS2 := Aside0.mk hS2; replace hB2 := Aside0.mk hB2; clear hG1 hR1 hB1)
                go_roundg (m - (ii + 1))
                case measure => omega
                case rel => exact ⟨ii + 1, rs.set (2 * ii) yy, by omega, by omega, by go_num, ⟨hA1.out, by simpa using hrl, hlen2.out⟩, by first | exact hS2 | (rw [show ii * 2 = 2 * ii by omega]; exact hS2), hB2⟩
              · rw [if_neg a1] at hA1
                have a1b : (a == 1) = false := beq_eq_false_iff_ne.mpr a1
                by_cases a2 : a = -1
                · rw [if_pos a2] at hA1
                  have a2b : (a == -1) = true := beq_iff_eq.mpr a2
                  clear a1 a2
                  obtain ⟨oki, cc, hcs, hM, hcell, hfr, hoki, hH⟩ := Kd.S_elem HS.out [] ((2 * ii + 1 : Nat) : Int) (by omega) (by omega)
                  rw [show (((2 * ii + 1 : Nat) : Int)).toNat = 2 * ii + 1 by omega] at hM hcell hfr
                  have hlen2 := Aside0.mk (impl_WeighingsOf.lens (t := 2 * ii + 1) hlen (by omega) (by omega) (idx : Int))
                  have hxl := (hlen (2 * ii + 1)).1
                  obtain ⟨xx, hxx⟩ : ∃ xx, xx = (rs.getD (2 * ii + 1) []) := ⟨_, rfl⟩
                  rw [← hxx] at hM hA1 hlen2 hxl
                  clear hxx
                  obtain ⟨yy, hyy⟩ : ∃ yy, yy = xx ++ [(idx : Int)] := ⟨_, rfl⟩
                  rw [← hyy] at hA1 hlen2
                  replace hyy := Aside0.mk hyy
                  obtain ⟨v, rfl, hR⟩ := hM
                  obtain ⟨Av, cv, rfl⟩ := Kd.R_slice hR
                  have hx2 : wr.cell? ⟨g, ii * 2 + 1, none⟩ = some (.slice Av xx.length cv) := by
                    have h1 := hcell 0 _ rfl
                    simpa [Kd.slice, Nat.mul_comm] using h1
                  have hf2 : wr.frozen? ⟨g, ii * 2 + 1, none⟩ = false := by
                    have h1 := hfr 0
                    simpa [Kd.slice, Nat.mul_comm] using h1
                  have hne : some g ≠ (Value.slice Av xx.length cv).ownBlock := fun e => (hoki g (hR.1 g e.symm)).2 rfl
                  have hHw := Kd.H_widen hH
                  replace hA1 := Aside0.mk hA1
                  replace hlen := Aside0.mk hlen
                  go_wp2_with ((with_reducible refine gate_builtin (b := .append) (xs := #[.tmp 54, .tmp 56]) rfl ?_); at_builtin; refine Kd.R_append (Kd.int .i64) (w0 := w) w.heap.size rfl (.tmp 54) (.tmp 56) 22 3 (.int .i64 0) 8 rfl Try.underlying22 info3 rfl (by decide) (by omega) (.slice Av xx.length cv) xx (idx : Int) [.int .i64 idx] (fun k_ => oki k_ ∨ w.heap.size ≤ k_ ∧ wr.heap.size ≤ k_) (fun _ => False) rfl rfl ?aP (fun _ hk => hk.elim) ?aF ?aO ?aB ?aS ?aL ?_; (case aP => exact rfl); (case aB => exact HB.out); (case aF => exact (fun k_ hk_ => .inr ⟨Nat.le_trans HB.out.size hk_, hk_⟩)); (case aO => exact Kd.R_mono hR (fun k_ hk_ => .inl hk_)); (case aS => exact HB.out.size); (case aL => omega); intro v1 w2 hR1 hB1 hG1 _; rw [← hyy.out] at hR1; obtain ⟨Aw, cw, rfl⟩ := Kd.R_slice hR1; have hx3 := World.grownBy.cell hG1 hx2 hne; have hf3 : w2.frozen? ⟨g, ii * 2 + 1, none⟩ = false := (World.frozen?_of_block (hG1.block g (World.block_lt_of_cell? _ _ hx2) hne)).trans hf2; have hS2 := impl_WeighingsOf.putback (Kd.H_grown hHw hG1 (fun k_ hk_ => .inl (hR.1 k_ hk_))) (by omega) hR1 (fun k_ hk_ => hk_.elim (fun h_ => (hoki k_ h_).2) (fun h_ => by have h1_ := World.block_lt_of_cell? _ _ hx2; dsimp only at h1_; omega)); have hB2 := Below.setCell hB1 (p := ⟨g, ii * 2 + 1, none⟩) hgw (.slice Aw yy.length cw); replace hS2 := Aside0.mk hS2; replace hB2 := Aside0.mk hB2; clear hG1 hR1 hB1)
                  go_roundg (m - (ii + 1))
                  case measure => omega
                  case rel => exact ⟨ii + 1, rs.set (2 * ii + 1) yy, by omega, by omega, by go_num, ⟨hA1.out, by simpa using hrl, hlen2.out⟩, by first | exact hS2 | (rw [show ii * 2 + 1 = 2 * ii + 1 by omega]; exact hS2), hB2⟩
                · rw [if_neg a2] at hA1
                  have a2b : (a == -1) = false := beq_eq_false_iff_ne.mpr a2
                  replace hA1 := Aside0.mk hA1
                  replace hlen := Aside0.mk hlen
                  clear a1 a2
                  go_wp2
                  go_roundg (m - (ii + 1))
                  case measure => omega
                  case rel => exact ⟨ii + 1, rs, by omega, by omega, by go_num, ⟨hA1.out, hrl, fun t => ⟨(hlen.out t).1, fun h2 => (hlen.out t).2 (by omega)⟩⟩, HS, HB⟩
            · have hltzi : decide ((ii : Int) < (m : Int)) = false := decide_eq_false (by omega)
              obtain ⟨hA1, hrl, hlen⟩ := hA.out
              rw [show wd.drop ii = [] from List.drop_eq_nil_of_le (by have := hwm.out; omega), impl_WeighingsOf.one] at hA1
              replace hA1 := Aside0.mk hA1
              replace hlen := Aside0.mk hlen
              clear hA
              have hk1 : idx + 1 ≤ l0.length := hlt
              go_wp2
              go_roundg (l0.length - (idx + 1))
              case measure => omega
              case rel => exact ⟨idx + 1, rs, by omega, by omega, by go_num, ⟨by simpa using hA1.out, hrl, fun t => (hlen.out t).1⟩, HS, HB⟩
        · have hltz : decide ((idx : Int) < (l0.length : Int)) = false := decide_eq_false (by omega)
          obtain ⟨hA1, hrl, _⟩ := hA.out
          rw [List.drop_eq_nil_of_le (by omega), impl_WeighingsOf.all] at hA1
          have hA2 := Aside0.mk hA1
          clear hA1 hA
          go_wp2
          go_ret2
          exact ⟨_, rfl, .inr ⟨g, m, rs, rfl, by rw [hA2.out], hrl, HS.out⟩, HB.out⟩
    · rw [if_neg hc] at h1
      exact absurd h1 (by simp)
theorem impl_WeighingsOf.calls (k : Nat) (A0 : Option Addr) (c0 : Nat) (l0 : List (List Int)) (r1 : List S29) (r2 : Bool) (w : World) (hr0 : Kd.C (Kd.slice 3 (Kd.int .i64)) w A0 l0.length l0) (hc0 : l0.length ≤ c0) (h : impl_WeighingsOf.f k l0 = some (r1, r2)) :
    Calls Try.prog 45 #[.slice A0 l0.length c0] w fun e w' => ∃ v0_ : Value, e = .returned (.tuple #[v0_, .bool r2]) ∧ Kd.S k29 29 w' w.heap.size (fun _ => True) v0_ r1 ∧ Below w.heap.size w w' := by
  refine (impl_WeighingsOf.calls0 k A0 c0 l0 r1 r2 w hr0 hc0 h).mono ?_
  rintro e w' ⟨v, rfl, hF, hB⟩
  refine ⟨v, rfl, ?_, hB⟩
  rcases hF with ⟨rfl, rfl⟩ | ⟨g, m, rs, rfl, rfl, hl, hS⟩
  · exact Kd.S_nil _ _ _ _ _
  · exact impl_WeighingsOf.flatK hl hS

/-! ### laws_eqWeighing: function 19 -/
def laws_eqWeighing.f (k : Nat) (l0_0 : List Int) (l0_1 : List Int) (l1_0 : List Int) (l1_1 : List Int) : Option (Bool) := (laws_eqIntS.f k l0_0 l1_0).bind fun t158 => (if t158 = true then ((laws_eqIntS.f k l0_1 l1_1).bind fun t159 => (if t159 = true then (some true) else (some false))) else (some false))
theorem laws_eqWeighing.mono : ∀ a0 a1 a2 a3 k, LeO (laws_eqWeighing.f k a0 a1 a2 a3) (laws_eqWeighing.f (k + 1) a0 a1 a2 a3) := by
  intro a0 a1 a2 a3 k
  unfold laws_eqWeighing.f
  repeat' first
      | (with_reducible exact laws_eqIntS.mono _ _ _)
      | (with_reducible exact LeO.refl _)
      | (with_reducible exact LeO.none _)
      | (with_reducible refine LeO.ite ?_ ?_)
      | (with_reducible refine LeO.bind ?_ (fun _ => ?_))
      | exact laws_eqIntS.mono _ _ _
      | exact LeO.none _
      | refine LeO.ite ?_ ?_
      | refine LeO.bind ?_ (fun _ => ?_)
set_option maxHeartbeats 8000000 in
set_option maxRecDepth 100000 in
theorem laws_eqWeighing.calls (k : Nat) (A0_0 : Option Addr) (c0_0 : Nat) (l0_0 : List Int) (A0_1 : Option Addr) (c0_1 : Nat) (l0_1 : List Int) (A1_0 : Option Addr) (c1_0 : Nat) (l1_0 : List Int) (A1_1 : Option Addr) (c1_1 : Nat) (l1_1 : List Int) (r : Bool) (w : World) (hr0_0 : Kd.C (Kd.int .i64) w A0_0 l0_0.length l0_0) (hc0_0 : l0_0.length ≤ c0_0) (hr0_1 : Kd.C (Kd.int .i64) w A0_1 l0_1.length l0_1) (hc0_1 : l0_1.length ≤ c0_1) (hr1_0 : Kd.C (Kd.int .i64) w A1_0 l1_0.length l1_0) (hc1_0 : l1_0.length ≤ c1_0) (hr1_1 : Kd.C (Kd.int .i64) w A1_1 l1_1.length l1_1) (hc1_1 : l1_1.length ≤ c1_1) (h : laws_eqWeighing.f k l0_0 l0_1 l1_0 l1_1 = some r) :
    Calls Try.prog 19 #[.agg #[.slice A0_0 l0_0.length c0_0, .slice A0_1 l0_1.length c0_1], .agg #[.slice A1_0 l1_0.length c1_0, .slice A1_1 l1_1.length c1_1]] w fun e w' => e = .returned (.bool r) ∧ Below w.heap.size w w' := by
  have hu29 := Try.underlying29
  have HR0_0 := Aside0.mk hr0_0
  have HC0_0 := Aside0.mk hc0_0
  clear hr0_0 hc0_0
  have HR0_1 := Aside0.mk hr0_1
  have HC0_1 := Aside0.mk hc0_1
  clear hr0_1 hc0_1
  have HR1_0 := Aside0.mk hr1_0
  have HC1_0 := Aside0.mk hc1_0
  clear hr1_0 hc1_0
  have HR1_1 := Aside0.mk hr1_1
  have HC1_1 := Aside0.mk hc1_1
  clear hr1_1 hc1_1
  have HB := Aside0.mk (Below.refl w.heap.size w)
  have H : ((laws_eqIntS.f k l0_0 l1_0).bind fun t158 => (if t158 = true then ((laws_eqIntS.f k l0_1 l1_1).bind fun t159 => (if t159 = true then (some true) else (some false))) else (some false))) = some r := h
  clear h
  replace H := Option.bind_eq_some_iff.mp H
  obtain ⟨t158, A30, H⟩ := H
  replace H : (if t158 = true then ((laws_eqIntS.f k l0_1 l1_1).bind fun t159 => (if t159 = true then (some true) else (some false))) else (some false)) = some r := H
  have A3 := Aside0.mk A30
  clear A30
  by_cases c4 : t158 = true
  · (try subst c4)
    have H1 : ((laws_eqIntS.f k l0_1 l1_1).bind fun t159 => (if t159 = true then (some true) else (some false))) = some r := by rw [if_pos rfl] at H; exact H
    clear H
    have H := H1
    clear H1
    replace H := Option.bind_eq_some_iff.mp H
    obtain ⟨t159, A50, H⟩ := H
    replace H : (if t159 = true then (some true) else (some false)) = some r := H
    have A5 := Aside0.mk A50
    clear A50
    by_cases c6 : t159 = true
    · (try subst c6)
      have H1 : (some true) = some r := by rw [if_pos rfl] at H; exact H
      clear H
      have H := H1
      clear H1
      obtain rfl := Option.some.inj H
      go_enter Try.func19, Try.ntmps19
      go_wp2_with (first | ((with_reducible refine gate_dst (N := 2) rfl ?_); refine box_event ?hg (N := 2) ?hd (cs := #[.slice A0_0 l0_0.length c0_0, .slice A0_1 l0_1.length c0_1]) (t := 29) ?hr ?_; (case hd => rfl); (case hg => rfl); (case hr => first | (go_simp; done) | (go_simp; rfl)); intro gb156 hg w7 hbox hb; have n0_ := Aside0.mk (below_step (by repeat (first | (with_reducible first | exact HB.out | apply below_alloc | apply pw_below_drewN | apply below_drew1) | exact HB.out)) hb); have n1_ := Aside0.mk (hbox); have n2_ := Aside0.mk ((by rw [hg]; exact (below_size (by repeat (first | (with_reducible first | exact HB.out | apply below_alloc | apply pw_below_drewN | apply below_drew1) | exact HB.out))) : w.heap.size ≤ gb156)); have n3_ := Aside0.mk ((by rw [hg]; exact (below_size (by repeat (first | (with_reducible first | exact HB.out | apply below_alloc | apply pw_below_drewN | apply below_drew1) | exact HB.out))) : w.heap.size ≤ gb156)); clear HB; have HB := n0_; have BK156 := n1_; have GW156 := n2_; have GE156 := n3_; clear n0_ n1_ n2_ n3_; clear hb hbox hg) | ((with_reducible refine gate_dst (N := 3) rfl ?_); refine box_event ?hg (N := 3) ?hd (cs := #[.slice A1_0 l1_0.length c1_0, .slice A1_1 l1_1.length c1_1]) (t := 29) ?hr ?_; (case hd => rfl); (case hg => rfl); (case hr => first | (go_simp; done) | (go_simp; rfl)); intro gb157 hg w8 hbox hb; have n0_ := Aside0.mk (blk_below (g := gb156) (o := .cells #[.slice A0_0 l0_0.length c0_0, .slice A0_1 l0_1.length c0_1] 29 (0, 0)) (by (with_reducible repeat (first | refine blk_drewN ?_ _ | refine blk_drew ?_ | refine blk_alloc ?_ _)); exact BK156.out) hb); have n1_ := Aside0.mk (below_step (by repeat (first | (with_reducible first | exact HB.out | apply below_alloc | apply pw_below_drewN | apply below_drew1 | refine below_set ?_ GE156.out) | exact HB.out)) hb); have n2_ := Aside0.mk (hbox); have n3_ := Aside0.mk ((by rw [hg]; exact (below_size (by repeat (first | (with_reducible first | exact HB.out | apply below_alloc | apply pw_below_drewN | apply below_drew1 | refine below_set ?_ GE156.out) | exact HB.out))) : w.heap.size ≤ gb157)); have n4_ := Aside0.mk ((by rw [hg]; exact (below_size (by repeat (first | (with_reducible first | exact HB.out | apply below_alloc | apply pw_below_drewN | apply below_drew1 | refine below_set ?_ GE156.out) | exact HB.out))) : w.heap.size ≤ gb157)); have n5_ := Aside0.mk ((by rw [hg]; exact Nat.ne_of_lt (blk_lt (g := gb156) (o := .cells #[.slice A0_0 l0_0.length c0_0, .slice A0_1 l0_1.length c0_1] 29 (0, 0)) (by (with_reducible repeat (first | refine blk_drewN ?_ _ | refine blk_drew ?_ | refine blk_alloc ?_ _)); exact BK156.out)) : gb156 ≠ gb157)); have n6_ := Aside0.mk ((by rw [hg]; exact Nat.ne_of_gt (blk_lt (g := gb156) (o := .cells #[.slice A0_0 l0_0.length c0_0, .slice A0_1 l0_1.length c0_1] 29 (0, 0)) (by (with_reducible repeat (first | refine blk_drewN ?_ _ | refine blk_drew ?_ | refine blk_alloc ?_ _)); exact BK156.out)) : gb157 ≠ gb156)); clear BK156; clear HB; have BK156 := n0_; have HB := n1_; have BK157 := n2_; have GW157 := n3_; have GE157 := n4_; have NB156_157 := n5_; have NB157_156 := n6_; clear n0_ n1_ n2_ n3_ n4_ n5_ n6_; clear hb hbox hg; have hnb9 := NB156_157.out; have hnc9 := NB157_156.out; have hcz10_0 : w8.cell? ⟨gb156, 0, none⟩ = some (.slice A0_0 l0_0.length c0_0) := (blk_cell BK156.out 0).trans rfl; have hcz10_1 : w8.cell? ⟨gb156, 1, none⟩ = some (.slice A0_1 l0_1.length c0_1) := (blk_cell BK156.out 1).trans rfl; have hfz10_0 := blk_frozen BK156.out 0; have hfz10_1 := blk_frozen BK156.out 1; have hcz11_0 : w8.cell? ⟨gb157, 0, none⟩ = some (.slice A1_0 l1_0.length c1_0) := (blk_cell BK157.out 0).trans rfl; have hcz11_1 : w8.cell? ⟨gb157, 1, none⟩ = some (.slice A1_1 l1_1.length c1_1) := (blk_cell BK157.out 1).trans rfl; have hfz11_0 := blk_frozen BK157.out 0; have hfz11_1 := blk_frozen BK157.out 1) | ((with_reducible refine gate_callee (f := 18) rfl ?_); refine goesL_ (some 9) rfl rfl Try.func18 (by kernel_rfl) rfl #[.slice A0_0 l0_0.length c0_0, .slice A1_0 l1_0.length c1_0] rfl (by (try simp only [List.map_toArray, List.map_cons, List.map_nil]); first | done | rfl | (simp only [List.length_drop, List.length_take]; rfl)) ?_; (with_reducible refine (laws_eqIntS.calls k _ _ l0_0 _ _ l1_0 true _ ?side1 ?side2 ?side3 ?side4 A3.out).mono ?_); (case side1 => repeat (first | exact (Kd.C_below HR0_0.out HB.out) | (with_reducible refine Kd.C_alloc ?_ _) | (with_reducible refine Kd.C_drewN ?_ _) | (with_reducible refine Kd.C_drew ?_))); (case side2 => exact HC0_0.out); (case side3 => repeat (first | exact (Kd.C_below HR1_0.out HB.out) | (with_reducible refine Kd.C_alloc ?_ _) | (with_reducible refine Kd.C_drewN ?_ _) | (with_reducible refine Kd.C_drew ?_))); (case side4 => exact HC1_0.out); rintro e w' ⟨rfl, ⟨nd, rfl⟩⟩; refine ⟨_, rfl, ?_⟩) | ((with_reducible refine gate_callee (f := 18) rfl ?_); refine goesL_ (some 15) rfl rfl Try.func18 (by kernel_rfl) rfl #[.slice A0_1 l0_1.length c0_1, .slice A1_1 l1_1.length c1_1] rfl (by (try simp only [List.map_toArray, List.map_cons, List.map_nil]); first | done | rfl | (simp only [List.length_drop, List.length_take]; rfl)) ?_; (with_reducible refine (laws_eqIntS.calls k _ _ l0_1 _ _ l1_1 true _ ?side1 ?side2 ?side3 ?side4 A5.out).mono ?_); (case side1 => repeat (first | exact (Kd.C_below HR0_1.out (by repeat (first | (with_reducible first | exact HB.out | apply below_alloc | apply pw_below_drewN | apply below_drew1 | refine below_set ?_ GE156.out | refine below_set ?_ GE157.out) | exact HB.out))) | (with_reducible refine Kd.C_alloc ?_ _) | (with_reducible refine Kd.C_drewN ?_ _) | (with_reducible refine Kd.C_drew ?_))); (case side2 => exact HC0_1.out); (case side3 => repeat (first | exact (Kd.C_below HR1_1.out (by repeat (first | (with_reducible first | exact HB.out | apply below_alloc | apply pw_below_drewN | apply below_drew1 | refine below_set ?_ GE156.out | refine below_set ?_ GE157.out) | exact HB.out))) | (with_reducible refine Kd.C_alloc ?_ _) | (with_reducible refine Kd.C_drewN ?_ _) | (with_reducible refine Kd.C_drew ?_))); (case side4 => exact HC1_1.out); rintro e w' ⟨rfl, ⟨nd, rfl⟩⟩; refine ⟨_, rfl, ?_⟩))
      go_ret
      exact ⟨by first | rfl | (simp [errW_none, errW_some] <;> rfl) | (simp [*, errW_none, errW_some] <;> rfl), by repeat (first | (with_reducible first | exact HB.out | apply below_alloc | apply pw_below_drewN | apply below_drew1 | refine below_set ?_ GE156.out | refine below_set ?_ GE157.out) | exact HB.out)⟩
    · replace c6 := Bool.eq_false_iff.mpr c6
      (try subst c6)
      have H1 : (some false) = some r := by rw [if_neg (show ¬ (false = true) by decide)] at H; exact H
      clear H
      have H := H1
      clear H1
      obtain rfl := Option.some.inj H
      go_enter Try.func19, Try.ntmps19
      go_wp2_with (first | ((with_reducible refine gate_dst (N := 2) rfl ?_); refine box_event ?hg (N := 2) ?hd (cs := #[.slice A0_0 l0_0.length c0_0, .slice A0_1 l0_1.length c0_1]) (t := 29) ?hr ?_; (case hd => rfl); (case hg => rfl); (case hr => first | (go_simp; done) | (go_simp; rfl)); intro gb156 hg w12 hbox hb; have n0_ := Aside0.mk (below_step (by repeat (first | (with_reducible first | exact HB.out | apply below_alloc | apply pw_below_drewN | apply below_drew1) | exact HB.out)) hb); have n1_ := Aside0.mk (hbox); have n2_ := Aside0.mk ((by rw [hg]; exact (below_size (by repeat (first | (with_reducible first | exact HB.out | apply below_alloc | apply pw_below_drewN | apply below_drew1) | exact HB.out))) : w.heap.size ≤ gb156)); have n3_ := Aside0.mk ((by rw [hg]; exact (below_size (by repeat (first | (with_reducible first | exact HB.out | apply below_alloc | apply pw_below_drewN | apply below_drew1) | exact HB.out))) : w.heap.size ≤ gb156)); clear HB; have HB := n0_; have BK156 := n1_; have GW156 := n2_; have GE156 := n3_; clear n0_ n1_ n2_ n3_; clear hb hbox hg) | ((with_reducible refine gate_dst (N := 3) rfl ?_); refine box_event ?hg (N := 3) ?hd (cs := #[.slice A1_0 l1_0.length c1_0, .slice A1_1 l1_1.length c1_1]) (t := 29) ?hr ?_; (case hd => rfl); (case hg => rfl); (case hr => first | (go_simp; done) | (go_simp; rfl)); intro gb157 hg w13 hbox hb; have n0_ := Aside0.mk (blk_below (g := gb156) (o := .cells #[.slice A0_0 l0_0.length c0_0, .slice A0_1 l0_1.length c0_1] 29 (0, 0)) (by (with_reducible repeat (first | refine blk_drewN ?_ _ | refine blk_drew ?_ | refine blk_alloc ?_ _)); exact BK156.out) hb); have n1_ := Aside0.mk (below_step (by repeat (first | (with_reducible first | exact HB.out | apply below_alloc | apply pw_below_drewN | apply below_drew1 | refine below_set ?_ GE156.out) | exact HB.out)) hb); have n2_ := Aside0.mk (hbox); have n3_ := Aside0.mk ((by rw [hg]; exact (below_size (by repeat (first | (with_reducible first | exact HB.out | apply below_alloc | apply pw_below_drewN | apply below_drew1 | refine below_set ?_ GE156.out) | exact HB.out))) : w.heap.size ≤ gb157)); have n4_ := Aside0.mk ((by rw [hg]; exact (below_size (by repeat (first | (with_reducible first | exact HB.out | apply below_alloc | apply pw_below_drewN | apply below_drew1 | refine below_set ?_ GE156.out) | exact HB.out))) : w.heap.size ≤ gb157)); have n5_ := Aside0.mk ((by rw [hg]; exact Nat.ne_of_lt (blk_lt (g := gb156) (o := .cells #[.slice A0_0 l0_0.length c0_0, .slice A0_1 l0_1.length c0_1] 29 (0, 0)) (by (with_reducible repeat (first | refine blk_drewN ?_ _ | refine blk_drew ?_ | refine blk_alloc ?_ _)); exact BK156.out)) : gb156 ≠ gb157)); have n6_ := Aside0.mk ((by rw [hg]; exact Nat.ne_of_gt (blk_lt (g := gb156) (o := .cells #[.slice A0_0 l0_0.length c0_0, .slice A0_1 l0_1.length c0_1] 29 (0, 0)) (by (with_reducible repeat (first | refine blk_drewN ?_ _ | refine blk_drew ?_ | refine blk_alloc ?_ _)); exact BK156.out)) : gb157 ≠ gb156)); clear BK156; clear HB; have BK156 := n0_; have HB := n1_; have BK157 := n2_; have GW157 := n3_; have GE157 := n4_; have NB156_157 := n5_; have NB157_156 := n6_; clear n0_ n1_ n2_ n3_ n4_ n5_ n6_; clear hb hbox hg; have hnb14 := NB156_157.out; have hnc14 := NB157_156.out; have hcz15_0 : w13.cell? ⟨gb156, 0, none⟩ = some (.slice A0_0 l0_0.length c0_0) := (blk_cell BK156.out 0).trans rfl; have hcz15_1 : w13.cell? ⟨gb156, 1, none⟩ = some (.slice A0_1 l0_1.length c0_1) := (blk_cell BK156.out 1).trans rfl; have hfz15_0 := blk_frozen BK156.out 0; have hfz15_1 := blk_frozen BK156.out 1; have hcz16_0 : w13.cell? ⟨gb157, 0, none⟩ = some (.slice A1_0 l1_0.length c1_0) := (blk_cell BK157.out 0).trans rfl; have hcz16_1 : w13.cell? ⟨gb157, 1, none⟩ = some (.slice A1_1 l1_1.length c1_1) := (blk_cell BK157.out 1).trans rfl; have hfz16_0 := blk_frozen BK157.out 0; have hfz16_1 := blk_frozen BK157.out 1) | ((with_reducible refine gate_callee (f := 18) rfl ?_); refine goesL_ (some 9) rfl rfl Try.func18 (by kernel_rfl) rfl #[.slice A0_0 l0_0.length c0_0, .slice A1_0 l1_0.length c1_0] rfl (by (try simp only [List.map_toArray, List.map_cons, List.map_nil]); first | done | rfl | (simp only [List.length_drop, List.length_take]; rfl)) ?_; (with_reducible refine (laws_eqIntS.calls k _ _ l0_0 _ _ l1_0 true _ ?side1 ?side2 ?side3 ?side4 A3.out).mono ?_); (case side1 => repeat (first | exact (Kd.C_below HR0_0.out HB.out) | (with_reducible refine Kd.C_alloc ?_ _) | (with_reducible refine Kd.C_drewN ?_ _) | (with_reducible refine Kd.C_drew ?_))); (case side2 => exact HC0_0.out); (case side3 => repeat (first | exact (Kd.C_below HR1_0.out HB.out) | (with_reducible refine Kd.C_alloc ?_ _) | (with_reducible refine Kd.C_drewN ?_ _) | (with_reducible refine Kd.C_drew ?_))); (case side4 => exact HC1_0.out); rintro e w' ⟨rfl, ⟨nd, rfl⟩⟩; refine ⟨_, rfl, ?_⟩) | ((with_reducible refine gate_callee (f := 18) rfl ?_); refine goesL_ (some 15) rfl rfl Try.func18 (by kernel_rfl) rfl #[.slice A0_1 l0_1.length c0_1, .slice A1_1 l1_1.length c1_1] rfl (by (try simp only [List.map_toArray, List.map_cons, List.map_nil]); first | done | rfl | (simp only [List.length_drop, List.length_take]; rfl)) ?_; (with_reducible refine (laws_eqIntS.calls k _ _ l0_1 _ _ l1_1 false _ ?side1 ?side2 ?side3 ?side4 A5.out).mono ?_); (case side1 => repeat (first | exact (Kd.C_below HR0_1.out (by repeat (first | (with_reducible first | exact HB.out | apply below_alloc | apply pw_below_drewN | apply below_drew1 | refine below_set ?_ GE156.out | refine below_set ?_ GE157.out) | exact HB.out))) | (with_reducible refine Kd.C_alloc ?_ _) | (with_reducible refine Kd.C_drewN ?_ _) | (with_reducible refine Kd.C_drew ?_))); (case side2 => exact HC0_1.out); (case side3 => repeat (first | exact (Kd.C_below HR1_1.out (by repeat (first | (with_reducible first | exact HB.out | apply below_alloc | apply pw_below_drewN | apply below_drew1 | refine below_set ?_ GE156.out | refine below_set ?_ GE157.out) | exact HB.out))) | (with_reducible refine Kd.C_alloc ?_ _) | (with_reducible refine Kd.C_drewN ?_ _) | (with_reducible refine Kd.C_drew ?_))); (case side4 => exact HC1_1.out); rintro e w' ⟨rfl, ⟨nd, rfl⟩⟩; refine ⟨_, rfl, ?_⟩))
      go_ret
      exact ⟨by first | rfl | (simp [errW_none, errW_some] <;> rfl) | (simp [*, errW_none, errW_some] <;> rfl), by repeat (first | (with_reducible first | exact HB.out | apply below_alloc | apply pw_below_drewN | apply below_drew1 | refine below_set ?_ GE156.out | refine below_set ?_ GE157.out) | exact HB.out)⟩
  · replace c4 := Bool.eq_false_iff.mpr c4
    (try subst c4)
    have H1 : (some false) = some r := by rw [if_neg (show ¬ (false = true) by decide)] at H; exact H
    clear H
    have H := H1
    clear H1
    obtain rfl := Option.some.inj H
    go_enter Try.func19, Try.ntmps19
    go_wp2_with (first | ((with_reducible refine gate_dst (N := 2) rfl ?_); refine box_event ?hg (N := 2) ?hd (cs := #[.slice A0_0 l0_0.length c0_0, .slice A0_1 l0_1.length c0_1]) (t := 29) ?hr ?_; (case hd => rfl); (case hg => rfl); (case hr => first | (go_simp; done) | (go_simp; rfl)); intro gb156 hg w17 hbox hb; have n0_ := Aside0.mk (below_step (by repeat (first | (with_reducible first | exact HB.out | apply below_alloc | apply pw_below_drewN | apply below_drew1) | exact HB.out)) hb); have n1_ := Aside0.mk (hbox); have n2_ := Aside0.mk ((by rw [hg]; exact (below_size (by repeat (first | (with_reducible first | exact HB.out | apply below_alloc | apply pw_below_drewN | apply below_drew1) | exact HB.out))) : w.heap.size ≤ gb156)); have n3_ := Aside0.mk ((by rw [hg]; exact (below_size (by repeat (first | (with_reducible first | exact HB.out | apply below_alloc | apply pw_below_drewN | apply below_drew1) | exact HB.out))) : w.heap.size ≤ gb156)); clear HB; have HB := n0_; have BK156 := n1_; have GW156 := n2_; have GE156 := n3_; clear n0_ n1_ n2_ n3_; clear hb hbox hg) | ((with_reducible refine gate_dst (N := 3) rfl ?_); refine box_event ?hg (N := 3) ?hd (cs := #[.slice A1_0 l1_0.length c1_0, .slice A1_1 l1_1.length c1_1]) (t := 29) ?hr ?_; (case hd => rfl); (case hg => rfl); (case hr => first | (go_simp; done) | (go_simp; rfl)); intro gb157 hg w18 hbox hb; have n0_ := Aside0.mk (blk_below (g := gb156) (o := .cells #[.slice A0_0 l0_0.length c0_0, .slice A0_1 l0_1.length c0_1] 29 (0, 0)) (by (with_reducible repeat (first | refine blk_drewN ?_ _ | refine blk_drew ?_ | refine blk_alloc ?_ _)); exact BK156.out) hb); have n1_ := Aside0.mk (below_step (by repeat (first | (with_reducible first | exact HB.out | apply below_alloc | apply pw_below_drewN | apply below_drew1 | refine below_set ?_ GE156.out) | exact HB.out)) hb); have n2_ := Aside0.mk (hbox); have n3_ := Aside0.mk ((by rw [hg]; exact (below_size (by repeat (first | (with_reducible first | exact HB.out | apply below_alloc | apply pw_below_drewN | apply below_drew1 | refine below_set ?_ GE156.out) | exact HB.out))) : w.heap.size ≤ gb157)); have n4_ := Aside0.mk ((by rw [hg]; exact (below_size (by repeat (first | (with_reducible first | exact HB.out | apply below_alloc | apply pw_below_drewN | apply below_drew1 | refine below_set ?_ GE156.out) | exact HB.out))) : w.heap.size ≤ gb157)); have n5_ := Aside0.mk ((by rw [hg]; exact Nat.ne_of_lt (blk_lt (g := gb156) (o := .cells #[.slice A0_0 l0_0.length c0_0, .slice A0_1 l0_1.length c0_1] 29 (0, 0)) (by (with_reducible repeat (first | refine blk_drewN ?_ _ | refine blk_drew ?_ | refine blk_alloc ?_ _)); exact BK156.out)) : gb156 ≠ gb157)); have n6_ := Aside0.mk ((by rw [hg]; exact Nat.ne_of_gt (blk_lt (g := gb156) (o := .cells #[.slice A0_0 l0_0.length c0_0, .slice A0_1 l0_1.length c0_1] 29 (0, 0)) (by (with_reducible repeat (first | refine blk_drewN ?_ _ | refine blk_drew ?_ | refine blk_alloc ?_ _)); exact BK156.out)) : gb157 ≠ gb156)); clear BK156; clear HB; have BK156 := n0_; have HB := n1_; have BK157 := n2_; have GW157 := n3_; have GE157 := n4_; have NB156_157 := n5_; have NB157_156 := n6_; clear n0_ n1_ n2_ n3_ n4_ n5_ n6_; clear hb hbox hg; have hnb19 := NB156_157.out; have hnc19 := NB157_156.out; have hcz20_0 : w18.cell? ⟨gb156, 0, none⟩ = some (.slice A0_0 l0_0.length c0_0) := (blk_cell BK156.out 0).trans rfl; have hcz20_1 : w18.cell? ⟨gb156, 1, none⟩ = some (.slice A0_1 l0_1.length c0_1) := (blk_cell BK156.out 1).trans rfl; have hfz20_0 := blk_frozen BK156.out 0; have hfz20_1 := blk_frozen BK156.out 1; have hcz21_0 : w18.cell? ⟨gb157, 0, none⟩ = some (.slice A1_0 l1_0.length c1_0) := (blk_cell BK157.out 0).trans rfl; have hcz21_1 : w18.cell? ⟨gb157, 1, none⟩ = some (.slice A1_1 l1_1.length c1_1) := (blk_cell BK157.out 1).trans rfl; have hfz21_0 := blk_frozen BK157.out 0; have hfz21_1 := blk_frozen BK157.out 1) | ((with_reducible refine gate_callee (f := 18) rfl ?_); refine goesL_ (some 9) rfl rfl Try.func18 (by kernel_rfl) rfl #[.slice A0_0 l0_0.length c0_0, .slice A1_0 l1_0.length c1_0] rfl (by (try simp only [List.map_toArray, List.map_cons, List.map_nil]); first | done | rfl | (simp only [List.length_drop, List.length_take]; rfl)) ?_; (with_reducible refine (laws_eqIntS.calls k _ _ l0_0 _ _ l1_0 false _ ?side1 ?side2 ?side3 ?side4 A3.out).mono ?_); (case side1 => repeat (first | exact (Kd.C_below HR0_0.out HB.out) | (with_reducible refine Kd.C_alloc ?_ _) | (with_reducible refine Kd.C_drewN ?_ _) | (with_reducible refine Kd.C_drew ?_))); (case side2 => exact HC0_0.out); (case side3 => repeat (first | exact (Kd.C_below HR1_0.out HB.out) | (with_reducible refine Kd.C_alloc ?_ _) | (with_reducible refine Kd.C_drewN ?_ _) | (with_reducible refine Kd.C_drew ?_))); (case side4 => exact HC1_0.out); rintro e w' ⟨rfl, ⟨nd, rfl⟩⟩; refine ⟨_, rfl, ?_⟩))
    go_ret
    exact ⟨by first | rfl | (simp [errW_none, errW_some] <;> rfl) | (simp [*, errW_none, errW_some] <;> rfl), by repeat (first | (with_reducible first | exact HB.out | apply below_alloc | apply pw_below_drewN | apply below_drew1 | refine below_set ?_ GE156.out | refine below_set ?_ GE157.out) | exact HB.out)⟩

/-! ### laws_eqWeighingS: function 46 -/
def laws_eqWeighingS.l0 : Nat → List (S29) → List (S29) → Int → Option (Bool)
  | 0, _, _, _ => none
  | k + 1, x0, x1, x5 => if x5 < (x0.length : Int) then (if 0 ≤ x5 then (if x5 < (x1.length : Int) then ((laws_eqWeighing.f k ((rd_T29 x0 x5).f0) ((rd_T29 x0 x5).f1) ((rd_T29 x1 x5).f0) ((rd_T29 x1 x5).f1)).bind fun t162 => (if t162 = true then (laws_eqWeighingS.l0 k x0 x1 (wrap64 (x5 + 1))) else (some false))) else (none)) else (none)) else (some true)
def laws_eqWeighingS.f (k : Nat) (l0 : List (S29)) (l1 : List (S29)) : Option (Bool) := if (l0.length : Int) = (l1.length : Int) then (laws_eqWeighingS.l0 k l0 l1 0) else (some false)
theorem laws_eqWeighingS.mono_l : ∀ k, (∀ y0 y1 y2, LeO (laws_eqWeighingS.l0 k y0 y1 y2) (laws_eqWeighingS.l0 (k + 1) y0 y1 y2))
  | 0 => fun _ _ _ r h => by simp [laws_eqWeighingS.l0] at h
  | k + 1 => by
    have ih0 := laws_eqWeighingS.mono_l k
    · intro y0 y1 y2
      unfold laws_eqWeighingS.l0
      repeat' first
      | (with_reducible exact ih0 _ _ _)
      | (with_reducible exact laws_eqWeighing.mono _ _ _ _ _)
      | (with_reducible exact LeO.refl _)
      | (with_reducible exact LeO.none _)
      | (with_reducible refine LeO.ite ?_ ?_)
      | (with_reducible refine LeO.bind ?_ (fun _ => ?_))
      | exact ih0 _ _ _
      | exact laws_eqWeighing.mono _ _ _ _ _
      | exact LeO.none _
      | refine LeO.ite ?_ ?_
      | refine LeO.bind ?_ (fun _ => ?_)
theorem laws_eqWeighingS.mono : ∀ a0 a1 k, LeO (laws_eqWeighingS.f k a0 a1) (laws_eqWeighingS.f (k + 1) a0 a1) := by
  intro a0 a1 k
  have ih0 := laws_eqWeighingS.mono_l k
  unfold laws_eqWeighingS.f
  repeat' first
      | (with_reducible exact ih0 _ _ _)
      | (with_reducible exact laws_eqWeighing.mono _ _ _ _ _)
      | (with_reducible exact LeO.refl _)
      | (with_reducible exact LeO.none _)
      | (with_reducible refine LeO.ite ?_ ?_)
      | (with_reducible refine LeO.bind ?_ (fun _ => ?_))
      | exact ih0 _ _ _
      | exact laws_eqWeighing.mono _ _ _ _ _
      | exact LeO.none _
      | refine LeO.ite ?_ ?_
      | refine LeO.bind ?_ (fun _ => ?_)
def laws_eqWeighingS.T6 : Bool × List (List Nat × List Nat) := (true, [([], []), ([], []), ([0, 1], [0, 1]), ([2], [2]), ([], []), ([], []), ([4, 5], [4, 5]), ([6], [6]), ([3, 7], [3, 7]), ([8], [8])])
def laws_eqWeighingS.B6 : List Nat := [0, 0, 3, 7, 0, 0, 48, 112, 255, 511]
theorem laws_eqWeighingS.tab6 : rtab .any (opsOf Try.f46 6) = laws_eqWeighingS.T6 := by kernel_rfl
theorem laws_eqWeighingS.bits6 : waitsOk laws_eqWeighingS.T6.2 laws_eqWeighingS.B6 = true := by kernel_rfl
set_option maxHeartbeats 8000000 in
set_option maxRecDepth 100000 in
theorem laws_eqWeighingS.calls (k : Nat) (A0 : Option Addr) (c0 : Nat) (l0 : List (S29)) (A1 : Option Addr) (c1 : Nat) (l1 : List (S29)) (r : Bool) (w : World) (hr0 : Kd.C k29 w A0 l0.length l0) (hc0 : l0.length ≤ c0) (hr1 : Kd.C k29 w A1 l1.length l1) (hc1 : l1.length ≤ c1) (h : laws_eqWeighingS.f k l0 l1 = some r) :
    Calls Try.prog 46 #[.slice A0 l0.length c0, .slice A1 l1.length c1] w fun e w' => e = .returned (.bool r) ∧ Below w.heap.size w w' := by
  have hu29 := Try.underlying29
  have HR0 := Aside0.mk hr0
  have HC0 := Aside0.mk hc0
  clear hr0 hc0
  have HR1 := Aside0.mk hr1
  have HC1 := Aside0.mk hc1
  clear hr1 hc1
  have HB := Aside0.mk (Below.refl w.heap.size w)
  have H : (if (l0.length : Int) = (l1.length : Int) then (laws_eqWeighingS.l0 k l0 l1 0) else (some false)) = some r := h
  clear h
  by_cases c3 : (l0.length : Int) = (l1.length : Int)
  · rw [if_pos c3] at H
    have c3b0 : ((l0.length : Int) == (l1.length : Int)) = true := beq_iff_eq.mpr c3
    have c3b1 : ((l0.length : Int) != (l1.length : Int)) = false := bne_eq_false_iff_eq.mpr c3
    have c3b2 : (l0.length == l1.length) = true := by first | simpa using c3 | (simp at c3 ⊢; omega)
    clear c3
    have H' := Aside0.mk H
    clear H
    go_enter Try.func46, Try.ntmps46
    go_wp2
    go_loopg [5] k (fun kq v5 w' => ∃ (x5_1 : Int), v5 = .int .i64 x5_1 ∧ Aside0 (laws_eqWeighingS.l0 kq l0 l1 x5_1 = some r) ∧ Aside0 (kq ≤ k) ∧ Aside0 (Below w.heap.size w w'))
    case atStart => exact ⟨(0), (by first | rfl | (simp; done) | (simp [*]; done)), H', ⟨Nat.le_refl _⟩, ⟨by repeat (first | (with_reducible first | exact HB.out | apply below_alloc | apply pw_below_drewN | apply below_drew1) | exact HB.out)⟩⟩
    case round =>
      clear H'
      try clear c1
      try clear p2
      try clear c3
      try clear c3b0
      try clear c3b1
      try clear c3b2
      obtain ⟨x5_1, rfl, HA, HK1, HB⟩ := hrel
      cases gk with
      | zero => exact absurd HA.out (by simp [laws_eqWeighingS.l0])
      | succ k1 =>
        have H := HA.out
        clear HA
        simp only [laws_eqWeighingS.l0] at H
        by_cases c4 : x5_1 < (l0.length : Int)
        · rw [if_pos c4] at H
          have c4b0 : decide (x5_1 < (l0.length : Int)) = true := decide_eq_true c4
          clear c4
          by_cases c5 : 0 ≤ x5_1
          · rw [if_pos c5] at H
            have c5b0 : decide (0 ≤ x5_1) = true := decide_eq_true c5
            clear c5
            by_cases c6 : x5_1 < (l1.length : Int)
            · rw [if_pos c6] at H
              have c6b0 : decide (x5_1 < (l1.length : Int)) = true := decide_eq_true c6
              clear c6
              replace H := Option.bind_eq_some_iff.mp H
              obtain ⟨t162, A70, H⟩ := H
              replace H : (if t162 = true then (laws_eqWeighingS.l0 k1 l0 l1 (wrap64 (x5_1 + 1))) else (some false)) = some r := H
              have A7 := Aside0.mk A70
              clear A70
              by_cases c8 : t162 = true
              · (try subst c8)
                have H1 : (laws_eqWeighingS.l0 k1 l0 l1 (wrap64 (x5_1 + 1))) = some r := by rw [if_pos rfl] at H; exact H
                clear H
                have H := H1
                clear H1
                have H' := Aside0.mk H
                clear H
                try go_wp2
                have n0_ := Aside0.mk (below_drew1 HB.out)
                clear HB
                have HB := n0_
                clear n0_
                have p160 : 0 ≤ (x5_1 : Int) := of_decide_eq_true (by first | (with_reducible assumption) | assumption)
                have q160 : x5_1 < (l0.length : Int) := of_decide_eq_true (by first | (with_reducible assumption) | assumption)
                obtain ⟨ad160, A160_0, c160_0, A160_1, c160_1, e160, hx160_0, hx160_1, hl160_0, hi160_0, hl160_1, hi160_1⟩ := at_T29 HR0.out x5_1 p160 q160
                have hw160_1 := hx160_1
                have hw160_0 := hx160_0
                cases e160
                (try replace hx160_0 := (HB.out.cell (World.block_lt_of_cell? w _ hx160_0)).trans hx160_0)
                (try replace hx160_1 := (HB.out.cell (World.block_lt_of_cell? w _ hx160_1)).trans hx160_1)
                have HR160_0 := Aside0.mk hi160_0
                have HC160_0 := Aside0.mk hl160_0
                clear hi160_0 hl160_0
                have HR160_1 := Aside0.mk hi160_1
                have HC160_1 := Aside0.mk hl160_1
                clear hi160_1 hl160_1
                replace p160 := eq_true p160
                replace q160 := eq_true q160
                have p161 : 0 ≤ (x5_1 : Int) := of_decide_eq_true (by first | (with_reducible assumption) | assumption)
                have q161 : x5_1 < (l1.length : Int) := of_decide_eq_true (by first | (with_reducible assumption) | assumption)
                obtain ⟨ad161, A161_0, c161_0, A161_1, c161_1, e161, hx161_0, hx161_1, hl161_0, hi161_0, hl161_1, hi161_1⟩ := at_T29 HR1.out x5_1 p161 q161
                have hw161_1 := hx161_1
                have hw161_0 := hx161_0
                cases e161
                (try replace hx161_0 := (HB.out.cell (World.block_lt_of_cell? w _ hx161_0)).trans hx161_0)
                (try replace hx161_1 := (HB.out.cell (World.block_lt_of_cell? w _ hx161_1)).trans hx161_1)
                have HR161_0 := Aside0.mk hi161_0
                have HC161_0 := Aside0.mk hl161_0
                clear hi161_0 hl161_0
                have HR161_1 := Aside0.mk hi161_1
                have HC161_1 := Aside0.mk hl161_1
                clear hi161_1 hl161_1
                replace p161 := eq_true p161
                replace q161 := eq_true q161
                refine start_ (n := 10) (S := fun w' => w'.cell? (ad160.add ((x5_1).toNat * 2)) = some (.slice A160_0 ((rd_T29 l0 x5_1).f0).length c160_0) ∧ w'.cell? ⟨(ad160.add ((x5_1).toNat * 2)).block, (ad160.add ((x5_1).toNat * 2)).off + 1, none⟩ = some (.slice A160_1 ((rd_T29 l0 x5_1).f1).length c160_1) ∧ w'.cell? (ad161.add ((x5_1).toNat * 2)) = some (.slice A161_0 ((rd_T29 l1 x5_1).f0).length c161_0) ∧ w'.cell? ⟨(ad161.add ((x5_1).toNat * 2)).block, (ad161.add ((x5_1).toNat * 2)).off + 1, none⟩ = some (.slice A161_1 ((rd_T29 l1 x5_1).f1).length c161_1)) (ds := []) #[false, false, false, false, false, false, false, false, false, false] (by kernel_rfl) rfl rfl ⟨((HB.out.cell (World.block_lt_of_cell? w _ hw160_0)).trans hw160_0), ((HB.out.cell (World.block_lt_of_cell? w _ hw160_1)).trans hw160_1), ((HB.out.cell (World.block_lt_of_cell? w _ hw161_0)).trans hw161_0), ((HB.out.cell (World.block_lt_of_cell? w _ hw161_1)).trans hw161_1)⟩ (fun hHeld => ?_); refine with_tabW laws_eqWeighingS.tab6 laws_eqWeighingS.bits6 (fun HT_ HW_ => ?_)
                generalize wr.drew = w9 at HB HR160_0 HR160_1 HR161_0 HR161_1 hx160_0 hx160_1 hx161_0 hx161_1 hHeld ⊢
                refine pure_ (i := 0) (N := some 17) (v := ?_) (a' := ?_) #[true, false, false, false, false, false, false, false, false, false] rfl rfl (any_of HT_.out (by kernel_rfl)) (fun _ _ _ h => h) (Or.inl ⟨by rfl, ?_⟩) ?_ ?_
                rotate_left
                · intro w'
                  go_simp
                  with_reducible rfl
                rotate_left
                · simp only [Act.put, List.setIfInBounds_toArray, List.set_cons_zero, List.set_cons_succ, i64_w, i32_w]
                  rfl
                refine pure_ (i := 1) (N := some 18) (v := ?_) (a' := ?_) #[true, true, false, false, false, false, false, false, false, false] rfl rfl (any_of HT_.out (by kernel_rfl)) (fun _ _ _ h => h) (Or.inl ⟨by rfl, ?_⟩) ?_ ?_
                rotate_left
                · intro w'
                  go_simp
                  with_reducible rfl
                rotate_left
                · simp only [Act.put, List.setIfInBounds_toArray, List.set_cons_zero, List.set_cons_succ, i64_w, i32_w]
                  rfl
                refine pure_ (i := 2) (N := some 19) (v := ?_) (a' := ?_) #[true, true, true, false, false, false, false, false, false, false] rfl rfl (any_of HT_.out (by kernel_rfl)) (fun _ _ _ h => h) (Or.inl ⟨by rfl, ?_⟩) ?_ ?_
                rotate_left
                · intro w'
                  go_simp
                  with_reducible rfl
                rotate_left
                · simp only [Act.put, List.setIfInBounds_toArray, List.set_cons_zero, List.set_cons_succ, i64_w, i32_w]
                  rfl
                refine pure_ (i := 4) (N := some 21) (v := ?_) (a' := ?_) #[true, true, true, false, true, false, false, false, false, false] rfl rfl (any_of HT_.out (by kernel_rfl)) (fun _ _ _ h => h) (Or.inl ⟨by rfl, ?_⟩) ?_ ?_
                rotate_left
                · intro w'
                  go_simp
                  with_reducible rfl
                rotate_left
                · simp only [Act.put, List.setIfInBounds_toArray, List.set_cons_zero, List.set_cons_succ, i64_w, i32_w]
                  rfl
                refine pure_ (i := 5) (N := some 22) (v := ?_) (a' := ?_) #[true, true, true, false, true, true, false, false, false, false] rfl rfl (any_of HT_.out (by kernel_rfl)) (fun _ _ _ h => h) (Or.inl ⟨by rfl, ?_⟩) ?_ ?_
                rotate_left
                · intro w'
                  go_simp
                  with_reducible rfl
                rotate_left
                · simp only [Act.put, List.setIfInBounds_toArray, List.set_cons_zero, List.set_cons_succ, i64_w, i32_w]
                  rfl
                refine pure_ (i := 6) (N := some 23) (v := ?_) (a' := ?_) #[true, true, true, false, true, true, true, false, false, false] rfl rfl (any_of HT_.out (by kernel_rfl)) (fun _ _ _ h => h) (Or.inl ⟨by rfl, ?_⟩) ?_ ?_
                rotate_left
                · intro w'
                  go_simp
                  with_reducible rfl
                rotate_left
                · simp only [Act.put, List.setIfInBounds_toArray, List.set_cons_zero, List.set_cons_succ, i64_w, i32_w]
                  rfl
                refine take_ (i := 3) (N := some 20) (v := ?_) (a' := ?_) #[true, true, true, true, true, true, true, false, false, false] rfl rfl (take_ofW HT_.out HW_.out (by kernel_rfl)) (fun _ _ _ h => h) (Or.inl ⟨by rfl, ?_⟩) hHeld ?_ ?_
                rotate_left
                · rintro w' ⟨s0, s1, s2, s3⟩
                  go_simp
                  with_reducible rfl
                rotate_left
                · simp only [Act.put, List.setIfInBounds_toArray, List.set_cons_zero, List.set_cons_succ, i64_w, i32_w]
                  rfl
                refine take_ (i := 7) (N := some 24) (v := ?_) (a' := ?_) #[true, true, true, true, true, true, true, true, false, false] rfl rfl (take_ofW HT_.out HW_.out (by kernel_rfl)) (fun _ _ _ h => h) (Or.inl ⟨by rfl, ?_⟩) hHeld ?_ ?_
                rotate_left
                · rintro w' ⟨s0, s1, s2, s3⟩
                  go_simp
                  with_reducible rfl
                rotate_left
                · simp only [Act.put, List.setIfInBounds_toArray, List.set_cons_zero, List.set_cons_succ, i64_w, i32_w]
                  rfl
                refine one_ (i := 8) (N := some 25) #[true, true, true, true, true, true, true, true, true, false] rfl rfl (one_of HT_.out (by kernel_rfl)) (by decide) (fun K hK => ?_)
                refine goes_ Try.func19 (by kernel_rfl) rfl #[.agg #[.slice A160_0 ((rd_T29 l0 x5_1).f0).length c160_0, .slice A160_1 ((rd_T29 l0 x5_1).f1).length c160_1], .agg #[.slice A161_0 ((rd_T29 l1 x5_1).f0).length c161_0, .slice A161_1 ((rd_T29 l1 x5_1).f1).length c161_1]] (by rfl) rfl rfl (by (try simp only [List.map_toArray, List.map_cons, List.map_nil]); first | done | rfl | (simp only [List.length_drop, List.length_take]; rfl)) ?_
                with_reducible refine (laws_eqWeighing.calls k1 _ _ ((rd_T29 l0 x5_1).f0) _ _ ((rd_T29 l0 x5_1).f1) _ _ ((rd_T29 l1 x5_1).f0) _ _ ((rd_T29 l1 x5_1).f1) true _ ?side1 ?side2 ?side3 ?side4 ?side5 ?side6 ?side7 ?side8 A7.out).mono ?_
                (case side1 => repeat (first | exact (Kd.C_below HR160_0.out HB.out) | (with_reducible refine Kd.C_alloc ?_ _) | (with_reducible refine Kd.C_drewN ?_ _) | (with_reducible refine Kd.C_drew ?_)))
                (case side2 => exact HC160_0.out)
                (case side3 => repeat (first | exact (Kd.C_below HR160_1.out HB.out) | (with_reducible refine Kd.C_alloc ?_ _) | (with_reducible refine Kd.C_drewN ?_ _) | (with_reducible refine Kd.C_drew ?_)))
                (case side4 => exact HC160_1.out)
                (case side5 => repeat (first | exact (Kd.C_below HR161_0.out HB.out) | (with_reducible refine Kd.C_alloc ?_ _) | (with_reducible refine Kd.C_drewN ?_ _) | (with_reducible refine Kd.C_drew ?_)))
                (case side6 => exact HC161_0.out)
                (case side7 => repeat (first | exact (Kd.C_below HR161_1.out HB.out) | (with_reducible refine Kd.C_alloc ?_ _) | (with_reducible refine Kd.C_drewN ?_ _) | (with_reducible refine Kd.C_drew ?_)))
                (case side8 => exact HC161_1.out)
                rintro e w10 ⟨rfl, hb⟩
                refine ⟨_, rfl, ?_⟩
                have n0_ := Aside0.mk (below_step (by repeat (first | (with_reducible first | exact HB.out | apply below_alloc | apply pw_below_drewN | apply below_drew1) | exact HB.out)) hb)
                clear HB
                have HB := n0_
                clear n0_
                (try clear hb)
                (try clear hb2)
                (try clear hk)
                (try clear hi)
                refine hK.out _ _ ⟨((HB.out.cell (World.block_lt_of_cell? w _ hw160_0)).trans hw160_0), ((HB.out.cell (World.block_lt_of_cell? w _ hw160_1)).trans hw160_1), ((HB.out.cell (World.block_lt_of_cell? w _ hw161_0)).trans hw161_0), ((HB.out.cell (World.block_lt_of_cell? w _ hw161_1)).trans hw161_1)⟩ (fun hHeld => ?_)
                clear hK K
                refine norm_ (a' := ?_) ?_ ?_
                rotate_left
                · show Act.put _ (some 25) _ = _
                  simp only [Act.put, List.setIfInBounds_toArray, List.set_cons_zero, List.set_cons_succ, i64_w, i32_w]
                  rfl
                refine pure_ (i := 9) (N := some 26) (v := ?_) (a' := ?_) #[true, true, true, true, true, true, true, true, true, true] rfl rfl (any_of HT_.out (by kernel_rfl)) (fun _ _ _ h => h) (Or.inl ⟨by rfl, ?_⟩) ?_ ?_
                rotate_left
                · intro w'
                  go_simp
                  with_reducible rfl
                rotate_left
                · simp only [Act.put, List.setIfInBounds_toArray, List.set_cons_zero, List.set_cons_succ, i64_w, i32_w]
                  rfl
                refine done_ (done_of HT_.out (by kernel_rfl)) ?_
                try go_wp2
                go_roundg k1
                case measure => have := HK1.out; omega
                case rel => exact ⟨(wrap64 (x5_1 + 1)), (by first | rfl | (simp; done) | (simp [*]; done)), H', ⟨by have := HK1.out; omega⟩, ⟨by repeat (first | (with_reducible first | exact HB.out | apply below_alloc | apply pw_below_drewN | apply below_drew1) | exact HB.out)⟩⟩
              · replace c8 := Bool.eq_false_iff.mpr c8
                (try subst c8)
                have H1 : (some false) = some r := by rw [if_neg (show ¬ (false = true) by decide)] at H; exact H
                clear H
                have H := H1
                clear H1
                obtain rfl := Option.some.inj H
                try go_wp2
                have n0_ := Aside0.mk (below_drew1 HB.out)
                clear HB
                have HB := n0_
                clear n0_
                have p160 : 0 ≤ (x5_1 : Int) := of_decide_eq_true (by first | (with_reducible assumption) | assumption)
                have q160 : x5_1 < (l0.length : Int) := of_decide_eq_true (by first | (with_reducible assumption) | assumption)
                obtain ⟨ad160, A160_0, c160_0, A160_1, c160_1, e160, hx160_0, hx160_1, hl160_0, hi160_0, hl160_1, hi160_1⟩ := at_T29 HR0.out x5_1 p160 q160
                have hw160_1 := hx160_1
                have hw160_0 := hx160_0
                cases e160
                (try replace hx160_0 := (HB.out.cell (World.block_lt_of_cell? w _ hx160_0)).trans hx160_0)
                (try replace hx160_1 := (HB.out.cell (World.block_lt_of_cell? w _ hx160_1)).trans hx160_1)
                have HR160_0 := Aside0.mk hi160_0
                have HC160_0 := Aside0.mk hl160_0
                clear hi160_0 hl160_0
                have HR160_1 := Aside0.mk hi160_1
                have HC160_1 := Aside0.mk hl160_1
                clear hi160_1 hl160_1
                replace p160 := eq_true p160
                replace q160 := eq_true q160
                have p161 : 0 ≤ (x5_1 : Int) := of_decide_eq_true (by first | (with_reducible assumption) | assumption)
                have q161 : x5_1 < (l1.length : Int) := of_decide_eq_true (by first | (with_reducible assumption) | assumption)
                obtain ⟨ad161, A161_0, c161_0, A161_1, c161_1, e161, hx161_0, hx161_1, hl161_0, hi161_0, hl161_1, hi161_1⟩ := at_T29 HR1.out x5_1 p161 q161
                have hw161_1 := hx161_1
                have hw161_0 := hx161_0
                cases e161
                (try replace hx161_0 := (HB.out.cell (World.block_lt_of_cell? w _ hx161_0)).trans hx161_0)
                (try replace hx161_1 := (HB.out.cell (World.block_lt_of_cell? w _ hx161_1)).trans hx161_1)
                have HR161_0 := Aside0.mk hi161_0
                have HC161_0 := Aside0.mk hl161_0
                clear hi161_0 hl161_0
                have HR161_1 := Aside0.mk hi161_1
                have HC161_1 := Aside0.mk hl161_1
                clear hi161_1 hl161_1
                replace p161 := eq_true p161
                replace q161 := eq_true q161
                refine start_ (n := 10) (S := fun w' => w'.cell? (ad160.add ((x5_1).toNat * 2)) = some (.slice A160_0 ((rd_T29 l0 x5_1).f0).length c160_0) ∧ w'.cell? ⟨(ad160.add ((x5_1).toNat * 2)).block, (ad160.add ((x5_1).toNat * 2)).off + 1, none⟩ = some (.slice A160_1 ((rd_T29 l0 x5_1).f1).length c160_1) ∧ w'.cell? (ad161.add ((x5_1).toNat * 2)) = some (.slice A161_0 ((rd_T29 l1 x5_1).f0).length c161_0) ∧ w'.cell? ⟨(ad161.add ((x5_1).toNat * 2)).block, (ad161.add ((x5_1).toNat * 2)).off + 1, none⟩ = some (.slice A161_1 ((rd_T29 l1 x5_1).f1).length c161_1)) (ds := []) #[false, false, false, false, false, false, false, false, false, false] (by kernel_rfl) rfl rfl ⟨((HB.out.cell (World.block_lt_of_cell? w _ hw160_0)).trans hw160_0), ((HB.out.cell (World.block_lt_of_cell? w _ hw160_1)).trans hw160_1), ((HB.out.cell (World.block_lt_of_cell? w _ hw161_0)).trans hw161_0), ((HB.out.cell (World.block_lt_of_cell? w _ hw161_1)).trans hw161_1)⟩ (fun hHeld => ?_); refine with_tabW laws_eqWeighingS.tab6 laws_eqWeighingS.bits6 (fun HT_ HW_ => ?_)
                generalize wr.drew = w11 at HB HR160_0 HR160_1 HR161_0 HR161_1 hx160_0 hx160_1 hx161_0 hx161_1 hHeld ⊢
                refine pure_ (i := 0) (N := some 17) (v := ?_) (a' := ?_) #[true, false, false, false, false, false, false, false, false, false] rfl rfl (any_of HT_.out (by kernel_rfl)) (fun _ _ _ h => h) (Or.inl ⟨by rfl, ?_⟩) ?_ ?_
                rotate_left
                · intro w'
                  go_simp
                  with_reducible rfl
                rotate_left
                · simp only [Act.put, List.setIfInBounds_toArray, List.set_cons_zero, List.set_cons_succ, i64_w, i32_w]
                  rfl
                refine pure_ (i := 1) (N := some 18) (v := ?_) (a' := ?_) #[true, true, false, false, false, false, false, false, false, false] rfl rfl (any_of HT_.out (by kernel_rfl)) (fun _ _ _ h => h) (Or.inl ⟨by rfl, ?_⟩) ?_ ?_
                rotate_left
                · intro w'
                  go_simp
                  with_reducible rfl
                rotate_left
                · simp only [Act.put, List.setIfInBounds_toArray, List.set_cons_zero, List.set_cons_succ, i64_w, i32_w]
                  rfl
                refine pure_ (i := 2) (N := some 19) (v := ?_) (a' := ?_) #[true, true, true, false, false, false, false, false, false, false] rfl rfl (any_of HT_.out (by kernel_rfl)) (fun _ _ _ h => h) (Or.inl ⟨by rfl, ?_⟩) ?_ ?_
                rotate_left
                · intro w'
                  go_simp
                  with_reducible rfl
                rotate_left
                · simp only [Act.put, List.setIfInBounds_toArray, List.set_cons_zero, List.set_cons_succ, i64_w, i32_w]
                  rfl
                refine pure_ (i := 4) (N := some 21) (v := ?_) (a' := ?_) #[true, true, true, false, true, false, false, false, false, false] rfl rfl (any_of HT_.out (by kernel_rfl)) (fun _ _ _ h => h) (Or.inl ⟨by rfl, ?_⟩) ?_ ?_
                rotate_left
                · intro w'
                  go_simp
                  with_reducible rfl
                rotate_left
                · simp only [Act.put, List.setIfInBounds_toArray, List.set_cons_zero, List.set_cons_succ, i64_w, i32_w]
                  rfl
                refine pure_ (i := 5) (N := some 22) (v := ?_) (a' := ?_) #[true, true, true, false, true, true, false, false, false, false] rfl rfl (any_of HT_.out (by kernel_rfl)) (fun _ _ _ h => h) (Or.inl ⟨by rfl, ?_⟩) ?_ ?_
                rotate_left
                · intro w'
                  go_simp
                  with_reducible rfl
                rotate_left
                · simp only [Act.put, List.setIfInBounds_toArray, List.set_cons_zero, List.set_cons_succ, i64_w, i32_w]
                  rfl
                refine pure_ (i := 6) (N := some 23) (v := ?_) (a' := ?_) #[true, true, true, false, true, true, true, false, false, false] rfl rfl (any_of HT_.out (by kernel_rfl)) (fun _ _ _ h => h) (Or.inl ⟨by rfl, ?_⟩) ?_ ?_
                rotate_left
                · intro w'
                  go_simp
                  with_reducible rfl
                rotate_left
                · simp only [Act.put, List.setIfInBounds_toArray, List.set_cons_zero, List.set_cons_succ, i64_w, i32_w]
                  rfl
                refine take_ (i := 3) (N := some 20) (v := ?_) (a' := ?_) #[true, true, true, true, true, true, true, false, false, false] rfl rfl (take_ofW HT_.out HW_.out (by kernel_rfl)) (fun _ _ _ h => h) (Or.inl ⟨by rfl, ?_⟩) hHeld ?_ ?_
                rotate_left
                · rintro w' ⟨s0, s1, s2, s3⟩
                  go_simp
                  with_reducible rfl
                rotate_left
                · simp only [Act.put, List.setIfInBounds_toArray, List.set_cons_zero, List.set_cons_succ, i64_w, i32_w]
                  rfl
                refine take_ (i := 7) (N := some 24) (v := ?_) (a' := ?_) #[true, true, true, true, true, true, true, true, false, false] rfl rfl (take_ofW HT_.out HW_.out (by kernel_rfl)) (fun _ _ _ h => h) (Or.inl ⟨by rfl, ?_⟩) hHeld ?_ ?_
                rotate_left
                · rintro w' ⟨s0, s1, s2, s3⟩
                  go_simp
                  with_reducible rfl
                rotate_left
                · simp only [Act.put, List.setIfInBounds_toArray, List.set_cons_zero, List.set_cons_succ, i64_w, i32_w]
                  rfl
                refine one_ (i := 8) (N := some 25) #[true, true, true, true, true, true, true, true, true, false] rfl rfl (one_of HT_.out (by kernel_rfl)) (by decide) (fun K hK => ?_)
                refine goes_ Try.func19 (by kernel_rfl) rfl #[.agg #[.slice A160_0 ((rd_T29 l0 x5_1).f0).length c160_0, .slice A160_1 ((rd_T29 l0 x5_1).f1).length c160_1], .agg #[.slice A161_0 ((rd_T29 l1 x5_1).f0).length c161_0, .slice A161_1 ((rd_T29 l1 x5_1).f1).length c161_1]] (by rfl) rfl rfl (by (try simp only [List.map_toArray, List.map_cons, List.map_nil]); first | done | rfl | (simp only [List.length_drop, List.length_take]; rfl)) ?_
                with_reducible refine (laws_eqWeighing.calls k1 _ _ ((rd_T29 l0 x5_1).f0) _ _ ((rd_T29 l0 x5_1).f1) _ _ ((rd_T29 l1 x5_1).f0) _ _ ((rd_T29 l1 x5_1).f1) false _ ?side1 ?side2 ?side3 ?side4 ?side5 ?side6 ?side7 ?side8 A7.out).mono ?_
                (case side1 => repeat (first | exact (Kd.C_below HR160_0.out HB.out) | (with_reducible refine Kd.C_alloc ?_ _) | (with_reducible refine Kd.C_drewN ?_ _) | (with_reducible refine Kd.C_drew ?_)))
                (case side2 => exact HC160_0.out)
                (case side3 => repeat (first | exact (Kd.C_below HR160_1.out HB.out) | (with_reducible refine Kd.C_alloc ?_ _) | (with_reducible refine Kd.C_drewN ?_ _) | (with_reducible refine Kd.C_drew ?_)))
                (case side4 => exact HC160_1.out)
                (case side5 => repeat (first | exact (Kd.C_below HR161_0.out HB.out) | (with_reducible refine Kd.C_alloc ?_ _) | (with_reducible refine Kd.C_drewN ?_ _) | (with_reducible refine Kd.C_drew ?_)))
                (case side6 => exact HC161_0.out)
                (case side7 => repeat (first | exact (Kd.C_below HR161_1.out HB.out) | (with_reducible refine Kd.C_alloc ?_ _) | (with_reducible refine Kd.C_drewN ?_ _) | (with_reducible refine Kd.C_drew ?_)))
                (case side8 => exact HC161_1.out)
                rintro e w12 ⟨rfl, hb⟩
                refine ⟨_, rfl, ?_⟩
                have n0_ := Aside0.mk (below_step (by repeat (first | (with_reducible first | exact HB.out | apply below_alloc | apply pw_below_drewN | apply below_drew1) | exact HB.out)) hb)
                clear HB
                have HB := n0_
                clear n0_
                (try clear hb)
                (try clear hb2)
                (try clear hk)
                (try clear hi)
                refine hK.out _ _ ⟨((HB.out.cell (World.block_lt_of_cell? w _ hw160_0)).trans hw160_0), ((HB.out.cell (World.block_lt_of_cell? w _ hw160_1)).trans hw160_1), ((HB.out.cell (World.block_lt_of_cell? w _ hw161_0)).trans hw161_0), ((HB.out.cell (World.block_lt_of_cell? w _ hw161_1)).trans hw161_1)⟩ (fun hHeld => ?_)
                clear hK K
                refine norm_ (a' := ?_) ?_ ?_
                rotate_left
                · show Act.put _ (some 25) _ = _
                  simp only [Act.put, List.setIfInBounds_toArray, List.set_cons_zero, List.set_cons_succ, i64_w, i32_w]
                  rfl
                refine pure_ (i := 9) (N := some 26) (v := ?_) (a' := ?_) #[true, true, true, true, true, true, true, true, true, true] rfl rfl (any_of HT_.out (by kernel_rfl)) (fun _ _ _ h => h) (Or.inl ⟨by rfl, ?_⟩) ?_ ?_
                rotate_left
                · intro w'
                  go_simp
                  with_reducible rfl
                rotate_left
                · simp only [Act.put, List.setIfInBounds_toArray, List.set_cons_zero, List.set_cons_succ, i64_w, i32_w]
                  rfl
                refine done_ (done_of HT_.out (by kernel_rfl)) ?_
                try go_wp2
                go_ret
                exact ⟨by first | rfl | (simp [errW_none, errW_some] <;> rfl) | (simp [*, errW_none, errW_some] <;> rfl), by repeat (first | (with_reducible first | exact HB.out | apply below_alloc | apply pw_below_drewN | apply below_drew1) | exact HB.out)⟩
            · rw [if_neg c6] at H
              exact absurd H (by simp)
          · rw [if_neg c5] at H
            exact absurd H (by simp)
        · rw [if_neg c4] at H
          have c4b0 : decide (x5_1 < (l0.length : Int)) = false := decide_eq_false c4
          clear c4
          obtain rfl := Option.some.inj H
          go_wp2
          go_ret
          exact ⟨by first | rfl | (simp [errW_none, errW_some] <;> rfl) | (simp [*, errW_none, errW_some] <;> rfl), by repeat (first | (with_reducible first | exact HB.out | apply below_alloc | apply pw_below_drewN | apply below_drew1) | exact HB.out)⟩
  · rw [if_neg c3] at H
    have c3b0 : ((l0.length : Int) == (l1.length : Int)) = false := beq_eq_false_iff_ne.mpr c3
    have c3b1 : ((l0.length : Int) != (l1.length : Int)) = true := bne_iff_ne.mpr c3
    have c3b2 : (l0.length == l1.length) = false := by first | simpa using c3 | (simp at c3 ⊢; omega)
    obtain rfl := Option.some.inj H
    go_enter Try.func46, Try.ntmps46
    go_wp2
    go_ret
    exact ⟨by first | rfl | (simp [errW_none, errW_some] <;> rfl) | (simp [*, errW_none, errW_some] <;> rfl), by repeat (first | (with_reducible first | exact HB.out | apply below_alloc | apply pw_below_drewN | apply below_drew1) | exact HB.out)⟩

end Go.Proofs.Ytffohdlbkigehaa.HFnExactWeighingsOf
