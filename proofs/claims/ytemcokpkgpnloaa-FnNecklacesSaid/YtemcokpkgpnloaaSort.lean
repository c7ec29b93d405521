/- Sorting rows of numbers in memory: what slices.SortFunc with slices.Compare leaves. -/
import Derived.Test.YtemcokpkgpnloaaWApart
import Derived.Test.YtemcokpkgpnloaaWMore
import Derived.Test.YtemcokpkgpnloaaRotM
import Derived.Test.YtemcokpkgpnloaaProg
import Derived.Shelf.SlSortCmp.Whole1
set_option linter.unusedVariables false
set_option linter.unusedSimpArgs false
namespace Go.Proofs.Ytemcokpkgpnloaa.SortR
open Go.RowKit Go.Proofs.YtemcokpkgpnloaaW.PrintWords Go.Proofs.YtemcokpkgpnloaaW.PrintMore Go.Sort Go.Proofs.Ytemcokpkgpnloaa.Base
def leL (a b : List Int) : Bool := decide (cmpL a b ≤ 0)
def sortL (l : List (List Int)) : List (List Int) := l.mergeSort leL
def cfL (l : List (List Int)) (i j : Nat) : Int := cmpL (l.getD i []) (l.getD j [])
theorem lt_iff (l : List (List Int)) (x y : Nat) : ltOf (cfL l) x y = true ↔ cmpL (l.getD x []) (l.getD y []) < 0 := by unfold ltOf cfL; exact decide_eq_true_iff
theorem nlt_iff (l : List (List Int)) (x y : Nat) : ltOf (cfL l) x y = false ↔ 0 ≤ cmpL (l.getD x []) (l.getD y []) := by unfold ltOf cfL; rw [decide_eq_false_iff_not, Int.not_lt]
theorem le_iff (a b : List Int) : leL a b = true ↔ cmpL a b ≤ 0 := by unfold leL; exact decide_eq_true_iff
theorem swoL (l : List (List Int)) : SWO (ltOf (cfL l)) where
  irrefl x := by rw [nlt_iff, cmpL_self]; exact Int.le_refl 0
  trans x y z h1 h2 := by
    rw [lt_iff] at *
    have h3 := cmpL_trans _ _ _ (Int.le_of_lt h1) (Int.le_of_lt h2)
    rcases Int.lt_or_eq_of_le h3 with h | h
    · exact h
    · have e := cmpL_eq _ _ h
      rw [← e, cmpL_anti] at h2
      omega
  ntrans x y z h1 h2 := by
    rw [nlt_iff] at *
    have a1 := cmpL_anti (l.getD x []) (l.getD y [])
    have a2 := cmpL_anti (l.getD y []) (l.getD z [])
    have a3 := cmpL_anti (l.getD x []) (l.getD z [])
    have := cmpL_trans (l.getD z []) (l.getD y []) (l.getD x []) (by omega) (by omega)
    omega
theorem sorted_unique (l : List (List Int)) (d : Array Nat) (hp : PermIn 0 l.length (Array.range l.length) d) (hs : SortedIn (ltOf (cfL l)) 0 l.length d) : d.toList.map (fun i => l.getD i []) = sortL l := by
  have hsz : d.size = l.length := by rw [hp.1]; simp
  have hperm : d.toList.Perm (List.range l.length) := by
    have h := hp.2.2
    rw [Array.extract_eq_self_of_le (by omega), Array.extract_eq_self_of_le (by simp)] at h
    simpa using h
  have hl : (List.range l.length).map (fun i => l.getD i []) = l := by
    apply List.ext_getElem (by simp)
    intro i h1 h2
    simp [List.getD_eq_getElem?_getD, List.getElem?_eq_getElem h2]
  have p1 : (d.toList.map (fun i => l.getD i [])).Perm l := by
    have := hperm.map (fun i => l.getD i [])
    rwa [hl] at this
  refine List.Perm.eq_of_pairwise (le := fun a b => leL a b = true) ?_ ?_ ?_ (p1.trans (List.mergeSort_perm l leL).symm)
  · intro a b _ _ h1 h2
    rw [le_iff] at h1 h2
    have := cmpL_anti a b
    exact cmpL_eq a b (by omega)
  · rw [List.pairwise_map, List.pairwise_iff_getElem]
    intro i j hi hj hij
    have h := hs i j (by omega) hij (by simpa [hsz] using hj)
    rw [getElem!_pos d j (by simpa using hj), getElem!_pos d i (by simpa using hi)] at h
    rw [nlt_iff] at h
    rw [le_iff, Array.getElem_toList, Array.getElem_toList]
    have := cmpL_anti (l.getD d[j] []) (l.getD d[i] [])
    omega
  · exact List.pairwise_mergeSort (fun a b c h1 h2 => by
      rw [le_iff] at *
      exact cmpL_trans a b c h1 h2) (fun a b => by
      rw [Bool.or_eq_true, le_iff, le_iff]
      have := cmpL_anti a b
      omega) l
open Go.Shelf in
theorem heap_sortWorld {α : Type} [Inhabited α] (enc : α → Value) (w : World) (g m : Nat) (d : Array α) (os : Array Obj) (k : Nat) (hk : k < w.heap.size) (hg : k ≠ g) : (sortWorld enc w g 0 m d os).heap[k]? = w.heap[k]? := by
  have h1 : ¬ g = k := fun h => hg h.symm
  simp only [sortWorld, grow, putRow, mapBlock, Go.Sort.ahead]
  rw [Array.getElem?_append_left (by simpa using hk)]
  simp [Array.getElem?_modify, h1]
theorem heap_sortWorld_at {α : Type} [Inhabited α] (enc : α → Value) (w : World) (g m : Nat) (d : Array α) (os : Array Obj) (cur : Array Value) (e : TypeId) (fr : Nat × Nat) (hh : w.heap[g]? = some (.cells cur e fr)) : (sortWorld enc w g 0 m d os).heap[g]? = some (.cells (putCells enc 0 d cur) e fr) := by
  have hk : g < w.heap.size := by
    rcases Nat.lt_or_ge g w.heap.size with h | h
    · exact h
    · rw [Array.getElem?_eq_none h] at hh; exact absurd hh (by simp)
  simp only [sortWorld, grow, putRow, mapBlock, Go.Sort.ahead]
  rw [Array.getElem?_append_left (by simpa using hk)]
  simp [Array.getElem?_modify, hh, onCells]
theorem below_sortWorld {α : Type} [Inhabited α] (enc : α → Value) (w : World) (g m : Nat) (d : Array α) (os : Array Obj) (B : Nat) (hB : B ≤ g) (hg : g < w.heap.size) : Below B w (sortWorld enc w g 0 m d os) :=
  ⟨rfl, rfl, rfl, by simp [sortWorld, grow, putRow, mapBlock, Go.Sort.ahead], fun k hk => heap_sortWorld enc w g m d os k (by omega) (by omega)⟩
set_option maxHeartbeats 1000000 in
theorem sortRows {P : Program} {ρ : Go.Shelf.Ren} (L : Go.Proofs.SlLaysF.n6 P ρ) (t3 t22 : Nat) (cg : Nat) (eg : ∀ args w, (callFunc cg args).run P w = .ok (.enter cg args) w) (l : List (List Int)) (g n cap base : Nat) (ok : Nat → Prop) (w : World)
    (hcmp : ∀ (x y : List Int), (x ∈ l ∨ x = []) → (y ∈ l ∨ y = []) → ∀ (A B : Option Addr) (c c' : Nat) (W : World), Kd.C (Kd.int .i64) W A x.length x → x.length ≤ c → Kd.C (Kd.int .i64) W B y.length y → y.length ≤ c' → Calls P cg #[.slice A x.length c, .slice B y.length c'] W fun e w' => e = .returned (.int .i64 (cmpL x y)) ∧ ∃ q, w' = W.drewN q)
    (h : Kd.S (Kd.slice t3 (Kd.int .i64)) t22 w base ok (.slice (some ⟨g, 0, none⟩) n cap) l) (hl : l.length < 4611686018427387904) :
    Calls P (ρ.f 6) #[.slice (some ⟨g, 0, none⟩) n cap, .func (.func cg) #[] #[]] w fun e w' => e = .returned (.tuple #[]) ∧ Kd.S (Kd.slice t3 (Kd.int .i64)) t22 w' base ok (.slice (some ⟨g, 0, none⟩) n cap) (sortL l) ∧ ∀ B, B ≤ g → Below B w w' := by
  have hn : n = l.length := (Kd.S_reads' h).1
  subst hn
  obtain ⟨f, hok0, inner, ho, hr⟩ := h
  have hil : inner.length = l.length := by have := hr.1; simpa [Kd.tag, Kd.slice] using this
  rcases ho.2 with ⟨he, _⟩ | ⟨g', cap', cur, he, hbg, hh, hnc, hcm, hcs, htk⟩
  · exact absurd he (by simp)
  · injection he with e1 e2 e3
    injection e1 with e1
    injection e1 with e1
    subst e1
    subst e3
    have hblk : g < w.heap.size := by
      rcases Nat.lt_or_ge g w.heap.size with h | h
      · exact h
      · rw [Array.getElem?_eq_none h] at hh; exact absurd hh (by simp)
    have hsz : (Kd.tag f (Kd.slice t3 (Kd.int .i64))).sz = 1 := rfl
    rw [List.length_zipIdx, hsz, Nat.mul_one] at htk
    have hv : ∀ j, (hj : j < l.length) → ∃ v, inner[j]? = some v ∧ Kd.R (Kd.int .i64) t3 w base (fun k => (ok k ∧ k ≠ g) ∧ f k = j) v l[j] := by
      intro j hj
      obtain ⟨v, hc, hR⟩ := hr.2 j (l[j], j) (Kd.zip_at (List.getElem?_eq_getElem hj))
      rw [hsz, Nat.mul_one, List.drop_eq_getElem_cons (by omega)] at hc
      simp only [List.take_succ_cons, List.take_zero] at hc
      injection hc with hc _
      refine ⟨v, by rw [List.getElem?_eq_getElem (by omega), hc], Kd.R_mono hR (fun k hk => ⟨⟨hk.1.1, fun e => hk.1.2 (by simp [Value.ownBlock, e])⟩, hk.2⟩)⟩
    obtain ⟨enc, henc⟩ : ∃ enc : Nat → Value, enc = fun j => inner.getD j (.slice none 0 0) := ⟨_, rfl⟩
    have hev : ∀ j v, inner[j]? = some v → enc j = v := by
      intro j v hj
      rw [henc]; simp [List.getD_eq_getElem?_getD, hj]
    have hread : ∀ (W : World), (∀ k, k < w.heap.size → k ≠ g → W.heap[k]? = w.heap[k]?) → ∀ x, ∃ A c, enc x = .slice A (l.getD x []).length c ∧ (l.getD x []).length ≤ c ∧ Kd.C (Kd.int .i64) W A (l.getD x []).length (l.getD x []) ∧ (l.getD x [] ∈ l ∨ l.getD x [] = []) := by
      intro W hW x
      by_cases hx : x < l.length
      · obtain ⟨v, h1, hR⟩ := hv x hx
        have hR2 := Kd.R_move (w1 := W) (Kd.R_bound hR) (fun k hk => hW k hk.2.2.1 hk.1.1.2)
        obtain ⟨A, c, e, h2, h3⟩ := Kd.R_reads hR2
        have eg : l.getD x [] = l[x] := by simp [List.getD_eq_getElem?_getD, List.getElem?_eq_getElem hx]
        rw [eg]
        exact ⟨A, c, (hev x v h1).trans e, h2, h3, .inl (List.getElem_mem _)⟩
      · have eg : l.getD x [] = [] := by simp [List.getD_eq_getElem?_getD, List.getElem?_eq_none (Nat.le_of_not_lt hx)]
        rw [eg]
        obtain ⟨A, c, e, h2, h3⟩ := Kd.R_reads (Kd.R_nil (Kd.int .i64) t3 W 0 (fun _ => True))
        have ee : enc x = .slice none 0 0 := by
          rw [henc]; simp [List.getD_eq_getElem?_getD, List.getElem?_eq_none (show inner.length ≤ x by omega)]
        exact ⟨A, c, ee.trans e, h2, h3, .inr rfl⟩
    have hone : OneCell enc := by
      intro x
      obtain ⟨A, c, e, _⟩ := hread w (fun _ _ _ => rfl) x
      rw [e]; rfl
    have hcur : ∀ j, j < l.length → cur[j]? = some (enc j) := by
      intro j hj
      obtain ⟨v, h1, _⟩ := hv j hj
      rw [hev j v h1, ← h1, ← htk, List.getElem?_take, if_pos hj, Array.getElem?_toList]
    have hH : Holds enc w g 0 (Array.range l.length) := by
      intro j hj
      rw [Array.size_range] at hj
      have e : (Array.range l.length)[j]! = j := by rw [getElem!_pos _ j (by simpa using hj)]; simp
      rw [e, Nat.zero_add]
      exact ⟨by simp [World.cell?, hh, hcur j hj], by simp [World.frozen?, hh]⟩
    have hreads : CmpReads P cg #[] enc (cfL l) g 0 (Array.range l.length).size w := by
      intro m os dk _ x y
      have hW := fun k (hk : k < w.heap.size) (hg : k ≠ g) => heap_sortWorld enc w g m dk os k hk hg
      obtain ⟨A, c, e1, h1, r1, m1⟩ := hread _ hW x
      obtain ⟨B, c', e2, h2, r2, m2⟩ := hread _ hW y
      rw [e1, e2]
      exact hcmp _ _ m1 m2 A B c c' _ r1 h1 r2 h2
    have hcon := Any.slices_SortFunc L enc hone (cfL l) (swoL l) cg #[] g 0 cap (Array.range l.length) w eg hreads.lays hH hblk (by simpa using hl)
    rw [Array.size_range] at hcon
    refine hcon.mono ?_
    rintro e w' ⟨rfl, d', nn, os, hp, hs, rfl⟩
    have hu := sorted_unique l d' hp hs
    have hd : d'.size = l.length := by rw [hp.1]; simp
    have hperm : d'.toList.Perm (List.range l.length) := by
      have h := hp.2.2
      rw [Array.extract_eq_self_of_le (by omega), Array.extract_eq_self_of_le (by simp)] at h
      simpa using h
    have hnd : d'.toList.Nodup := (hperm.nodup_iff).2 List.nodup_range
    refine ⟨rfl, ⟨fun k => d'.toList.idxOf (f k), hok0, d'.toList.map enc, ⟨by simp [sortL, hd, Kd.tag, Kd.slice], .inr ⟨g, cap, putCells enc 0 d' cur, by simp [sortL], hbg, heap_sortWorld_at enc w g nn d' os cur t22 _ hh, by simpa [sortL] using hnc, hcm, by rw [show (putCells enc 0 d' cur).size = cur.size by simp [putCells]]; exact hcs, ?_⟩⟩, by simp [sortL, hd, Kd.tag, Kd.slice], fun j p hj => ?_⟩, fun B hB => below_sortWorld enc w g nn d' os B hB hblk⟩
    · have e1 : (sortL l).zipIdx.length * (Kd.tag (fun k => d'.toList.idxOf (f k)) (Kd.slice t3 (Kd.int .i64))).sz = l.length := by simp [sortL, Kd.tag, Kd.slice]
      rw [e1]
      refine List.ext_getElem? (fun j => ?_)
      by_cases hj : j < l.length
      · have hjd : j < d'.size := by omega
        rw [List.getElem?_take, if_pos hj, Array.getElem?_toList, putCells, Array.getElem?_mapIdx, hcur j hj, List.getElem?_map, Array.getElem?_toList, Array.getElem?_eq_getElem hjd]
        simp [hjd]
      · rw [List.getElem?_take, if_neg hj, List.getElem?_eq_none (by simp [hd]; omega)]
    · have hlen : (sortL l).length = l.length := by simp [sortL]
      have hjl : j < l.length := by
        have := (List.getElem?_eq_some_iff.1 hj).1
        rw [List.length_zipIdx, hlen] at this
        exact this
      have hjd : j < d'.size := by omega
      have hi : d'[j] < l.length := by
        have := (hperm.mem_iff (a := d'[j])).1 (by simp)
        simpa using this
      have hget : (sortL l)[j]? = some l[d'[j]] := by
        rw [← hu, List.getElem?_map, Array.getElem?_toList, Array.getElem?_eq_getElem hjd]
        simp [List.getD_eq_getElem?_getD, List.getElem?_eq_getElem hi]
      have hp2 := Kd.zip_at hget
      rw [hp2] at hj
      obtain rfl := Option.some.inj hj
      obtain ⟨v, h1, hR⟩ := hv d'[j] hi
      have hW := fun k (hk : k < w.heap.size) (hg : k ≠ g) => heap_sortWorld enc w g nn d' os k hk hg
      have hR2 := Kd.R_move (w1 := sortWorld enc w g 0 nn d' os) (Kd.R_bound hR) (fun k hk => hW k hk.2.2.1 hk.1.1.2)
      refine ⟨v, ?_, Kd.R_mono hR2 (fun k hk => ⟨⟨hk.1.1.1, fun e => hk.1.1.2 (by simpa [Value.ownBlock] using e)⟩, ?_⟩)⟩
      · have e2 : (Kd.tag (fun k => d'.toList.idxOf (f k)) (Kd.slice t3 (Kd.int .i64))).sz = 1 := rfl
        rw [e2, Nat.mul_one, List.drop_eq_getElem_cons (by simpa using hjd)]
        simp only [List.take_succ_cons, List.take_zero, List.getElem_map, Array.getElem_toList]
        rw [hev _ v h1]
      · show d'.toList.idxOf (f k) = j
        rw [hk.1.2]
        have := hnd.idxOf_getElem j (by simpa using hjd)
        simpa using this
/-- The library's own text of SortFunc lies here as function 85: written by the kit's tool that lays a contract of the shelf in plain words. -/
def sortLL_ren : Go.Shelf.Ren := ⟨fun | 6 => 85 | 15 => 113 | 14 => 112 | 28 => 130 | 29 => 131 | 20 => 122 | 21 => 123 | 22 => 124 | 23 => 125 | 24 => 126 | 25 => 127 | 26 => 128 | 27 => 129 | 46 => 133 | 47 => 134 | 48 => 135 | 49 => 136 | 50 => 137 | 57 => 138 | n => n, fun | 22 => 57 | 24 => 22 | 25 => 63 | 3 => 3 | 39 => 106 | 0 => 0 | 53 => 116 | 55 => 118 | 4 => 4 | 46 => 110 | 45 => 109 | 50 => 92 | 5 => 5 | 9 => 9 | 66 => 119 | 70 => 123 | 76 => 125 | 77 => 96 | n => n, fun | n => n⟩
theorem sortLL : Go.Proofs.SlLaysF.n6 Try.prog sortLL_ren := {
  mixed := by kernel_rfl
  f6 := ⟨Try.f85.name, by decide, Try.func85.trans (congrArg some (by kernel_rfl))⟩
  f14 := ⟨Try.f112.name, by decide, Try.func112.trans (congrArg some (by kernel_rfl))⟩
  f15 := Try.func113.trans (congrArg some (by kernel_rfl))
  f20 := ⟨Try.f122.name, by decide, Try.func122.trans (congrArg some (by kernel_rfl))⟩
  f21 := ⟨Try.f123.name, by decide, Try.func123.trans (congrArg some (by kernel_rfl))⟩
  f22 := ⟨Try.f124.name, by decide, Try.func124.trans (congrArg some (by kernel_rfl))⟩
  f23 := ⟨Try.f125.name, by decide, Try.func125.trans (congrArg some (by kernel_rfl))⟩
  f24 := ⟨Try.f126.name, by decide, Try.func126.trans (congrArg some (by kernel_rfl))⟩
  f25 := ⟨Try.f127.name, by decide, Try.func127.trans (congrArg some (by kernel_rfl))⟩
  f26 := ⟨Try.f128.name, by decide, Try.func128.trans (congrArg some (by kernel_rfl))⟩
  f27 := ⟨Try.f129.name, by decide, Try.func129.trans (congrArg some (by kernel_rfl))⟩
  f28 := Try.func130.trans (congrArg some (by kernel_rfl))
  f29 := Try.func131.trans (congrArg some (by kernel_rfl))
  f46 := ⟨Try.f133.name, by decide, Try.func133.trans (congrArg some (by kernel_rfl))⟩
  f47 := Try.func134.trans (congrArg some (by kernel_rfl))
  f48 := Try.func135.trans (congrArg some (by kernel_rfl))
  f49 := ⟨Try.f136.name, by decide, Try.func136.trans (congrArg some (by kernel_rfl))⟩
  f50 := ⟨Try.f137.name, by decide, Try.func137.trans (congrArg some (by kernel_rfl))⟩
  f57 := ⟨Try.f138.name, by decide, Try.func138.trans (congrArg some (by kernel_rfl))⟩
  t0 := Try.underlying0
  a0 := Try.isAgg0
  z0 := Try.sizeOf0
  v0 := Try.zeroValue0
  t3 := Try.underlying3
  a3 := Try.isAgg3
  z3 := Try.sizeOf3
  v3 := Try.zeroValue3
  t4 := Try.underlying4
  a4 := Try.isAgg4
  z4 := Try.sizeOf4
  v4 := Try.zeroValue4
  t5 := Try.underlying5
  a5 := Try.isAgg5
  z5 := Try.sizeOf5
  v5 := Try.zeroValue5
  t9 := Try.underlying9
  a9 := Try.isAgg9
  z9 := Try.sizeOf9
  v9 := Try.zeroValue9
  t22 := Try.underlying57
  a22 := Try.isAgg57
  z22 := Try.sizeOf57
  v22 := Try.zeroValue57
  a24 := Try.isAgg22
  z24 := Try.sizeOf22
  t25 := Try.underlying63
  a25 := Try.isAgg63
  z25 := Try.sizeOf63
  v25 := Try.zeroValue63
  t39 := Try.underlying106
  a39 := Try.isAgg106
  z39 := Try.sizeOf106
  v39 := Try.zeroValue106
  t45 := Try.underlying109
  a45 := Try.isAgg109
  z45 := Try.sizeOf109
  v45 := Try.zeroValue109
  t46 := Try.underlying110
  a46 := Try.isAgg110
  z46 := Try.sizeOf110
  v46 := Try.zeroValue110
  t50 := Try.underlying92
  a50 := Try.isAgg92
  z50 := Try.sizeOf92
  v50 := Try.zeroValue92
  t53 := Try.underlying116
  a53 := Try.isAgg116
  z53 := Try.sizeOf116
  v53 := Try.zeroValue116
  t55 := Try.underlying118
  a55 := Try.isAgg118
  z55 := Try.sizeOf118
  v55 := Try.zeroValue118
  t66 := Try.underlying119
  a66 := Try.isAgg119
  z66 := Try.sizeOf119
  v66 := Try.zeroValue119
  t70 := Try.underlying123
  a70 := Try.isAgg123
  z70 := Try.sizeOf123
  v70 := Try.zeroValue123
  t76 := Try.underlying125
  a76 := Try.isAgg125
  z76 := Try.sizeOf125
  v76 := Try.zeroValue125
  t77 := Try.underlying96
  a77 := Try.isAgg96
  z77 := Try.sizeOf96
  v77 := Try.zeroValue96 }
end Go.Proofs.Ytemcokpkgpnloaa.SortR
