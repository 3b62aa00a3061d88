-- Written by a program of this project (myprint.py, by way of the kit's printer). Not trusted: Lean checks it.
import Derived.Test.YtpcimkpklmemnaaPFnHavesx0
import Derived.Test.YtpcimkpklmemnaaPFnHavesx3
namespace Go.Proofs.Ytpcimkpklmemnaa.PFnHaves
open Go.RowKit Go.Proofs.YtpcimkpklmemnaaW.PrintWords Go.Proofs.YtpcimkpklmemnaaW.PrintLast Go.Proofs.YtpcimkpklmemnaaW.PrintMore
attribute [local go_sem] max2_int min2_int max_two min_two max_three min_three max_four min_four   -- for this text's walks alone
set_option linter.unusedVariables false
set_option linter.unusedSimpArgs false

/-! ### impl_merged: function 43 -/
-- insert
theorem run_copy_rowN {P : Program} (w : World) (dT sT ty elem : TypeId) (sz g o dLen dCap : Nat) (a : Addr) (sLen sCap : Nat) (cur : Array Value) (t : TypeId) (cs : List Value)
    (hu : P.underlying dT = some (.slice elem)) (hs : (P.info? elem).map (·.size) = some sz)
    (hg : w.heap[g]? = some (.cells cur t (0, 0))) (hn : cs.length = Nat.min sLen dLen * sz)
    (hsrc : ∀ j v, cs[j]? = some v → w.cell? (a.add j) = some v) (hfit : o + cs.length ≤ cur.size) (h1 : ∀ v ∈ cs, v.oneCell' = true) :
    (Builtin.copy_ #[dT, sT] ty #[.slice (some ⟨g, o, none⟩) dLen dCap, .slice (some a) sLen sCap]).run P w =
      .ok (goInt (Nat.min sLen dLen)) (w.setRow g (cur.toList.take o ++ cs ++ cur.toList.drop (o + cs.length)).toArray) := by
  have hl := run_loadCells_list (P := P) w a cs hsrc
  have hst := run_storeCells_at P g o t cs 0 cur w hg (by simpa using hfit) h1
  cases hq : P.info? elem with
  | none => simp [hq] at hs
  | some i =>
    have hi : i.size = sz := by simpa [hq] using hs
    simp [Builtin.copy_, run_underlying hu, Builtin.lenOf, Builtin.firstCells, sizeOf, typeInfo, hq, hi, ← hn, hl, hst]
theorem soz56 : ∀ w : World, (Go.sizeOf 56).run Try.prog w = .ok 2 w := fun w => by
  have h : (Try.prog.info? 56).map (·.size) = some 2 := by kernel_rfl
  cases hq : Try.prog.info? 56 with
  | none => simp [hq] at h
  | some i =>
    have hi : i.size = 2 := by simpa [hq] using h
    simp [sizeOf, typeInfo, hq, hi]
theorem sz56 : (Try.prog.info? 56).map (·.size) = some 2 := by kernel_rfl
open Go.Lib in
set_option maxHeartbeats 4000000 in
set_option maxRecDepth 100000 in
theorem ins_shift (b n c i vb vc : Nat) (cur : Array Value) (x0 x1 : Value) (w : World) (hi : i < n) (hroom : n + 1 ≤ c) (hc63 : c ≤ 9223372036854775807) (hvb : vb ≠ b)
    (hg : w.heap[b]? = some (.cells cur 56 (0, 0))) (hcur : cur.size = c * 2) (hv : w.heap[vb]? = some (.cells #[x0, x1] 56 (0, 0)))
    (h1c : ∀ v ∈ cur.toList.take (n * 2), v.oneCell' = true) (h1v : x0.oneCell' = true ∧ x1.oneCell' = true) (L1 L2 : List Value)
    (hL1 : L1 = cur.toList.take ((i + 1) * 2) ++ (cur.toList.take (n * 2)).drop (i * 2) ++ cur.toList.drop ((i + 1) * 2 + ((cur.toList.take (n * 2)).drop (i * 2)).length)) (hL2 : L2 = L1.take (i * 2) ++ [x0, x1] ++ L1.drop (i * 2 + 2)) :
    Calls Try.prog 53 #[.slice (some ⟨b, 0, none⟩) n c, .int .i64 i, .slice (some ⟨vb, 0, none⟩) 1 vc] w fun e w' =>
      e = .returned (.slice (some ⟨b, 0, none⟩) (n + 1) c) ∧ w'.heap[b]? = some (.cells L2.toArray 56 (0, 0)) ∧ Kept w w' (fun k => k = b) ∧ ∀ B, B ≤ b → Below B w w' := by
  have hu25 := Try.underlying25
  have mixed : Try.prog.follows Departure.mixedOrders = true := by kernel_rfl
  have u25 := run_underlying Try.underlying25
  have hz2 : ¬ ((i : Int) = (n : Int)) := by omega
  have hsa : w.shape? vb = some (56, 2) := by simp [World.shape?, hv]
  have hsb : w.shape? b = some (56, c * 2) := by simp [World.shape?, hg, hcur]
  have hov : ∀ lb cb, (callFunc 55 #[.slice (some ⟨vb, 0, none⟩) 1 vc, .slice (some ⟨b, (i + 1) * 2, none⟩) lb cb]).run Try.prog w = .ok (.value (.bool false)) w := fun lb cb => by
    rw [run_callFunc_extern Try.func55 (by kernel_rfl) (by kernel_rfl) (by kernel_rfl) (e := Extern.SlicesOverlaps.overlaps #[25, 25] #[4]) (by kernel_rfl),
      Lib.run_overlaps_apart w 25 4 56 Try.underlying25 2 soz56 ⟨vb, 0, none⟩ ⟨b, (i + 1) * 2, none⟩ 1 vc lb cb hvb 56 56 2 (c * 2) hsa hsb (by omega) (blk_frozen hv 0) (blk_frozen hv 2)]
    rfl
  have hw1 : IntKind.i64.wrap ((i : Int) + 1) = (i : Int) + 1 := by rw [IntKind.wrap_i64]; omega
  have hw2 : IntKind.i64.wrap ((n : Int) + 1) = (n : Int) + 1 := by rw [IntKind.wrap_i64]; omega
  have hb1 : (0 : Int) ≤ (i : Int) + 1 := by omega
  have hin : i ≤ n := by omega
  have htn : ((i : Int) + 1).toNat = i + 1 := by omega
  have hb2 : ¬ (c = i + 1) := by omega
  have hb3 : (i : Int) ≤ (n : Int) + 1 := by omega
  have hb4 : ¬ (c = i) := by omega
  obtain ⟨W1, hW1⟩ : ∃ W1, W1 = w.drew.setRow b L1.toArray := ⟨_, rfl⟩
  have hln : ((cur.toList.take (n * 2)).drop (i * 2)).length = (n - i) * 2 := by
    rw [List.length_drop, List.length_take, Array.length_toList]
    omega
  have hL1l : L1.length = c * 2 := by
    rw [hL1]
    simp only [List.length_append, List.length_take, List.length_drop, Array.length_toList]
    omega
  have hcp1 : ∀ ty dc sc, (Builtin.copy_ #[25, 25] ty #[.slice (some ⟨b, (i + 1) * 2, none⟩) (n - i) dc, .slice (some ⟨b, i * 2, none⟩) (n + 1 - i) sc]).run Try.prog w.drew = .ok (goInt (n - i : Nat)) W1 := fun ty dc sc => by
    have h := run_copy_rowN (P := Try.prog) w.drew 25 25 ty 56 2 b ((i + 1) * 2) (n - i) dc ⟨b, i * 2, none⟩ (n + 1 - i) sc cur 56 ((cur.toList.take (n * 2)).drop (i * 2)) Try.underlying25 sz56 hg (by rw [hln]; simp only [Nat.min_def]; split <;> omega)
      (fun j v hj => by
        rw [List.getElem?_drop, List.getElem?_take] at hj
        split at hj
        · rw [Addr.add_lit]
          have e : w.drew.cell? ⟨b, i * 2 + j, none⟩ = cur[i * 2 + j]? := blk_cell hg _
          rw [e, ← Array.getElem?_toList]
          exact hj
        · cases hj)
      (by rw [hln]; omega) (fun v hv => h1c v (List.mem_of_mem_drop hv))
    rw [← hL1, ← hW1] at h
    rw [h]
    congr 2
    simp only [Nat.min_def]
    split <;> omega
  have hg1 : W1.heap[b]? = some (.cells L1.toArray 56 (0, 0)) := by rw [hW1]; exact setRow_heap w.drew b cur _ 56 _ hg
  have hv1 : W1.heap[vb]? = some (.cells #[x0, x1] 56 (0, 0)) := by rw [hW1]; exact (setRow_other w.drew b vb _ hvb).trans hv
  obtain ⟨W2, hW2⟩ : ∃ W2, W2 = W1.setRow b L2.toArray := ⟨_, rfl⟩
  have hcp2 : ∀ ty dc, (Builtin.copy_ #[25, 25] ty #[.slice (some ⟨b, i * 2, none⟩) (n + 1 - i) dc, .slice (some ⟨vb, 0, none⟩) 1 vc]).run Try.prog W1 = .ok (goInt (1 : Nat)) W2 := fun ty dc => by
    have h := run_copy_rowN (P := Try.prog) W1 25 25 ty 56 2 b (i * 2) (n + 1 - i) dc ⟨vb, 0, none⟩ 1 vc L1.toArray 56 [x0, x1] Try.underlying25 sz56 hg1 (by simp only [Nat.min_def, List.length_cons, List.length_nil]; split <;> omega)
      (fun j v hj => by
        rw [Addr.add_lit, Nat.zero_add]
        exact (blk_cell hv1 j).trans (by rw [← Array.getElem?_toList]; exact hj))
      (by simp only [List.length_cons, List.length_nil, List.size_toArray]; omega) (fun v hv => by
        simp only [List.mem_cons, List.not_mem_nil, or_false] at hv
        rcases hv with rfl | rfl
        · exact h1v.1
        · exact h1v.2)
    rw [List.toList_toArray] at h
    have e : L1.take (i * 2) ++ [x0, x1] ++ L1.drop (i * 2 + [x0, x1].length) = L2 := hL2.symm
    rw [e, ← hW2] at h
    rw [h]
    congr 2
    simp only [Nat.min_def]
    split <;> omega
  have hfin : W2.heap[b]? = some (.cells L2.toArray 56 (0, 0)) ∧ Kept w W2 (fun k => k = b) ∧ ∀ B, B ≤ b → Below B w W2 := by
    refine ⟨by rw [hW2]; exact setRow_heap W1 b _ _ 56 _ hg1, ?_⟩
    rw [hW2, hW1]
    exact ⟨⟨by simp [World.setRow], fun k _ hk => (setRow_other _ b k _ hk).trans (setRow_other _ b k _ hk)⟩, fun B hB => below_setRow (below_setRow (below_drew1 (Below.refl B w)) hB _) hB _⟩
  clear hL1 hL2 hW1 hW2 hg hv h1c h1v hg1 hv1
  go_enter Try.func53, Try.ntmps53
  go_wp2_with (simp only [hov])
  go_region_law_o (refine step_copy_runI rfl _ _ 25 25 rfl _ _ (by simp [Act.eval, Act.put]) (by simp [Act.eval, Act.put]) (hcp1 _ _ _) ?_)
  go_wp2_with (at_builtin; refine wpList_copy_runI _ rfl _ _ 25 25 rfl _ _ rfl rfl (hcp2 _ _) ?_)
  go_ret
  exact ⟨rfl, hfin⟩
theorem inf56 : (Try.prog.info? 56).map (fun i => (i.zero, i.size, i.bytes)) = some (some (.agg #[.int .i64 0, .int .i64 0]), 2, 16) := by kernel_rfl
open Go.Lib in
set_option maxHeartbeats 4000000 in
set_option maxRecDepth 100000 in
theorem ins_grow (b n c i vb vc : Nat) (cur : Array Value) (x0 x1 : Value) (w : World) (hi : i < n) (hnc : n ≤ c) (hroom : c < n + 1) (hn : n ≤ 1000000) (hvb : vb ≠ b)
    (hg : w.heap[b]? = some (.cells cur 56 (0, 0))) (hcur : cur.size = c * 2) (hv : w.heap[vb]? = some (.cells #[x0, x1] 56 (0, 0)))
    (h1c : ∀ v ∈ cur.toList.take (n * 2), v.oneCell' = true) (h1v : x0.oneCell' = true ∧ x1.oneCell' = true) :
    Calls Try.prog 53 #[.slice (some ⟨b, 0, none⟩) n c, .int .i64 i, .slice (some ⟨vb, 0, none⟩) 1 vc] w fun e w' => ∃ (G : Nat) (L : List Value),
      e = .returned (.slice (some ⟨w.heap.size, 0, none⟩) (n + 1) G) ∧ w'.heap[w.heap.size]? = some (.cells L.toArray 56 (0, 0)) ∧ n + 1 ≤ G ∧ G ≤ maxLen ∧ L.length = G * 2 ∧
        L.take ((n + 1) * 2) = (cur.toList.take (n * 2)).take (i * 2) ++ [x0, x1] ++ (cur.toList.take (n * 2)).drop (i * 2) ∧ Below w.heap.size w w' := by
  have hu25 := Try.underlying25
  have mixed : Try.prog.follows Departure.mixedOrders = true := by kernel_rfl
  have u25 := run_underlying Try.underlying25
  obtain ⟨i0, hi0, hz0, hzs, hzb⟩ := info_parts inf56
  have hz2 : ¬ ((i : Int) = (n : Int)) := by omega
  have hz3 : (c : Int) < (n : Int) + 1 := by omega
  have hbw : b < w.heap.size := blk_lt hg
  have hvw : vb < w.heap.size := blk_lt hv
  have hkk : (n : Int) + 1 - (i : Int) = ((n + 1 - i : Nat) : Int) := by omega
  have hik : i + (n + 1 - i) = n + 1 := by omega
  have hold : (Builtin.firstCells i0.size i (.slice (some ⟨b, 0, none⟩) i c)).run Try.prog w.drew = .ok (cur.toList.take (i * 2)).toArray w.drew := by
    rw [hzs]
    exact run_firstCells_some w.drew 2 i ⟨b, 0, none⟩ i c (cur.toList.take (i * 2)) (by rw [List.length_take, Array.length_toList]; omega) (fun j v hj => by
      rw [Addr.add_lit, Nat.zero_add]
      rw [List.getElem?_take] at hj
      split at hj
      · have e : w.drew.cell? ⟨b, j, none⟩ = cur[j]? := blk_cell hg _
        rw [e, ← Array.getElem?_toList]
        exact hj
      · cases hj)
  obtain ⟨G, hG⟩ : ∃ G, G = grownCap w (n + 1) c 56 := ⟨_, rfl⟩
  obtain ⟨ROW, hROW⟩ : ∃ ROW : Array Value, ROW = (cur.toList.take (i * 2)).toArray ++ Builtin.zeroCells (Value.agg #[.int .i64 0, .int .i64 0]).cells (n + 1 - i) ++ Builtin.zeroCells (Value.agg #[.int .i64 0, .int .i64 0]).cells (G - (n + 1)) := ⟨_, rfl⟩
  have hrz : ∀ ty, (Builtin.append_ #[25, 3] ty #[.slice (some ⟨b, 0, none⟩) i c, .int .i64 ((n : Int) + 1 - (i : Int))]).run Try.prog w = .ok (.slice (some ⟨w.heap.size, 0, none⟩) (n + 1) G) (w.drew.alloc (.cells ROW 56)) := fun ty => by
    have h := Lib.run_append_grow_zeros w 25 3 ty 56 i0 _ .i64 .i64 Try.underlying25 Try.underlying3 hi0 hz0 (some ⟨b, 0, none⟩) i c (cur.toList.take (i * 2)) hold (n + 1 - i) (by omega) (by omega) (by omega) (by omega) (by rw [hzb]; omega) (by rw [hzb, hik]; exact growslice_fits hroom (by omega))
    rw [hik, ← hG, ← hROW] at h
    rw [hkk]
    exact h
  have hGn : n + 1 ≤ G := by rw [hG]; exact grownCap_ge w _ _ _
  have hGm : G ≤ maxLen := by rw [hG]; exact grownCap_le_maxLen w _ _ _ (by unfold maxLen; omega)
  have hG63 : G ≤ 9223372036854775807 := by
    have h := hGm
    unfold maxLen at h
    omega
  have hzc : ∀ k : Nat, (Builtin.zeroCells (Value.agg #[.int .i64 0, .int .i64 0]).cells k).size = k * 2 := fun k => by simp [Builtin.zeroCells, Value.cells]
  have hRs : ROW.size = G * 2 := by
    rw [hROW]
    simp only [Array.size_append, hzc, List.size_toArray, List.length_take, Array.length_toList]
    omega
  have hRt : ROW.toList.take (i * 2) = cur.toList.take (i * 2) := by
    have h1 : ROW.toList = cur.toList.take (i * 2) ++ ((Builtin.zeroCells (Value.agg #[.int .i64 0, .int .i64 0]).cells (n + 1 - i)).toList ++ (Builtin.zeroCells (Value.agg #[.int .i64 0, .int .i64 0]).cells (G - (n + 1))).toList) := by
      rw [hROW]
      simp only [Array.toList_append, List.append_assoc]
    rw [h1, List.take_left' (by rw [List.length_take, Array.length_toList]; omega)]
  obtain ⟨T, hT⟩ : ∃ T, T = (cur.toList.take (n * 2)).drop (i * 2) := ⟨_, rfl⟩
  have hTl : T.length = (n - i) * 2 := by
    rw [hT, List.length_drop, List.length_take, Array.length_toList]
    omega
  obtain ⟨R1, hR1⟩ : ∃ R1, R1 = ROW.toList.take (i * 2) ++ [x0, x1] ++ ROW.toList.drop (i * 2 + 2) := ⟨_, rfl⟩
  have hR1l : R1.length = G * 2 := by
    rw [hR1]
    simp only [List.length_append, List.length_take, List.length_drop, Array.length_toList, List.length_cons, List.length_nil]
    omega
  obtain ⟨R2, hR2⟩ : ∃ R2, R2 = R1.take ((i + 1) * 2) ++ T ++ R1.drop ((i + 1) * 2 + T.length) := ⟨_, rfl⟩
  have hR2l : R2.length = G * 2 := by
    rw [hR2]
    simp only [List.length_append, List.length_take, List.length_drop]
    omega
  have hfront : R1.take ((i + 1) * 2) = cur.toList.take (i * 2) ++ [x0, x1] := by
    rw [hR1, hRt]
    exact List.take_left' (by simp only [List.length_append, List.length_take, Array.length_toList, List.length_cons, List.length_nil]; omega)
  have hans : R2.take ((n + 1) * 2) = (cur.toList.take (n * 2)).take (i * 2) ++ [x0, x1] ++ T := by
    rw [hR2, hfront, List.take_take, show min (i * 2) (n * 2) = i * 2 by omega]
    exact List.take_left' (by simp only [List.length_append, List.length_take, Array.length_toList, List.length_cons, List.length_nil, hTl]; omega)
  have hcpA : ∀ W : World, W.heap[w.heap.size]? = some (.cells ROW 56 (0, 0)) → W.heap[vb]? = some (.cells #[x0, x1] 56 (0, 0)) → ∀ ty dc, (Builtin.copy_ #[25, 25] ty #[.slice (some ⟨w.heap.size, i * 2, none⟩) (n + 1 - i) dc, .slice (some ⟨vb, 0, none⟩) 1 vc]).run Try.prog W = .ok (goInt (1 : Nat)) (W.setRow w.heap.size R1.toArray) := fun W hW1 hW2 ty dc => by
    have h := run_copy_rowN (P := Try.prog) W 25 25 ty 56 2 w.heap.size (i * 2) (n + 1 - i) dc ⟨vb, 0, none⟩ 1 vc ROW 56 [x0, x1] Try.underlying25 sz56 hW1 (by simp only [Nat.min_def, List.length_cons, List.length_nil]; split <;> omega)
      (fun j v hj => by
        rw [Addr.add_lit, Nat.zero_add]
        exact (blk_cell hW2 j).trans (by rw [← Array.getElem?_toList]; exact hj))
      (by simp only [List.length_cons, List.length_nil]; omega) (fun v hv => by
        simp only [List.mem_cons, List.not_mem_nil, or_false] at hv
        rcases hv with rfl | rfl
        · exact h1v.1
        · exact h1v.2)
    have e : ROW.toList.take (i * 2) ++ [x0, x1] ++ ROW.toList.drop (i * 2 + [x0, x1].length) = R1 := hR1.symm
    rw [e] at h
    rw [h]
    congr 2
    simp only [Nat.min_def]
    split <;> omega
  have hcpB : ∀ W : World, W.heap[w.heap.size]? = some (.cells R1.toArray 56 (0, 0)) → W.heap[b]? = some (.cells cur 56 (0, 0)) → ∀ ty dc sc, (Builtin.copy_ #[25, 25] ty #[.slice (some ⟨w.heap.size, (i + 1) * 2, none⟩) (n - i) dc, .slice (some ⟨b, i * 2, none⟩) (n - i) sc]).run Try.prog W = .ok (goInt (n - i : Nat)) (W.setRow w.heap.size R2.toArray) := fun W hW1 hW2 ty dc sc => by
    have h := run_copy_rowN (P := Try.prog) W 25 25 ty 56 2 w.heap.size ((i + 1) * 2) (n - i) dc ⟨b, i * 2, none⟩ (n - i) sc R1.toArray 56 T Try.underlying25 sz56 hW1 (by rw [hTl]; simp only [Nat.min_def]; split <;> omega)
      (fun j v hj => by
        rw [hT, List.getElem?_drop, List.getElem?_take] at hj
        split at hj
        · rw [Addr.add_lit, blk_cell hW2, ← Array.getElem?_toList]
          exact hj
        · cases hj)
      (by simp only [List.size_toArray]; omega) (fun v hv => h1c v (by rw [hT] at hv; exact List.mem_of_mem_drop hv))
    rw [List.toList_toArray, ← hR2] at h
    rw [h]
    congr 2
    simp only [Nat.min_def]
    split <;> omega
  have hA1 : ((w.alloc (.cells ROW 56)).drew).heap[w.heap.size]? = some (.cells ROW 56 (0, 0)) := blk_new w _
  have hA2 : ((w.alloc (.cells ROW 56)).drew).heap[vb]? = some (.cells #[x0, x1] 56 (0, 0)) := by
    have h : (w.alloc (.cells ROW 56)).heap[vb]? = some (.cells #[x0, x1] 56 (0, 0)) := blk_below hv (below_alloc (Below.refl _ _) _)
    exact h
  have hB1 : (((w.alloc (.cells ROW 56)).drew).setRow w.heap.size R1.toArray).drew.heap[w.heap.size]? = some (.cells R1.toArray 56 (0, 0)) := setRow_heap _ _ _ _ 56 _ hA1
  have hB2 : (((w.alloc (.cells ROW 56)).drew).setRow w.heap.size R1.toArray).drew.heap[b]? = some (.cells cur 56 (0, 0)) := by
    have h : (w.alloc (.cells ROW 56)).heap[b]? = some (.cells cur 56 (0, 0)) := blk_below hg (below_alloc (Below.refl _ _) _)
    exact (setRow_other _ _ _ _ (by omega)).trans h
  have hC1 : ((((w.alloc (.cells ROW 56)).drew).setRow w.heap.size R1.toArray).drew.setRow w.heap.size R2.toArray).heap[w.heap.size]? = some (.cells R2.toArray 56 (0, 0)) := setRow_heap _ _ _ _ 56 _ hB1
  have hCB : Below w.heap.size w ((((w.alloc (.cells ROW 56)).drew).setRow w.heap.size R1.toArray).drew.setRow w.heap.size R2.toArray) := below_setRow (below_drew1 (below_setRow (by repeat (first | exact Below.refl _ _ | apply below_alloc | apply below_drew1)) (Nat.le_refl _) _)) (Nat.le_refl _) _
  have hGi : ¬ (G = i) := by omega
  have hGim : ¬ (G = i + 1) := by omega
  have hci : ¬ (c = i) := by omega
  have hw1 : IntKind.i64.wrap ((i : Int) + 1) = (i : Int) + 1 := by rw [IntKind.wrap_i64]; omega
  have hw2 : IntKind.i64.wrap ((n : Int) + 1) = (n : Int) + 1 := by rw [IntKind.wrap_i64]; omega
  have hw3 : IntKind.i64.wrap ((n : Int) + 1 - (i : Int)) = (n : Int) + 1 - (i : Int) := by rw [IntKind.wrap_i64]; omega
  have hb1 : (0 : Int) ≤ (i : Int) + 1 := by omega
  have hin : i ≤ n := by omega
  have htn : ((i : Int) + 1).toNat = i + 1 := by omega
  have hb3 : (i : Int) ≤ (n : Int) := by omega
  rw [hT] at hans
  clear hkk hik hold hROW hG hRs hRt hT hTl hR1 hR1l hR2 hfront hg hv h1c h1v hzc
  have hcA := fun ty dc => hcpA ((w.alloc (.cells ROW 56)).drew) hA1 hA2 ty dc
  clear hcpA
  go_enter Try.func53, Try.ntmps53
  go_wp2_with (first | (at_builtin; refine Lib.wpList_append_run _ rfl _ _ _ _ rfl _ _ rfl rfl _ _ (hrz _) ?_))
  go_region_law_o (refine step_copy_runI rfl _ _ 25 25 rfl (.slice (some ⟨w.heap.size, (i + 1) * 2, none⟩) (n - i) (G - (i + 1))) (.slice (some ⟨b, i * 2, none⟩) (n - i) (c - i)) (by simp [Act.eval, Act.put]) (by simp [Act.eval, Act.put]) (hcpB _ hB1 hB2 3 (G - (i + 1)) (c - i)) ?_)
  go_wp2
  go_ret
  exact ⟨G, R2, rfl, hC1, hGn, hGm, hR2l, hans, hCB⟩
set_option maxHeartbeats 4000000 in
set_option maxRecDepth 100000 in
theorem ins_end (base : Nat) (v : Value) (n vb vc : Nat) (inner : List Value) (x0 x1 : Value) (w : World) (hown : w.ownsRow base 56 2 v n inner) (hn : n ≤ 1000000) (hbase : base ≤ w.heap.size)
    (hv : w.heap[vb]? = some (.cells #[x0, x1] 56 (0, 0))) (h1v : x0.oneCell' = true ∧ x1.oneCell' = true) :
    Calls Try.prog 53 #[v, .int .i64 n, .slice (some ⟨vb, 0, none⟩) 1 vc] w fun e w' => ∃ v', e = .returned v' ∧ w'.ownsRow base 56 2 v' (n + 1) (inner ++ [x0, x1]) ∧ w.grownBy w' v.ownBlock ∧ (v'.ownBlock = v.ownBlock ∨ v'.ownBlock = some w.heap.size) := by
  have hu25 := Try.underlying25
  have mixed : Try.prog.follows Departure.mixedOrders = true := by kernel_rfl
  have u25 := run_underlying Try.underlying25
  obtain ⟨i0, hi0, hz0, hzs, hzb⟩ := info_parts inf56
  obtain ⟨v', w', hrun, ho, hgr, _, hat⟩ := run_append_own_at (P := Try.prog) w base 25 25 56 i0 _ 2 16 Try.underlying25 hi0 hz0 hzs hzb rfl (by omega) v n inner hown ⟨vb, 0, none⟩ 1 vc [x0, x1] rfl
    (fun j u hj => by
      rw [Addr.add_lit, Nat.zero_add]
      exact (blk_cell hv j).trans (by rw [← Array.getElem?_toList]; exact hj))
    (fun u hu => by
      simp only [List.mem_cons, List.not_mem_nil, or_false] at hu
      rcases hu with rfl | rfl
      · exact h1v.1
      · exact h1v.2) (by unfold maxLen; omega) (by omega) hbase
  have hsl : ∃ A c, v = .slice A n c ∧ n ≤ c ∧ c ≤ 9223372036854775807 ∧ (A = none → n = 0) ∧ ∀ a, A = some a → a = ⟨a.block, 0, none⟩ := by
    rcases hown.2 with ⟨rfl, rfl⟩ | ⟨g, cap, cur, rfl, _, _, h1, h2, _⟩
    · exact ⟨none, 0, rfl, Nat.le_refl _, by omega, fun _ => rfl, fun a h => by cases h⟩
    · exact ⟨some ⟨g, 0, none⟩, cap, rfl, h1, by unfold maxLen at h2; omega, (fun h => by cases h), fun a h => by cases h; rfl⟩
  obtain ⟨A, c, rfl, hnc, hc63, hA, hA2⟩ := hsl
  have hfin : w'.ownsRow base 56 2 v' (n + 1) (inner ++ [x0, x1]) ∧ w.grownBy w' (Value.slice A n c).ownBlock ∧ (v'.ownBlock = (Value.slice A n c).ownBlock ∨ v'.ownBlock = some w.heap.size) := ⟨ho, hgr, hat⟩
  clear hown ho hgr hat hi0 hz0 hzs hzb hv h1v
  go_enter Try.func53, Try.ntmps53
  cases A with
  | none =>
    have h0 := hA rfl
    subst h0
    clear hA hA2
    have HF := Aside0.mk hfin
    clear hfin
    go_wp2_with (at_builtin; refine Lib.wpList_append_run _ rfl _ _ _ _ rfl _ _ rfl rfl _ _ hrun ?_)
    go_ret
    exact ⟨_, rfl, HF.out⟩
  | some a =>
    obtain ⟨ab, ao, asp⟩ := a
    have := hA2 _ rfl
    injection this with _ h1 h2
    subst h1 h2
    clear hA hA2
    have HF := Aside0.mk hfin
    clear hfin
    have hni : ¬ ((n : Int) < 0) := by omega

    go_wp2_with (at_builtin; refine Lib.wpList_append_run _ rfl _ _ _ _ rfl _ _ rfl rfl _ _ hrun ?_)
    all_goals (go_ret; exact ⟨_, rfl, HF.out⟩)
/-- slices.Insert of one element at any place, at a row of the caller's own. -/
theorem ins_own (base : Nat) (v : Value) (n i vb vc : Nat) (inner : List Value) (x0 x1 : Value) (w : World) (hown : w.ownsRow base 56 2 v n inner) (hi : i ≤ n) (hn : n ≤ 1000000) (hbase : base ≤ w.heap.size)
    (hv : w.heap[vb]? = some (.cells #[x0, x1] 56 (0, 0))) (hvb : v.ownBlock ≠ some vb) (h1c : ∀ u ∈ inner, u.oneCell' = true) (h1v : x0.oneCell' = true ∧ x1.oneCell' = true) :
    Calls Try.prog 53 #[v, .int .i64 i, .slice (some ⟨vb, 0, none⟩) 1 vc] w fun e w' => ∃ v', e = .returned v' ∧ w'.ownsRow base 56 2 v' (n + 1) (inner.take (i * 2) ++ [x0, x1] ++ inner.drop (i * 2)) ∧
      (v'.ownBlock = v.ownBlock ∨ v'.ownBlock = some w.heap.size) ∧ Kept w w' (fun k => v.ownBlock = some k) ∧ Below base w w' := by
  have hlen := hown.1
  by_cases h : i = n
  · subst h
    refine (ins_end base v i vb vc inner x0 x1 w hown hn hbase hv h1v).mono ?_
    rintro e w' ⟨v', rfl, ho, hg, hat⟩
    have hlt := hown.lt
    rw [List.take_of_length_le (by omega), List.drop_of_length_le (by omega), List.append_nil]
    refine ⟨v', rfl, ho, hat, ⟨hg.size, fun k hk hne => hg.block k hk (fun h => hne h.symm)⟩, ⟨hg.os, hg.tape, hg.output, hg.size, fun k hk => hg.block k (by omega) (fun h => by have := (hlt k h.symm).1; omega)⟩⟩
  · rcases hown.2 with ⟨rfl, rfl⟩ | ⟨g, cap, cur, rfl, hbg, hg, hnc, hcm, hcs, htk⟩
    · omega
    · have hvg : vb ≠ g := fun h => hvb (by rw [h]; rfl)
      have h1 : ∀ u ∈ cur.toList.take (n * 2), u.oneCell' = true := fun u hu => h1c u (by rw [← htk]; exact hu)
      have hcm2 : cap ≤ 9223372036854775807 := by
        unfold maxLen at hcm
        omega
      by_cases hroom : n + 1 ≤ cap
      · obtain ⟨L1, hL1⟩ : ∃ L1, L1 = cur.toList.take ((i + 1) * 2) ++ (cur.toList.take (n * 2)).drop (i * 2) ++ cur.toList.drop ((i + 1) * 2 + ((cur.toList.take (n * 2)).drop (i * 2)).length) := ⟨_, rfl⟩
        obtain ⟨L2, hL2⟩ : ∃ L2, L2 = L1.take (i * 2) ++ [x0, x1] ++ L1.drop (i * 2 + 2) := ⟨_, rfl⟩
        refine (ins_shift g n cap i vb vc cur x0 x1 w (by omega) hroom hcm2 hvg hg hcs hv h1 h1v L1 L2 hL1 hL2).mono ?_
        rintro e w' ⟨rfl, hg2, hk, hb⟩
        rw [htk] at hL1
        have hdl : (inner.drop (i * 2)).length = (n - i) * 2 := by rw [List.length_drop]; omega
        have hcl : cur.toList.length = cap * 2 := by rw [Array.length_toList]; exact hcs
        have hL1l : L1.length = cap * 2 := by
          rw [hL1]
          simp only [List.length_append, List.length_take, List.length_drop, hcl, hlen]
          omega
        have hL2l : L2.length = cap * 2 := by
          rw [hL2]
          simp only [List.length_append, List.length_take, List.length_drop, List.length_cons, List.length_nil]
          omega
        have e1 : L1.take (i * 2) = inner.take (i * 2) := by
          rw [hL1, List.append_assoc, List.take_append_of_le_length (by rw [List.length_take]; omega), List.take_take, ← htk, List.take_take]
          congr 1
          omega
        have e2 : L1.drop (i * 2 + 2) = inner.drop (i * 2) ++ cur.toList.drop ((i + 1) * 2 + (inner.drop (i * 2)).length) := by
          rw [hL1, List.append_assoc]
          exact List.drop_left' (by rw [List.length_take]; omega)
        have hans : L2.take ((n + 1) * 2) = inner.take (i * 2) ++ [x0, x1] ++ inner.drop (i * 2) := by
          rw [hL2, e1, e2, ← List.append_assoc]
          exact List.take_left' (by simp only [List.length_append, List.length_take, List.length_cons, List.length_nil, hdl]; omega)
        refine ⟨_, rfl, ⟨?_, .inr ⟨g, cap, L2.toArray, rfl, hbg, hg2, hroom, hcm, by simpa using hL2l, by simpa using hans⟩⟩, .inl rfl, hk.mono (fun k h => by rw [h]; rfl), hb base hbg⟩
        simp only [List.length_append, List.length_take, List.length_cons, List.length_nil, hdl]
        omega
      · refine (ins_grow g n cap i vb vc cur x0 x1 w (by omega) hnc (by omega) hn hvg hg hcs hv h1 h1v).mono ?_
        rintro e w' ⟨G, L, rfl, hg2, hGn, hGm, hLl, hans, hb⟩
        rw [htk] at hans
        refine ⟨_, rfl, ⟨?_, .inr ⟨w.heap.size, G, L.toArray, rfl, hbase, hg2, hGn, hGm, by simpa using hLl, by simpa using hans⟩⟩, .inr rfl, Kept.of_below hb _, hb.mono hbase⟩
        simp only [List.length_append, List.length_take, List.length_drop, List.length_cons, List.length_nil]
        omega
def cell2 (x : S56) : List Value := [.int .i64 x.f0, .int .i64 x.f1]
theorem reps_flat {w : World} {base : Nat} {ok : Nat → Prop} : ∀ (xs : List S56) (cs : List Value), Reps (k56.M w base ok) 2 xs cs → cs = xs.flatMap cell2
  | [], cs, h => by
    have := h.1
    exact List.eq_nil_of_length_eq_zero (by simpa using this)
  | x :: xs, cs, h => by
    have h0 := k56_openM (h.2 0 x rfl)
    have hl := h.1
    have ih := reps_flat xs (cs.drop 2) ⟨by rw [List.length_drop]; simp at hl; omega, fun j p hj => by
      have h2 := h.2 (j + 1) p hj
      rw [List.drop_drop]
      rw [show 2 + j * 2 = (j + 1) * 2 by omega]
      exact h2⟩
    rw [List.flatMap_cons, ← ih]
    rw [Nat.zero_mul, List.drop_zero] at h0
    have e : cs = cs.take 2 ++ cs.drop 2 := (List.take_append_drop 2 cs).symm
    rw [h0] at e
    exact e
theorem cell2_len (xs : List S56) : (xs.flatMap cell2).length = xs.length * 2 := by
  induction xs with
  | nil => rfl
  | cons x xs ih => rw [List.flatMap_cons, List.length_append, ih, List.length_cons]; show 2 + _ = _; omega
theorem flat_reps (w : World) (base : Nat) (ok : Nat → Prop) : ∀ xs : List S56, Reps (k56.M w base ok) 2 xs (xs.flatMap cell2)
  | [] => Reps.none _ _
  | x :: xs => ⟨cell2_len (x :: xs), fun j p hj => by
    cases j with
    | zero =>
      obtain rfl : x = p := by simpa using hj
      exact k56_mkM w base ok x
    | succ j =>
      have h := (flat_reps w base ok xs).2 j p (by simpa using hj)
      rw [List.flatMap_cons, show (j + 1) * 2 = j * 2 + 2 by omega]
      exact h⟩
-- bsearch
theorem cmp_have (x t : S56) (W : World) (h : IntKind.i64.wrap (x.f0 - t.f0) = x.f0 - t.f0) :
    Calls Try.prog 52 #[.agg #[.int .i64 x.f0, .int .i64 x.f1], .agg #[.int .i64 t.f0, .int .i64 t.f1]] W fun e w' => e = .returned (.int .i64 (x.f0 - t.f0)) ∧ Below W.heap.size W w' := by
  have hu56 := Try.underlying56
  go_enter Try.func52, Try.ntmps52
  go_wp2
  go_ret
  exact ⟨rfl, by repeat (first | exact Below.refl _ _ | apply below_alloc | apply below_drew1)⟩
set_option maxHeartbeats 4000000 in
set_option maxRecDepth 100000 in
theorem bs_have (t : S56) (w : World) (A : Option Addr) (c : Nat) (l : List S56) (cnt : Nat) (hr : Kd.C k56 w A l.length l) (hc : l.length ≤ c) (hn : l.length ≤ 1000000)
    (hb : ∀ j : Nat, j < l.length → IntKind.i64.wrap ((rd_T56 l (j : Int)).f0 - t.f0) = (rd_T56 l (j : Int)).f0 - t.f0) (hcnt : cnt ≤ l.length)
    (hlo : ∀ j : Nat, j < cnt → (rd_T56 l (j : Int)).f0 < t.f0) (hhi : ∀ j : Nat, cnt ≤ j → j < l.length → t.f0 ≤ (rd_T56 l (j : Int)).f0) (fin : Bool)
    (hfin : fin = (decide (cnt < l.length) && decide ((rd_T56 l (cnt : Int)).f0 = t.f0))) :
    Calls Try.prog 51 #[.slice A l.length c, .agg #[.int .i64 t.f0, .int .i64 t.f1], .func (.func 52) #[] #[]] w fun e w' =>
      e = .returned (.tuple #[.int .i64 cnt, .bool fin]) ∧ Below w.heap.size w w' := by
  have hu56 := Try.underlying56
  have mixed : Try.prog.follows Departure.mixedOrders = true := by kernel_rfl
  have HR := Aside0.mk hr
  have HBd := Aside0.mk hb
  have HLo := Aside0.mk hlo
  have HHi := Aside0.mk hhi
  have HF := Aside0.mk hfin
  clear hr hb hlo hhi hfin
  have HW := Aside0.mk (Below.refl (w.alloc (.cells #[.int .i64 t.f0, .int .i64 t.f1] 56)).heap.size (w.alloc (.cells #[.int .i64 t.f0, .int .i64 t.f1] 56)))
  go_enter Try.func51, Try.ntmps51
  go_wp2
  go_loopg [9, 10] l.length (fun kx s9 s10 wr => ∃ lo hi : Nat, s9 = .int .i64 lo ∧ s10 = .int .i64 hi ∧ lo ≤ cnt ∧ cnt ≤ hi ∧ hi ≤ l.length ∧ hi - lo ≤ kx ∧ Aside0 (Below (w.alloc (.cells #[.int .i64 t.f0, .int .i64 t.f1] 56)).heap.size (w.alloc (.cells #[.int .i64 t.f0, .int .i64 t.f1] 56)) wr))
  case atStart => exact ⟨0, l.length, rfl, rfl, Nat.zero_le _, hcnt, Nat.le_refl _, by omega, HW⟩
  case round =>
    clear HW
    obtain ⟨lo, hi, rfl, rfl, h1, h2, h3, hg, HB⟩ := hrel
    have ht0 : wr.cell? ⟨w.heap.size, 0, none⟩ = some (.int .i64 t.f0) := (HB.out.cell (by simp)).trans (by simp)
    have ht1 : wr.cell? ⟨w.heap.size, 1, none⟩ = some (.int .i64 t.f1) := (HB.out.cell (by simp)).trans (by simp)
    have HBw : Below w.heap.size w wr := (below_alloc (Below.refl _ _) _).trans (HB.out.mono (by simp))
    by_cases hlt : lo < hi
    · obtain ⟨ad, rfl, hx0, hx1⟩ := at_T56 (Kd.C_below HR.out HBw) (((lo + hi) / 2 : Nat) : Int) (by omega) (by omega)
      simp only [Int.toNat_natCast] at hx0 hx1
      have hsub := HBd.out ((lo + hi) / 2) (by omega)
      obtain ⟨y, hy⟩ : ∃ y, rd_T56 l (((lo + hi) / 2 : Nat) : Int) = y := ⟨_, rfl⟩
      rw [hy] at hx0 hx1 hsub
      have HY := Aside0.mk hy
      clear hy
      have hc2 := fun W => cmp_have y t W hsub
      clear hsub
      by_cases hyt : y.f0 - t.f0 < 0
      · have hyd : decide (y.f0 - t.f0 < 0) = true := decide_eq_true hyt
        go_wp2_with fail
        go_region_with (go_at_call 52; refine (hc2 _).mono ?_; rintro e w2 ⟨rfl, hb2⟩)
        all_goals go_wp2
        all_goals (go_roundg (hi - ((lo + hi) / 2 + 1)))
        all_goals first
        | (case measure => omega)
        | (case rel =>
            have hlt2 : (lo + hi) / 2 < cnt := Nat.lt_of_not_le fun h => by
              have := HHi.out ((lo + hi) / 2) h (by omega)
              rw [HY.out] at this
              omega
            exact ⟨(lo + hi) / 2 + 1, hi, by rw [show ((lo : Int) + (hi : Int)) / 2 + 1 = (((lo + hi) / 2 + 1 : Nat) : Int) by omega], rfl, by omega, h2, h3, Nat.le_refl _, ⟨(Below.drew HB.out).trans (hb2.mono HB.out.size)⟩⟩)
      · have hyd : decide (y.f0 - t.f0 < 0) = false := decide_eq_false hyt
        go_wp2_with fail
        go_region_with (go_at_call 52; refine (hc2 _).mono ?_; rintro e w2 ⟨rfl, hb2⟩)
        all_goals go_wp2
        all_goals (go_roundg ((lo + hi) / 2 - lo))
        all_goals first
        | (case measure => omega)
        | (case rel =>
            have hle2 : cnt ≤ (lo + hi) / 2 := Nat.le_of_not_lt fun h => by
              have := HLo.out ((lo + hi) / 2) h
              rw [HY.out] at this
              omega
            exact ⟨lo, (lo + hi) / 2, rfl, by rw [show ((lo : Int) + (hi : Int)) / 2 = (((lo + hi) / 2 : Nat) : Int) by omega], h1, hle2, by omega, Nat.le_refl _, ⟨(Below.drew HB.out).trans (hb2.mono HB.out.size)⟩⟩)
    · obtain rfl : lo = cnt := by omega
      obtain rfl : lo = hi := by omega
      by_cases hn2 : lo < l.length
      · obtain ⟨ad, rfl, hx0, hx1⟩ := at_T56 (Kd.C_below HR.out HBw) (lo : Int) (by omega) (by omega)
        simp only [Int.toNat_natCast] at hx0 hx1
        have hsub := HBd.out lo hn2
        have hfin := HF.out
        obtain ⟨y, hy⟩ : ∃ y, rd_T56 l (lo : Int) = y := ⟨_, rfl⟩
        rw [hy] at hx0 hx1 hsub hfin
        rw [decide_eq_true hn2, Bool.true_and] at hfin
        clear hy HF
        have hc2 := fun W => cmp_have y t W hsub
        clear hsub
        have hyd : (y.f0 - t.f0 == 0) = fin := by
          rw [hfin]
          by_cases h : y.f0 = t.f0
          · rw [decide_eq_true h]; exact beq_iff_eq.mpr (by omega)
          · rw [decide_eq_false h]; exact beq_eq_false_iff_ne.mpr (by omega)
        clear hfin
        go_wp2_with fail
        go_region_held3 (fun W => W.cell? (ad.add (lo * 2)) = some (.int .i64 y.f0) ∧ W.cell? ⟨(ad.add (lo * 2)).block, (ad.add (lo * 2)).off + 1, none⟩ = some (.int .i64 y.f1) ∧ W.cell? ⟨w.heap.size, 0, none⟩ = some (.int .i64 t.f0) ∧ W.cell? ⟨w.heap.size, 1, none⟩ = some (.int .i64 t.f1) ∧ Below w.heap.size w W) (first | (refine ⟨hx0, hx1, ht0, ht1, ?_⟩; exact Below.drew HBw) | (refine ⟨(hb2.cell (World.block_lt_of_cell? _ _ hx0)).trans hx0, (hb2.cell (World.block_lt_of_cell? _ _ hx1)).trans hx1, (hb2.cell (World.block_lt_of_cell? _ _ ht0)).trans ht0, (hb2.cell (World.block_lt_of_cell? _ _ ht1)).trans ht1, ?_⟩; exact (Below.drew HBw).trans (hb2.mono HBw.size))) ((go_at_call 52; refine (hc2 _).mono ?_; rintro e w2 ⟨rfl, hb2⟩))
        all_goals go_wp2
        all_goals go_ret2
        all_goals exact ⟨by rw [← hyd]; first | rfl | (simp; done), (Below.drew HBw).trans (hb2.mono HBw.size)⟩
      · have hfin := HF.out
        have e : lo = l.length := by omega
        rw [decide_eq_false hn2, Bool.false_and] at hfin
        subst hfin
        clear HF
        have hld : decide ((lo : Int) < (l.length : Int)) = false := decide_eq_false (by omega)
        have hld2 : decide (lo < l.length) = false := decide_eq_false (by omega)
        go_wp2_with fail
        go_quiet (fail)
        go_wp2
        go_ret2
        exact ⟨rfl, by repeat (first | exact HBw | apply pw_below_drewN)⟩
-- insr
theorem cell2_take : ∀ (xs : List S56) (i : Nat), (xs.flatMap cell2).take (i * 2) = (xs.take i).flatMap cell2
  | _, 0 => by simp
  | [], _ + 1 => by simp
  | x :: xs, i + 1 => by
    rw [List.flatMap_cons, List.take_succ_cons, List.flatMap_cons, show (i + 1) * 2 = i * 2 + 2 by omega, ← cell2_take xs i]
    rfl
theorem cell2_drop : ∀ (xs : List S56) (i : Nat), (xs.flatMap cell2).drop (i * 2) = (xs.drop i).flatMap cell2
  | _, 0 => by simp
  | [], _ + 1 => by simp
  | x :: xs, i + 1 => by
    rw [List.flatMap_cons, List.drop_succ_cons, show (i + 1) * 2 = i * 2 + 2 by omega, ← cell2_drop xs i]
    rfl
theorem cell2_one (xs : List S56) : ∀ u ∈ xs.flatMap cell2, u.oneCell' = true := fun u hu => by
  obtain ⟨x, _, hx⟩ := List.mem_flatMap.1 hu
  simp only [cell2, List.mem_cons, List.not_mem_nil, or_false] at hx
  rcases hx with rfl | rfl <;> rfl
theorem ins_R (base : Nat) (W : World) (v : Value) (out : List S56) (i vb vc : Nat) (x : S56) (hR : Kd.R k56 56 W base (fun _ => True) v out) (hi : i ≤ out.length) (hn : out.length ≤ 1000000)
    (hbase : base ≤ W.heap.size) (hv : W.heap[vb]? = some (.cells #[.int .i64 x.f0, .int .i64 x.f1] 56 (0, 0))) (hvb : v.ownBlock ≠ some vb) :
    Calls Try.prog 53 #[v, .int .i64 i, .slice (some ⟨vb, 0, none⟩) 1 vc] W fun e w' => ∃ v', e = .returned v' ∧ Kd.R k56 56 w' base (fun _ => True) v' (out.take i ++ [x] ++ out.drop i) ∧
      Kept W w' (fun k => v.ownBlock = some k) ∧ Below base W w' := by
  obtain ⟨_, inner, ho, hr⟩ := hR
  have ho : W.ownsRow base 56 2 v out.length inner := ho
  obtain rfl := reps_flat out inner hr
  refine (ins_own base v out.length i vb vc _ _ _ W ho hi hn hbase hv hvb (cell2_one out) ⟨rfl, rfl⟩).mono ?_
  rintro e w' ⟨v', rfl, ho2, _, hk, hb⟩
  rw [cell2_take, cell2_drop] at ho2
  refine ⟨v', rfl, ⟨fun _ _ => trivial, (out.take i ++ [x] ++ out.drop i).flatMap cell2, ?_, flat_reps _ _ _ _⟩, hk, hb⟩
  have e1 : (out.take i ++ [x] ++ out.drop i).length = out.length + 1 := by
    simp only [List.length_append, List.length_take, List.length_drop, List.length_cons, List.length_nil]
    omega
  rw [e1]
  have e2 : (out.take i ++ [x] ++ out.drop i).flatMap cell2 = (out.take i).flatMap cell2 ++ [.int .i64 x.f0, .int .i64 x.f1] ++ (out.drop i).flatMap cell2 := by
    rw [List.flatMap_append, List.flatMap_append]
    rfl
  rw [e2]
  exact ho2
/-! #### the plain law of one entry more -/
def lowN (t : Int) : List S56 → Nat
  | [] => 0
  | y :: r => if y.f0 < t then lowN t r + 1 else 0
/-- Rising Froms behind p, none beyond 1000. -/
def upF (p : Int) : List S56 → Bool
  | [] => true
  | x :: r => decide (p < x.f0 ∧ x.f0 ≤ 1000) && upF x.f0 r
def insH : List S56 → S56 → List S56
  | [], h => [h]
  | y :: r, h => if y.f0 < h.f0 then y :: insH r h else if y.f0 = h.f0 then ⟨y.f0, mx y.f1 h.f1⟩ :: r else h :: y :: r
theorem upF_cons {p : Int} {x : S56} {r : List S56} : upF p (x :: r) = true ↔ (p < x.f0 ∧ x.f0 ≤ 1000) ∧ upF x.f0 r = true := by
  simp [upF]
theorem upF_lower {p q : Int} : ∀ {l : List S56}, upF p l = true → q ≤ p → upF q l = true
  | [], _, _ => rfl
  | x :: r, h, hq => by
    rw [upF_cons] at h ⊢
    exact ⟨⟨by omega, h.1.2⟩, h.2⟩
theorem upF_get {p : Int} : ∀ {l : List S56}, upF p l = true → ∀ (j : Nat) (hj : j < l.length), p < (l[j]).f0 ∧ (l[j]).f0 ≤ 1000
  | [], _, j, hj => absurd hj (Nat.not_lt_zero _)
  | x :: r, h, 0, _ => (upF_cons.1 h).1
  | x :: r, h, j + 1, hj => by
    have h2 := upF_cons.1 h
    have h3 := upF_get h2.2 j (by simpa using hj)
    simp only [List.getElem_cons_succ]
    exact ⟨by omega, h3.2⟩
theorem lowN_le (t : Int) : ∀ l, lowN t l ≤ l.length
  | [] => Nat.le_refl _
  | y :: r => by
    unfold lowN
    split
    · have := lowN_le t r; rw [List.length_cons]; omega
    · omega
theorem lowN_lt (t : Int) : ∀ (l : List S56) (j : Nat) (hj : j < lowN t l) (hl : j < l.length), (l[j]).f0 < t
  | [], j, hj, hl => absurd hl (Nat.not_lt_zero _)
  | y :: r, j, hj, hl => by
    unfold lowN at hj
    split at hj
    · next h =>
      cases j with
      | zero => exact h
      | succ j => exact lowN_lt t r j (by omega) (by simpa using hl)
    · omega
theorem lowN_ge (t : Int) : ∀ {p : Int} (l : List S56), upF p l = true → ∀ (j : Nat), lowN t l ≤ j → (hl : j < l.length) → t ≤ (l[j]).f0
  | p, [], _, j, _, hl => absurd hl (Nat.not_lt_zero _)
  | p, y :: r, h, j, hj, hl => by
    have h2 := upF_cons.1 h
    unfold lowN at hj
    split at hj
    · next hlt =>
      cases j with
      | zero => omega
      | succ j => exact lowN_ge t r h2.2 j (by omega) (by simpa using hl)
    · next hlt =>
      cases j with
      | zero => simp only [List.getElem_cons_zero]; omega
      | succ j =>
        have := upF_get h2.2 j (by simpa using hl)
        simp only [List.getElem_cons_succ]
        omega
theorem insH_up (h : S56) : ∀ {l : List S56} {p : Int}, upF p l = true → p < h.f0 → h.f0 ≤ 1000 → upF p (insH l h) = true
  | [], p, _, h1, h2 => by rw [insH, upF_cons]; exact ⟨⟨h1, h2⟩, rfl⟩
  | y :: r, p, hu, h1, h2 => by
    have h3 := upF_cons.1 hu
    unfold insH
    split
    · next hlt => rw [upF_cons]; exact ⟨h3.1, insH_up h h3.2 hlt h2⟩
    · split
      · rw [upF_cons]; exact h3
      · rw [upF_cons, upF_cons]; exact ⟨⟨h1, h2⟩, ⟨by omega, h3.1.2⟩, h3.2⟩
theorem insH_len (h : S56) : ∀ l : List S56, (insH l h).length ≤ l.length + 1
  | [] => Nat.le_refl _
  | y :: r => by
    have := insH_len h r
    unfold insH
    split
    · simp only [List.length_cons]; omega
    · split <;> simp only [List.length_cons] <;> omega
theorem mx_self (a : Int) : mx a a = a := by unfold mx; split <;> rfl
/-- It is there: its place is turned. -/
theorem insH_found (h : S56) : ∀ (l : List S56) (hl : lowN h.f0 l < l.length), (l[lowN h.f0 l]).f0 = h.f0 → l.set (lowN h.f0 l) ⟨h.f0, mx (l[lowN h.f0 l]).f1 h.f1⟩ = insH l h
  | [], hl, _ => absurd hl (Nat.not_lt_zero _)
  | y :: r, hl, he => by
    by_cases hlt : y.f0 < h.f0
    · have e : lowN h.f0 (y :: r) = lowN h.f0 r + 1 := by rw [lowN, if_pos hlt]
      simp only [e, List.getElem_cons_succ] at he hl ⊢
      rw [insH, if_pos hlt, List.set_cons_succ, insH_found h r (by simpa using hl) he]
    · have e : lowN h.f0 (y :: r) = 0 := by rw [lowN, if_neg hlt]
      simp only [e, List.getElem_cons_zero] at he ⊢
      rw [insH, if_neg hlt, if_pos he, List.set_cons_zero, he]
/-- It is not there: it is set in. -/
theorem insH_new (h : S56) : ∀ (l : List S56), (∀ hl : lowN h.f0 l < l.length, (l[lowN h.f0 l]).f0 ≠ h.f0) → l.take (lowN h.f0 l) ++ [h] ++ l.drop (lowN h.f0 l) = insH l h
  | [], _ => rfl
  | y :: r, he => by
    by_cases hlt : y.f0 < h.f0
    · have e : lowN h.f0 (y :: r) = lowN h.f0 r + 1 := by rw [lowN, if_pos hlt]
      simp only [e] at he ⊢
      rw [insH, if_pos hlt, List.take_succ_cons, List.drop_succ_cons, ← insH_new h r (fun hl => by have := he (by simpa using hl); simpa using this)]
      rfl
    · have e : lowN h.f0 (y :: r) = 0 := by rw [lowN, if_neg hlt]
      simp only [e] at he ⊢
      have := he (by simp)
      rw [insH, if_neg hlt, if_neg (by simpa using this)]
      rfl
theorem set_mid (l : List S56) (i : Nat) (h : S56) (hi : i ≤ l.length) : (l.take i ++ [h] ++ l.drop i).set i h = l.take i ++ [h] ++ l.drop i := by
  have hl : (l.take i).length = i := by rw [List.length_take]; omega
  rw [List.append_assoc, List.set_append_right _ _ (by omega), hl, Nat.sub_self]
  rfl
-- merged
theorem seq_R {W : World} {base g cap : Nat} {o2 : List S56} (at_ : Nat) (h : Kd.R k56 56 W base (fun _ => True) (.slice (some ⟨g, 0, none⟩) o2.length cap) o2) (hat : at_ < o2.length) :
    W.cell? ⟨g, at_ * 2, none⟩ = some (.int .i64 (rd_T56 o2 (at_ : Int)).f0) ∧ W.cell? ⟨g, at_ * 2 + 1, none⟩ = some (.int .i64 (rd_T56 o2 (at_ : Int)).f1) ∧ W.frozen? ⟨g, at_ * 2 + 1, none⟩ = false ∧
      ∀ v : Int, Kd.R k56 56 (W.setCell ⟨g, at_ * 2 + 1, none⟩ (.int .i64 v)) base (fun _ => True) (.slice (some ⟨g, 0, none⟩) o2.length cap) (o2.set at_ ⟨(rd_T56 o2 (at_ : Int)).f0, v⟩) := by
  obtain ⟨ce, hcl, hM, hcc, hfr⟩ := Kd.R_elem h z56 (at_ : Int) (by omega) (by omega)
  obtain rfl := k56_openM hM
  refine ⟨hcc 0 _ rfl, hcc 1 _ rfl, hfr 1, fun v => ?_⟩
  have HP := Kd.R_seg h (at_ : Int) (by omega) (by omega) (seg := [.int .i64 v]) (j := 1) hcl hcc (show 2 ≤ 2 from by decide) (x' := (⟨(rd_T56 o2 (at_ : Int)).f0, v⟩ : S56)) (okp := fun k => True ∧ k ≠ g) (k56_mkM _ _ _ (⟨(rd_T56 o2 (at_ : Int)).f0, v⟩ : S56)) (fun _ hk => hk)
  exact HP.1
def impl_merged.f (l0 : List S56) (l1 : List S56) : Option (List S56) := if upF 0 l0 = true ∧ (∀ x ∈ l1, 0 < x.f0 ∧ x.f0 ≤ 1000) ∧ l0.length + l1.length ≤ 1000 then some (l1.foldl insH l0) else none
set_option maxHeartbeats 4000000 in
set_option maxRecDepth 100000 in
theorem impl_merged.calls (A0 : Option Addr) (c0 : Nat) (l0 : List (S56)) (A1 : Option Addr) (c1 : Nat) (l1 : List (S56)) (r : List (S56)) (w : World) (hr0 : Kd.C k56 w A0 l0.length l0) (hc0 : l0.length ≤ c0) (hr1 : Kd.C k56 w A1 l1.length l1) (hc1 : l1.length ≤ c1) (h : impl_merged.f l0 l1 = some r) :
    Calls Try.prog 43 #[.slice A0 l0.length c0, .slice A1 l1.length c1] w fun e w' => ∃ v0_ : Value, e = .returned (v0_) ∧ Kd.R k56 56 w' w.heap.size (fun _ => True) v0_ r ∧ Below w.heap.size w w' := by
  unfold impl_merged.f at h
  by_cases hc : upF 0 l0 = true ∧ (∀ x ∈ l1, 0 < x.f0 ∧ x.f0 ≤ 1000) ∧ l0.length + l1.length ≤ 1000
  case neg => rw [if_neg hc] at h; cases h
  rw [if_pos hc] at h
  have HRes := Aside0.mk (Option.some.inj h)
  clear h
  obtain ⟨hu, hb, hlen⟩ := hc
  have HU := Aside0.mk hu
  have HBd := Aside0.mk hb
  have HR1 := Aside0.mk hr1
  have hu56 := Try.underlying56
  have mixed : Try.prog.follows Departure.mixedOrders = true := by kernel_rfl
  have hcl := impl_Have_49.calls A0 c0 l0 l0 w hr0 hc0 (by unfold impl_Have_49.f; rw [if_pos (by omega)])
  clear hr0 hr1 hu hb
  go_enter Try.func43, Try.ntmps43
  go_wp2_with (go_at_call 49; refine hcl.mono ?_; rintro e w1 ⟨v1, rfl, hR, hB⟩)
  have HR := Aside0.mk hR
  have HB := Aside0.mk hB
  clear hR hB hcl
  go_loopw [5, 14] (fun v5 v14 wr => ∃ (j : Nat) (out : List S56), v14 = .int .i64 j ∧ j ≤ l1.length ∧ out.length ≤ l0.length + j ∧ Aside0 (upF 0 out = true) ∧ Aside0 ((l1.drop j).foldl insH out = r) ∧ Aside0 (Kd.R k56 56 wr w.heap.size (fun _ => True) v5 out) ∧ Aside0 (Below w.heap.size w wr)) (fun _ v _ => l1.length - (intOf v).toNat)
  case atStart => exact ⟨0, l0, rfl, Nat.zero_le _, Nat.le_refl _, HU, HRes, HR, HB⟩
  case round =>
    clear HR HB HU HRes
    obtain ⟨j, out, rfl, hj, hol, HU, HF, HR, HB⟩ := hrel
    by_cases hlt : j < l1.length
    · obtain ⟨ad, rfl, hx0, hx1⟩ := at_T56 (Kd.C_below HR1.out HB.out) (j : Int) (by omega) (by omega)
      simp only [Int.toNat_natCast] at hx0 hx1
      have hd : l1.drop j = rd_T56 l1 (j : Int) :: l1.drop (j + 1) := by
        rw [List.drop_eq_getElem_cons hlt]
        congr 1
        simp [rd_T56, List.getD_eq_getElem?_getD, List.getElem?_eq_getElem hlt]
      have hxb : 0 < (rd_T56 l1 (j : Int)).f0 ∧ (rd_T56 l1 (j : Int)).f0 ≤ 1000 := by
        refine HBd.out _ ?_
        rw [show rd_T56 l1 (j : Int) = l1[j] by simp [rd_T56, List.getD_eq_getElem?_getD, List.getElem?_eq_getElem hlt]]
        exact List.getElem_mem _
      have hF := HF.out
      rw [hd, List.foldl_cons] at hF
      generalize rd_T56 l1 (j : Int) = x at hx0 hx1 hxb hF
      have HF2 := Aside0.mk hF
      have HXb := Aside0.mk hxb
      clear hd hF hxb HF
      obtain ⟨Ao, co, ev⟩ := Kd.R_slice HR.out
      subst ev
      obtain ⟨fin, hfin⟩ : ∃ fin, fin = (decide (lowN x.f0 out < out.length) && decide ((rd_T56 out (lowN x.f0 out : Int)).f0 = x.f0)) := ⟨_, rfl⟩
      have hrd := fun (m : Nat) (hm : m < out.length) => (show rd_T56 out (m : Int) = out[m] by simp [rd_T56, List.getD_eq_getElem?_getD, List.getElem?_eq_getElem hm])
      obtain ⟨_, hoc, hRd⟩ := Kd.R_reads' (Kd.R_alloc HR.out (.cells #[.int .i64 x.f0, .int .i64 x.f1] 56))
      have hbs := bs_have x (wr.alloc (.cells #[.int .i64 x.f0, .int .i64 x.f1] 56)) Ao co out (lowN x.f0 out) hRd hoc (by omega)
        (fun m hm => by rw [hrd m hm, IntKind.wrap_i64]; have := upF_get HU.out m hm; have := HXb.out; omega) (lowN_le _ _)
        (fun m hm => by have hl := lowN_le x.f0 out; rw [hrd m (by omega)]; exact lowN_lt _ _ m hm (by omega))
        (fun m hm hl => by rw [hrd m hl]; exact lowN_ge _ _ HU.out m hm hl) fin hfin
      have hle := lowN_le x.f0 out
      generalize hat : lowN x.f0 out = at_ at hbs hfin hle
      have HAt := Aside0.mk hat
      have HFin := Aside0.mk hfin
      have HRd := Aside0.mk hrd
      clear hoc hRd hat hfin hrd
      have hbA : ∀ k : Nat, (Value.slice Ao out.length co).ownBlock = some k → k < wr.heap.size := by
        obtain ⟨inner, ho⟩ := Kd.R_own HR.out
        exact own_lt ho
      cases fin with
      | true =>
        have hf2 := HFin.out
        have hal : at_ < out.length := Nat.lt_of_not_le fun h => by
          rw [decide_eq_false (by omega)] at hf2
          cases hf2
        rw [decide_eq_true hal, Bool.true_and] at hf2
        have hEq := Aside0.mk (of_decide_eq_true hf2.symm)
        clear hf2 hle
        go_wp2_with (go_at_call 51; refine hbs.mono ?_; rintro e w2 ⟨rfl, hb2⟩)
        have hz : wr.heap.size < (wr.alloc (.cells #[.int .i64 x.f0, .int .i64 x.f1] 56)).heap.size := by simp
        have hh1 : w2.cell? ⟨wr.heap.size, 1, none⟩ = some (.int .i64 x.f1) := (hb2.cell (by simp)).trans (by simp)
        have hR2 := Kd.R_below (Kd.R_alloc HR.out (.cells #[.int .i64 x.f0, .int .i64 x.f1] 56)) hb2
        have HB2 := Aside0.mk ((below_alloc HB.out (.cells #[.int .i64 x.f0, .int .i64 x.f1] 56)).trans (hb2.mono (Nat.le_trans HB.out.size (by simp))))
        clear hb2 hbs hx0 hx1 hz
        obtain ⟨g, cap, ev, hgb, _, _⟩ := Kd.R_form hR2 (by omega)
        injection ev with ev1 _ ev2
        subst ev1 ev2
        obtain ⟨hy0, hy1, hyf, hst⟩ := seq_R at_ hR2 hal
        obtain ⟨y, hy⟩ : ∃ y, rd_T56 out (at_ : Int) = y := ⟨_, rfl⟩
        rw [hy] at hy0 hy1 hst hEq
        have HY := Aside0.mk hy
        have HSt := Aside0.mk (hst (mx y.f1 x.f1))
        clear hy hst hR2
        go_region
        go_wp2
        go_roundw
        case measure => simp [intOf]; omega
        case rel =>
          have e : out.set at_ ⟨y.f0, mx y.f1 x.f1⟩ = insH out x := by
            have hat := HAt.out
            have hl : lowN x.f0 out < out.length := by omega
            have h2 := insH_found x out hl (by
              have := HRd.out _ hl
              rw [← this, hat, HY.out, hEq.out])
            rw [← h2, hEq.out, ← HRd.out _ hl, hat, HY.out]
          refine ⟨j + 1, insH out x, by go_num, by omega, by have := insH_len x out; omega, ⟨insH_up x HU.out HXb.out.1 HXb.out.2⟩, HF2, ⟨?_⟩, ⟨?_⟩⟩
          · have h3 := HSt.out
            rw [e] at h3
            exact Kd.R_drew h3
          · exact Below.drew (Below.setCell HB2.out hgb _)
      | false =>
        have hnew : out.take at_ ++ [x] ++ out.drop at_ = insH out x := by
          have hat := HAt.out
          rw [← hat]
          refine insH_new x out (fun hl he => ?_)
          have hf2 := HFin.out
          have hl2 : at_ < out.length := by omega
          have h3 : rd_T56 out (at_ : Int) = out[at_] := HRd.out at_ hl2
          rw [h3, decide_eq_true hl2, Bool.true_and] at hf2
          have h4 := of_decide_eq_false hf2.symm
          simp only [hat] at he
          exact h4 he
        have hl3 : at_ < (insH out x).length := by
          rw [← hnew]
          simp only [List.length_append, List.length_take, List.length_drop, List.length_cons, List.length_nil]
          omega
        have hr3 : rd_T56 (insH out x) (at_ : Int) = x := by
          rw [← hnew]
          have htl : (out.take at_).length = at_ := by rw [List.length_take]; omega
          simp only [rd_T56, Int.toNat_natCast, List.append_assoc, List.getD_eq_getElem?_getD]
          rw [List.getElem?_append_right (by omega), htl, Nat.sub_self]
          rfl
        have hs3 : (insH out x).set at_ ⟨x.f0, mx x.f1 x.f1⟩ = insH out x := by
          rw [mx_self, ← hnew]
          exact set_mid out at_ x (by omega)
        have HNew := Aside0.mk hnew
        have HL3 := Aside0.mk hl3
        have HR3 := Aside0.mk hr3
        have HS3 := Aside0.mk hs3
        clear hnew hl3 hr3 hs3
        go_wp2_with (go_at_call 51; refine hbs.mono ?_; rintro e w2 ⟨rfl, hb2⟩; have hh0 : w2.cell? ⟨wr.heap.size, 0, none⟩ = some (.int .i64 x.f0) := (hb2.cell (by simp)).trans (by simp); have hh1 : w2.cell? ⟨wr.heap.size, 1, none⟩ = some (.int .i64 x.f1) := (hb2.cell (by simp)).trans (by simp))
        have hW3 : (w2.alloc (.cells #[.int .i64 x.f0, .int .i64 x.f1] 56)).heap[w2.heap.size]? = some (.cells #[.int .i64 x.f0, .int .i64 x.f1] 56 (0, 0)) := by simpa using heap_alloc_new w2 _
        have hws : wr.heap.size < w2.heap.size := Nat.lt_of_lt_of_le (by simp) hb2.size
        have hbase := HB.out.size
        have hR3 := Kd.R_alloc (Kd.R_below (Kd.R_alloc HR.out (.cells #[.int .i64 x.f0, .int .i64 x.f1] 56)) hb2) (.cells #[.int .i64 x.f0, .int .i64 x.f1] 56)
        have hB3 := below_alloc ((below_alloc HB.out (.cells #[.int .i64 x.f0, .int .i64 x.f1] 56)).trans (hb2.mono (Nat.le_trans hbase (by simp)))) (.cells #[.int .i64 x.f0, .int .i64 x.f1] 56)
        refine (ins_R w.heap.size (w2.alloc (.cells #[.int .i64 x.f0, .int .i64 x.f1] 56)) _ out at_ w2.heap.size 1 x hR3 hle (by omega) (by simp; omega) hW3 (fun h => Nat.lt_asymm hws (hbA _ h))).mono ?_
        rintro e w4 ⟨v4, rfl, hR4, hk4, hb4⟩
        rw [HNew.out] at hR4
        have hh4 : w4.cell? ⟨wr.heap.size, 1, none⟩ = some (.int .i64 x.f1) := cell_kept ((World.cell?_alloc_lt _ _ _ hws).trans hh1) hk4 (fun h => Nat.lt_irrefl _ (hbA _ h))
        have HB4 := Aside0.mk (hB3.trans hb4)
        clear hh0 hh1 hW3 hws hbase hR3 hB3 hk4 hb4 hb2 hbs hx0 hx1
        obtain ⟨g, cap, rfl, hgb, _, _⟩ := Kd.R_form hR4 (by have := HL3.out; omega)
        obtain ⟨hy0, hy1, hyf, hst⟩ := seq_R at_ hR4 HL3.out
        rw [HR3.out] at hy0 hy1 hst
        have hst2 := hst (mx x.f1 x.f1)
        rw [HS3.out] at hst2
        have HSt := Aside0.mk hst2
        have hl3 := HL3.out
        clear hst hst2 hR4
        go_wp2
        go_region
        go_wp2
        go_roundw
        case measure => simp [intOf]; omega
        case rel =>
          refine ⟨j + 1, insH out x, by go_num, by omega, by have := insH_len x out; omega, ⟨insH_up x HU.out HXb.out.1 HXb.out.2⟩, HF2, ⟨?_⟩, ⟨?_⟩⟩
          · exact Kd.R_drew (by first | exact HSt.out | (have h_ := HSt.out; rw [mx_self] at h_; exact h_))
          · exact Below.drew (Below.setCell HB4.out hgb _)
    · obtain rfl : j = l1.length := by omega
      have hF := HF.out
      rw [List.drop_length] at hF
      obtain rfl : out = r := hF
      clear HF
      obtain ⟨Ao, co, ev⟩ := Kd.R_slice HR.out
      subst ev
      go_wp2
      go_ret
      exact ⟨_, rfl, HR.out, HB.out⟩

end Go.Proofs.Ytpcimkpklmemnaa.PFnHaves
