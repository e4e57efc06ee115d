/- Contract: the skip list's word of a key. -/
import Derived.Test.YtmemkmnnededgaaDoorCA
import Derived.Laws.CopyRow
namespace Go.Proofs.YtmemkmnnededgaaDoor.H
open Go.RowKit Go.Proofs.YtmemkmnnededgaaDoorW.PrintWords Go.Proofs.YtmemkmnnededgaaDoorW.PrintLast Go.Proofs.YtmemkmnnededgaaDoorW.PrintMore
attribute [local go_sem] max2_int min2_int max_two min_two max_three min_three max_four min_four
set_option linter.unusedVariables false
set_option linter.unusedSimpArgs false

/-- The cells that a copy of a string lays. -/
def strCells (s : ByteArray) (n : Nat) : List Value := ((s.extract 0 n).data.map fun b => Value.int .u8 b.toNat).toList
theorem strCells_one (s : ByteArray) (n : Nat) : ∀ v ∈ strCells s n, v.oneCell' = true := by
  intro v hv
  unfold strCells at hv
  rw [Array.mem_toList_iff] at hv
  obtain ⟨b, _, rfl⟩ := Array.mem_map.1 hv
  rfl
theorem strCells_length (s : ByteArray) (n : Nat) : (strCells s n).length ≤ n := by
  simp [strCells]
  omega
theorem run_copy_str (P : Program) (w : World) (dT sT ty elem : TypeId) (g o dLen dCap : Nat) (s : ByteArray) (cur : Array Value) (t : TypeId)
    (hu : P.underlying dT = some (.slice elem)) (hs : (P.info? elem).map (·.size) = some 1)
    (hg : w.heap[g]? = some (.cells cur t (0, 0))) (hfit : o + (strCells s (Nat.min s.size dLen)).length ≤ cur.size) :
    (Builtin.copy_ #[dT, sT] ty #[.slice (some ⟨g, o, none⟩) dLen dCap, .string s]).run P w =
      .ok (goInt (Nat.min s.size dLen)) (w.setRow g (cur.toList.take o ++ strCells s (Nat.min s.size dLen) ++ cur.toList.drop (o + (strCells s (Nat.min s.size dLen)).length)).toArray) := by
  have hst := run_storeCells_at P g o t (strCells s (Nat.min s.size dLen)) 0 cur w hg (by simpa using hfit) (strCells_one _ _)
  unfold strCells at *
  cases hq : P.info? elem with
  | none => simp [hq] at hs
  | some i =>
    have hi : i.size = 1 := by simpa [hq] using hs
    generalize hm : Nat.min s.size dLen = m at *
    simp only [Builtin.copy_, run_underlying hu, Builtin.lenOf, Builtin.firstCells, sizeOf, typeInfo, hq, hi]
    simp [run_underlying hu, hq, hm] at hst ⊢
    simp [hst]

theorem setRow_below {B : Nat} {w w1 : World} (h : Below B w w1) {g : Nat} (hg : B ≤ g) (cs : Array Value) : Below B w (w1.setRow g cs) :=
  ⟨h.os, h.tape, h.output, by simp; exact h.size, fun k hk => (setRow_other w1 g k cs (by omega)).trans (h.block k hk)⟩
/-- The word of a key. -/
def wordF (s : ByteArray) (i : Nat) : Nat := if i < 16 then (if h : i < s.size then (s[i]).toNat else 0) else s.size % 256
def zero17 : Array Value := #[.int .u8 0, .int .u8 0, .int .u8 0, .int .u8 0, .int .u8 0, .int .u8 0, .int .u8 0, .int .u8 0, .int .u8 0, .int .u8 0, .int .u8 0, .int .u8 0, .int .u8 0, .int .u8 0, .int .u8 0, .int .u8 0, .int .u8 0]
theorem zero17_at (i : Nat) (h : i < 17) : zero17[i]? = some (.int .u8 0) := by
  rcases i with _ | _ | _ | _ | _ | _ | _ | _ | _ | _ | _ | _ | _ | _ | _ | _ | _ | i
  all_goals first | rfl | omega
def copied (s : ByteArray) : Array Value := (zero17.toList.take 0 ++ strCells s (Nat.min s.size 16) ++ zero17.toList.drop (0 + (strCells s (Nat.min s.size 16)).length)).toArray
theorem strCells_len (s : ByteArray) (n : Nat) (h : n ≤ s.size) : (strCells s n).length = n := by
  have e : (s.extract 0 n).data.size = n := by
    have : (s.extract 0 n).size = min n s.size - 0 := ByteArray.size_extract
    have h2 : (s.extract 0 n).data.size = (s.extract 0 n).size := rfl
    omega
  simp only [strCells, Array.length_toList, Array.size_map, e]
theorem copied_size (s : ByteArray) : (copied s).size = 17 := by
  have h1 : Nat.min s.size 16 ≤ s.size := Nat.min_le_left _ _
  have h2 : Nat.min s.size 16 ≤ 16 := Nat.min_le_right _ _
  simp only [copied, List.size_toArray, List.length_append, List.length_take, List.length_drop, strCells_len s _ h1, Array.length_toList]
  simp [zero17]
  omega
theorem word_at (s : ByteArray) (i : Nat) (hi : i < 17) : ((copied s).setIfInBounds 16 (.int .u8 ((s.size : Int) % 256)))[i]? = some (.int .u8 (wordF s i)) := by
  have h1 : Nat.min s.size 16 ≤ s.size := Nat.min_le_left _ _
  have h2 : Nat.min s.size 16 ≤ 16 := Nat.min_le_right _ _
  have h3 : Nat.min s.size 16 = s.size ∨ Nat.min s.size 16 = 16 := by
    rcases Nat.le_total s.size 16 with h | h
    · exact Or.inl (Nat.min_eq_left h)
    · exact Or.inr (Nat.min_eq_right h)
  rw [Array.getElem?_setIfInBounds]
  by_cases e : 16 = i
  · subst e
    rw [if_pos rfl, if_pos (by rw [copied_size]; decide)]
    simp [wordF]
  · rw [if_neg e]
    have hi2 : i < 16 := by omega
    unfold copied wordF
    rw [if_pos hi2]
    simp only [List.take_zero, List.nil_append, List.getElem?_toArray, Nat.zero_add]
    by_cases h : i < s.size
    · have hl : i < (strCells s (Nat.min s.size 16)).length := by rw [strCells_len s _ h1]; omega
      rw [List.getElem?_append_left hl, dif_pos h]
      simp only [strCells, Array.getElem?_toList, Array.getElem?_map]
      have e : (s.extract 0 (Nat.min s.size 16)).data[i]? = some s[i] := by
        have hsz : i < (s.extract 0 (Nat.min s.size 16)).size := by rw [ByteArray.size_extract]; omega
        have h5 := ByteArray.getElem_extract (i := i) (start := 0) (stop := Nat.min s.size 16) (b := s) hsz
        have h6 : (s.extract 0 (Nat.min s.size 16)).data[i]? = some ((s.extract 0 (Nat.min s.size 16))[i]) := Array.getElem?_eq_getElem hsz
        rw [h6, h5]
        simp
      rw [e]
      rfl
    · rw [List.getElem?_append_right (by rw [strCells_len s _ h1]; omega), dif_neg h, List.getElem?_drop, Array.getElem?_toList]
      rw [zero17_at _ (by rw [strCells_len s _ h1]; omega)]
      rfl
theorem word_one (s : ByteArray) : ((copied s).setIfInBounds 16 (.int .u8 ((s.size : Int) % 256))).all (·.oneCell') = true := by
  refine Array.all_eq_true.2 (fun i hi => ?_)
  have hi2 : i < 17 := by simpa [copied_size] using hi
  have h := word_at s i hi2
  rw [Array.getElem?_eq_getElem hi] at h
  injection h with h
  rw [h]
  rfl
theorem word_size (s : ByteArray) : ((copied s).setIfInBounds 16 (.int .u8 ((s.size : Int) % 256))).size = 17 := by simp [copied_size]
theorem info64 : (Tryd.prog.info? 64).map (·.size) = some 17 := by kernel_rfl
set_option maxRecDepth 100000 in
set_option maxHeartbeats 1600000 in
theorem wordOf_any (key : ByteArray) (w : World) :
    Calls Tryd.prog 16 #[.string key] w fun e w' => e = .returned (.agg ((copied key).setIfInBounds 16 (.int .u8 ((key.size : Int) % 256)))) ∧ Below w.heap.size w w' := by
  go_enter Tryd.func16, Tryd.ntmps16
  go_upto_region 2 with fail
  have hA := blk_alloc (blk_new w (.cells zero17 64)) (.cells zero17 64)
  have hB : ((w.alloc (.cells zero17 64)).alloc (.cells zero17 64)).heap[w.heap.size + 1]? = some (.cells zero17 64) := by
    have := blk_new (w.alloc (.cells zero17 64)) (.cells zero17 64)
    simpa using this
  have hF : Below w.heap.size w ((w.alloc (.cells zero17 64)).alloc (.cells zero17 64)) := below_alloc (below_alloc (Below.refl _ _) _) _
  have hcp := run_copy_str Tryd.prog ((w.alloc (.cells zero17 64)).alloc (.cells zero17 64)) 83 9 3 5 (w.heap.size + 1) 0 16 17 key _ 64 (by kernel_rfl) (by kernel_rfl) hB (by have := strCells_length key (Nat.min key.size 16); have h2 : Nat.min key.size 16 ≤ 16 := Nat.min_le_right _ _; simp [zero17]; omega)
  change _ = Result.ok _ (World.setRow _ _ (copied key)) at hcp
  have HA := Aside0.mk hA
  have HB := Aside0.mk hB
  have HF := Aside0.mk hF
  clear hA hB hF
  change Code.wp _ _ _ _ ((w.alloc (.cells zero17 64)).alloc (.cells zero17 64))
  generalize ((w.alloc (.cells zero17 64)).alloc (.cells zero17 64)) = wa at *
  go_upto_region 3 with fail
  have HA1 := Aside0.mk (show (wa.setRow (w.heap.size + 1) (copied key)).heap[w.heap.size]? = some (.cells zero17 64 (0, 0)) from (setRow_other wa (w.heap.size + 1) w.heap.size (copied key) (by omega)).trans HA.out)
  have HB1 := Aside0.mk (setRow_heap wa (w.heap.size + 1) zero17 (copied key) 64 (0, 0) HB.out)
  have HF1 := Aside0.mk (show Below w.heap.size w (wa.setRow (w.heap.size + 1) (copied key)) from setRow_below HF.out (by omega) _)
  generalize wa.setRow (w.heap.size + 1) (copied key) = wb at *
  clear hcp HA HB HF
  have hsz : 16 < (copied key).size := by rw [copied_size]; decide
  have x16 : ∃ v, wb.cell? ⟨w.heap.size + 1, 16, none⟩ = some v := ⟨_, (blk_cell HB1.out 16).trans (Array.getElem?_eq_getElem hsz)⟩
  obtain ⟨v16, x16⟩ := x16
  have f16 := blk_frozen HB1.out 16
  clear hsz
  go_upto_region 4 with fail
  have HA2 := Aside0.mk (blk_far HA1.out (p := ⟨w.heap.size + 1, 16, none⟩) (by simp) (.int .u8 ((key.size : Int) % 256)))
  have HB2 := Aside0.mk (blk_put HB1.out 16 (.int .u8 ((key.size : Int) % 256)) rfl)
  have HF2 := Aside0.mk (HF1.out.setCell (p := ⟨w.heap.size + 1, 16, none⟩) (by simp) (.int .u8 ((key.size : Int) % 256)))
  generalize (wb.setCell ⟨w.heap.size + 1, 16, none⟩ (.int .u8 ((key.size : Int) % 256))) = wc at *
  have h1 := word_one key
  have h2 := word_size key
  generalize hW : (copied key).setIfInBounds 16 (.int .u8 ((key.size : Int) % 256)) = W at *
  clear x16 f16 HA1 HB1 HF1
  refine wp_region_lit ?_
  refine wpList_load_row rfl 64 (.tmp 3) rfl (w.heap.size + 1) rfl 64 W (0, 0) _ HB2.out Tryd.underlying64 rfl (by rw [h2]; exact info64) ?_
  refine wpList_store_row rfl 64 (.tmp 2) (.tmp 11) rfl w.heap.size W rfl rfl 64 zero17 HA2.out (by rw [h2]; exact info64) (by rw [h2]; rfl) h1 ?_
  have HA3 := Aside0.mk (setRow_heap wc w.heap.size zero17 W 64 (0, 0) HA2.out)
  have HF3 := Aside0.mk (setRow_below HF2.out (Nat.le_refl _) W)
  generalize wc.setRow w.heap.size W = wd at *
  go_wp2_with fail
  refine bodyPost_ret (results_cell_row rfl _ _ w.heap.size 64 W (0, 0) _ rfl HA3.out Tryd.underlying64 rfl (by rw [h2]; exact info64)) rfl ?_
  exact ⟨by rw [hW], HF3.out⟩
end Go.Proofs.YtmemkmnnededgaaDoor.H
