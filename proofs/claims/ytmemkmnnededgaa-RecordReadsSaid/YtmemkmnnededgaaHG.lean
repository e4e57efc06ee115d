/- Contracts of the program's package record: PutCommit. -/
import Derived.Test.YtmemkmnnededgaaHF
namespace Go.Proofs.Ytmemkmnnededgaa.H
open Go.RowKit Go.Proofs.YtmemkmnnededgaaW.PrintWords Go.Proofs.YtmemkmnnededgaaW.PrintLast Go.Proofs.YtmemkmnnededgaaW.PrintMore
attribute [local go_sem] max2_int min2_int max_two min_two max_three min_three max_four min_four
set_option linter.unusedVariables false
set_option linter.unusedSimpArgs false

def commitB (t : Int) (l : List W27) : List Int := 67 :: (nb t ++ (nb l.length ++ wsB l))
def putC (t : Int) (l : List W27) : List Int × Int := if rightC t l = true then (commitB t l, 0) else ([], 60)
theorem allFrom_get (l : List W27) (h : allFrom l 0 = true) (i : Nat) (hi : i < l.length) : wOkAt l i = true := by
  unfold allFrom at h
  rw [List.all_eq_true] at h
  exact h i (by simp [List.mem_range']; omega)
theorem rightC_small (t : Int) (l : List W27) (h : rightC t l = true) : l.length ≤ 64 ∧ ∀ x ∈ l, smallW x := by
  unfold rightC at h
  simp only [Bool.and_eq_true, decide_eq_true_eq] at h
  refine ⟨h.2.1, fun x hx => ?_⟩
  obtain ⟨i, hi, rfl⟩ := List.getElem_of_mem hx
  have := allFrom_get l h.2.2 i hi
  unfold wOkAt at this
  rw [List.getElem?_eq_getElem hi] at this
  simp only [Bool.and_eq_true, isKeyB, isValB, decide_eq_true_eq] at this
  unfold smallW
  omega

theorem size_alloc (w : World) (o : Obj) : (w.alloc o).heap.size = w.heap.size + 1 := by simp
/-- The writer as it is made: a byte, its struct, the variable that the closure holds. -/
theorem wr_new (w : World) (x : Int) :
    WrAt w.heap.size (((w.alloc (.cells #[.int .u8 x] 5)).alloc (.cells #[.slice (some ⟨w.heap.size, 0, none⟩) 1 1] 60)).alloc (.cells #[.pointer (some ⟨w.heap.size + 1, 0, none⟩)] 58)) (w.heap.size + 1) [x] ∧
    (((w.alloc (.cells #[.int .u8 x] 5)).alloc (.cells #[.slice (some ⟨w.heap.size, 0, none⟩) 1 1] 60)).alloc (.cells #[.pointer (some ⟨w.heap.size + 1, 0, none⟩)] 58)).heap[w.heap.size + 1 + 1]? = some (.cells #[.pointer (some ⟨w.heap.size + 1, 0, none⟩)] 58 (0, 0)) ∧
    Below w.heap.size w (((w.alloc (.cells #[.int .u8 x] 5)).alloc (.cells #[.slice (some ⟨w.heap.size, 0, none⟩) 1 1] 60)).alloc (.cells #[.pointer (some ⟨w.heap.size + 1, 0, none⟩)] 58)) := by
  refine ⟨⟨by omega, _, blk_alloc ?_ _, Kd.R_alloc (Kd.R_alloc (R_lit8 w [x] _ 1 _ _ rfl rfl (Nat.le_refl _) trivial (by simp)) _) _⟩, ?_, ?_⟩
  · have := blk_new (w.alloc (.cells #[.int .u8 x] 5)) (.cells #[.slice (some ⟨w.heap.size, 0, none⟩) 1 1] 60)
    rwa [size_alloc] at this
  · have := blk_new ((w.alloc (.cells #[.int .u8 x] 5)).alloc (.cells #[.slice (some ⟨w.heap.size, 0, none⟩) 1 1] 60)) (.cells #[.pointer (some ⟨w.heap.size + 1, 0, none⟩)] 58)
    rwa [size_alloc, size_alloc] at this
  · exact below_alloc (below_alloc (below_alloc (Below.refl _ _) _) _) _

set_option maxRecDepth 100000 in
set_option maxHeartbeats 1600000 in
theorem putCommit_any (t : Int) (l : List W27) (A : Option Addr) (c : Nat) (w : World) (hr : k27.C w A l.length l) :
    Calls Try.prog 9 #[.agg #[.int .i64 t, .slice A l.length c]] w fun e w' => ∃ v : Value, e = .returned (.tuple #[v, .int .i64 (putC t l).2]) ∧ U8.R 5 w' w.heap.size (fun _ => True) v (putC t l).1 ∧ Below w.heap.size w w' := by
  have HR := Aside0.mk hr
  clear hr
  cases hR : rightC t l with
  | false =>
    have HT := Aside0.mk hR
    clear hR
    go_enter Try.func9, Try.ntmps9
    go_wp2_with fail
    have hcall := rightCommit_any t l A c _ (Kd.C_alloc HR.out (.cells #[.int .i64 t, .slice A l.length c] 24))
    rw [HT.out] at hcall
    refine hcall.mono ?_
    rintro e w1 ⟨rfl, hb⟩
    have HB := Aside0.mk (below_then (below_alloc (Below.refl w.heap.size w) _) (by simp) hb)
    clear hb hcall
    go_wp2_with fail
    go_ret2
    exact ⟨_, by unfold putC; rw [if_neg (by rw [HT.out]; decide)]; rfl, by unfold putC; rw [if_neg (by rw [HT.out]; decide)]; exact Kd.R_nil _ _ _ _ _, HB.out⟩
  | true =>
    have HT := Aside0.mk hR
    obtain ⟨hn, hs⟩ := rightC_small t l hR
    have HS := Aside0.mk hs
    clear hR hs
    go_enter Try.func9, Try.ntmps9
    go_wp2_with fail
    have HXa := Aside0.mk (blk_new w (.cells #[.int .i64 t, .slice A l.length c] 24))
    have hcall := rightCommit_any t l A c _ (Kd.C_alloc HR.out (.cells #[.int .i64 t, .slice A l.length c] 24))
    rw [HT.out] at hcall
    refine hcall.mono ?_
    rintro e w1 ⟨rfl, hb⟩
    have HX1 := Aside0.mk (blk_below HXa.out hb)
    have HB := Aside0.mk (below_then (below_alloc (Below.refl w.heap.size w) _) (by simp) hb)
    have hsz : w.heap.size < w1.heap.size := blk_lt HX1.out
    have hx0 : w1.cell? ⟨w.heap.size, 0, none⟩ = some (.int .i64 t) := (blk_cell HX1.out 0).trans rfl
    have hx1 : w1.cell? ⟨w.heap.size, 1, none⟩ = some (.slice A l.length c) := (blk_cell HX1.out 1).trans rfl
    have HW := Aside0.mk (wr_new w1 67)
    have hy0 : (((w1.alloc (.cells #[.int .u8 67] 5)).alloc (.cells #[.slice (some ⟨w1.heap.size, 0, none⟩) 1 1] 60)).alloc (.cells #[.pointer (some ⟨w1.heap.size + 1, 0, none⟩)] 58)).cell? ⟨w.heap.size, 0, none⟩ = some (.int .i64 t) := (blk_cell (blk_below HX1.out HW.out.2.2) 0).trans rfl
    clear hb hcall HXa
    go_wp2_with fail
    obtain ⟨hw3, hc3, hb3⟩ := HW.out
    have hX3 := blk_below HX1.out hb3
    generalize (((w1.alloc (.cells #[.int .u8 67] 5)).alloc (.cells #[.slice (some ⟨w1.heap.size, 0, none⟩) 1 1] 60)).alloc (.cells #[.pointer (some ⟨w1.heap.size + 1, 0, none⟩)] 58)) = w3 at *
    have HC3 := Aside0.mk hc3
    have HX3 := Aside0.mk hX3
    have HB3 := Aside0.mk (below_then HB.out (Nat.le_of_lt hsz) hb3)
    have HR3 := Aside0.mk (Kd.C_below HR.out HB3.out)
    clear HW
    refine (wnum_any w1.heap.size (w1.heap.size + 1) [67] t _ hw3 (by simp)).mono ?_
    rintro e w4 ⟨rfl, hw4, hf4⟩
    have HW4 := Aside0.mk hw4
    have HC4 := Aside0.mk (hf4.blk HC3.out (by simp [TW]))
    have HX4 := Aside0.mk (hf4.blk HX3.out (by simp [TW]))
    have HB4 := Aside0.mk (HB3.out.trans (hf4.below.mono (Nat.le_of_lt hsz)))
    have HS4 := Aside0.mk (Nat.le_trans (blk_lt HC3.out) hf4.size)
    have hy1 : w4.cell? ⟨w.heap.size, 1, none⟩ = some (.slice A l.length c) := (blk_cell HX4.out 1).trans rfl
    have hz1 : w4.cell? ⟨w1.heap.size + 1 + 1, 0, none⟩ = some (.pointer (some ⟨w1.heap.size + 1, 0, none⟩)) := (blk_cell HC4.out 0).trans rfl
    clear hw4 hf4 hx0 hx1 hw3 hc3 hb3 hX3 hy0
    go_wp2_with fail
    have HNL := Aside0.mk (nb_len t)
    refine (put27_any w1.heap.size (w1.heap.size + 1) (w1.heap.size + 1 + 1) ([67] ++ nb t) l A c w _ HW4.out HC4.out HR.out (Nat.le_of_lt hsz) HB4.out HS.out (by omega) (by have := HNL.out; simp; omega) _ rfl).mono ?_
    rintro e w5 ⟨rfl, hw5, hf5⟩
    have HB5 := Aside0.mk (HB4.out.trans (hf5.below.mono (Nat.le_of_lt hsz)))
    have HC5 := Aside0.mk (hf5.blk HC4.out (by simp [TW]))
    have hz5 : w5.cell? ⟨w1.heap.size + 1 + 1, 0, none⟩ = some (.pointer (some ⟨w1.heap.size + 1, 0, none⟩)) := (blk_cell HC5.out 0).trans rfl
    obtain ⟨_, v, hv5, ho5⟩ := hw5
    have hg5 : w5.cell? ⟨w1.heap.size + 1, 0, none⟩ = some v := (blk_cell hv5 0).trans rfl
    have HO5 := Aside0.mk ho5
    clear hf5 hv5 ho5 hy1 hz1
    go_wp2_with fail
    go_ret2
    have e1 : putC t l = (commitB t l, 0) := by unfold putC; rw [if_pos HT.out]
    refine ⟨v, by rw [e1]; rfl, ?_, HB5.out⟩
    rw [e1]
    have h6 := Kd.R_lower HO5.out (Nat.le_of_lt hsz)
    have e2 : [67] ++ nb t ++ nb l.length ++ wsB l = commitB t l := by simp [commitB]
    rw [e2] at h6
    exact h6
end Go.Proofs.Ytmemkmnnededgaa.H
