/- Contracts of the program's package record: PutManifest. -/
import Derived.Test.YtmemkmnnededgaaHK
namespace Go.Proofs.Ytmemkmnnededgaa.H
open Go.RowKit Go.Proofs.YtmemkmnnededgaaW.PrintWords Go.Proofs.YtmemkmnnededgaaW.PrintLast Go.Proofs.YtmemkmnnededgaaW.PrintMore
attribute [local go_sem] max2_int min2_int max_two min_two max_three min_three max_four min_four
set_option linter.unusedVariables false
set_option linter.unusedSimpArgs false

def manifestB (t log : Int) (l : List P43) : List Int := 77 :: (nb t ++ (nb log ++ (nb l.length ++ psB l)))
def putM (t log : Int) (l : List P43) : List Int × Int := if rightM t log l = true then (manifestB t log l, 0) else ([], 60)
theorem rightM_len (t log : Int) (l : List P43) (h : rightM t log l = true) : l.length ≤ 16 := by
  unfold rightM at h
  simp only [Bool.and_eq_true, decide_eq_true_eq] at h
  exact h.2.2.1

set_option maxRecDepth 100000 in
set_option maxHeartbeats 1600000 in
theorem putManifest_any (t log : Int) (l : List P43) (A : Option Addr) (c : Nat) (w : World) (hr : k43.C w A l.length l) (hwf : ∀ x ∈ l, (Lit.int .i64 x.num).wf = true) :
    Calls Try.prog 21 #[.agg #[.int .i64 t, .int .i64 log, .slice A l.length c]] w fun e w' => ∃ v : Value, e = .returned (.tuple #[v, .int .i64 (putM t log l).2]) ∧ U8.R 5 w' w.heap.size (fun _ => True) v (putM t log l).1 ∧ Below w.heap.size w w' := by
  have HR := Aside0.mk hr
  have HWF := Aside0.mk hwf
  clear hr hwf
  cases hR : rightM t log l with
  | false =>
    have HT := Aside0.mk hR
    clear hR
    go_enter Try.func21, Try.ntmps21
    go_wp2_with fail
    have hcall := rightManifest_any t log l A c _ (Kd.C_alloc HR.out (.cells #[.int .i64 t, .int .i64 log, .slice A l.length c] 38)) HWF.out
    rw [HT.out] at hcall
    refine hcall.mono ?_
    rintro e w1 ⟨rfl, hb⟩
    have HB := Aside0.mk (below_then (below_alloc (Below.refl w.heap.size w) _) (by simp) hb)
    clear hb hcall
    go_wp2_with fail
    go_ret2
    exact ⟨_, by unfold putM; rw [if_neg (by rw [HT.out]; decide)]; rfl, by unfold putM; rw [if_neg (by rw [HT.out]; decide)]; exact Kd.R_nil _ _ _ _ _, HB.out⟩
  | true =>
    have HT := Aside0.mk hR
    have hn := rightM_len t log l hR
    clear hR
    go_enter Try.func21, Try.ntmps21
    go_wp2_with fail
    have HXa := Aside0.mk (blk_new w (.cells #[.int .i64 t, .int .i64 log, .slice A l.length c] 38))
    have hcall := rightManifest_any t log l A c _ (Kd.C_alloc HR.out (.cells #[.int .i64 t, .int .i64 log, .slice A l.length c] 38)) HWF.out
    rw [HT.out] at hcall
    refine hcall.mono ?_
    rintro e w1 ⟨rfl, hb⟩
    have HX1 := Aside0.mk (blk_below HXa.out hb)
    have HB := Aside0.mk (below_then (below_alloc (Below.refl w.heap.size w) _) (by simp) hb)
    have hsz : w.heap.size < w1.heap.size := blk_lt HX1.out
    have HW := Aside0.mk (wr_new w1 77)
    have hy0 : (((w1.alloc (.cells #[.int .u8 77] 5)).alloc (.cells #[.slice (some ⟨w1.heap.size, 0, none⟩) 1 1] 60)).alloc (.cells #[.pointer (some ⟨w1.heap.size + 1, 0, none⟩)] 58)).cell? ⟨w.heap.size, 0, none⟩ = some (.int .i64 t) := (blk_cell (blk_below HX1.out HW.out.2.2) 0).trans rfl
    clear hb hcall HXa
    go_wp2_with fail
    obtain ⟨hw3, hc3, hb3⟩ := HW.out
    have hX3 := blk_below HX1.out hb3
    generalize (((w1.alloc (.cells #[.int .u8 77] 5)).alloc (.cells #[.slice (some ⟨w1.heap.size, 0, none⟩) 1 1] 60)).alloc (.cells #[.pointer (some ⟨w1.heap.size + 1, 0, none⟩)] 58)) = w3 at *
    have HC3 := Aside0.mk hc3
    have HX3 := Aside0.mk hX3
    have HB3 := Aside0.mk (below_then HB.out (Nat.le_of_lt hsz) hb3)
    clear HW
    refine (wnum_any w1.heap.size (w1.heap.size + 1) [77] t _ hw3 (by simp)).mono ?_
    rintro e w4 ⟨rfl, hw4, hf4⟩
    have HW4 := Aside0.mk hw4
    have HC4 := Aside0.mk (hf4.blk HC3.out (by simp [TW]))
    have HX4 := Aside0.mk (hf4.blk HX3.out (by simp [TW]))
    have HB4 := Aside0.mk (HB3.out.trans (hf4.below.mono (Nat.le_of_lt hsz)))
    have HNL := Aside0.mk (nb_len t)
    have HNL2 := Aside0.mk (nb_len log)
    have hy1 : w4.cell? ⟨w.heap.size, 1, none⟩ = some (.int .i64 log) := (blk_cell HX4.out 1).trans rfl
    have hz1 : w4.cell? ⟨w1.heap.size + 1 + 1, 0, none⟩ = some (.pointer (some ⟨w1.heap.size + 1, 0, none⟩)) := (blk_cell HC4.out 0).trans rfl
    clear hw4 hf4 hw3 hc3 hb3 hX3 hy0
    go_wp2_with fail
    refine (wnum_any w1.heap.size (w1.heap.size + 1) ([77] ++ nb t) log _ HW4.out (by have := HNL.out; simp; omega)).mono ?_
    rintro e w5 ⟨rfl, hw5, hf5⟩
    have HW5 := Aside0.mk hw5
    have HC5 := Aside0.mk (hf5.blk HC4.out (by simp [TW]))
    have HX5 := Aside0.mk (hf5.blk HX4.out (by simp [TW]))
    have HB5 := Aside0.mk (HB4.out.trans (hf5.below.mono (Nat.le_of_lt hsz)))
    have hy2 : w5.cell? ⟨w.heap.size, 2, none⟩ = some (.slice A l.length c) := (blk_cell HX5.out 2).trans rfl
    have hz2 : w5.cell? ⟨w1.heap.size + 1 + 1, 0, none⟩ = some (.pointer (some ⟨w1.heap.size + 1, 0, none⟩)) := (blk_cell HC5.out 0).trans rfl
    clear hw5 hf5 hy1 hz1
    go_wp2_with fail
    refine (put43_any w1.heap.size (w1.heap.size + 1) (w1.heap.size + 1 + 1) ([77] ++ nb t ++ nb log) l A c w _ HW5.out HC5.out HR.out (Nat.le_of_lt hsz) HB5.out (by omega) (by have := HNL.out; have := HNL2.out; simp; omega) _ rfl).mono ?_
    rintro e w6 ⟨rfl, hw6, hf6⟩
    have HB6 := Aside0.mk (HB5.out.trans (hf6.below.mono (Nat.le_of_lt hsz)))
    have HC6 := Aside0.mk (hf6.blk HC5.out (by simp [TW]))
    have hz6 : w6.cell? ⟨w1.heap.size + 1 + 1, 0, none⟩ = some (.pointer (some ⟨w1.heap.size + 1, 0, none⟩)) := (blk_cell HC6.out 0).trans rfl
    obtain ⟨_, v, hv6, ho6⟩ := hw6
    have hg6 : w6.cell? ⟨w1.heap.size + 1, 0, none⟩ = some v := (blk_cell hv6 0).trans rfl
    have HO6 := Aside0.mk ho6
    clear hf6 hv6 ho6 hy2 hz2
    go_wp2_with fail
    go_ret2
    have e1 : putM t log l = (manifestB t log l, 0) := by unfold putM; rw [if_pos HT.out]
    refine ⟨v, by rw [e1]; rfl, ?_, HB6.out⟩
    rw [e1]
    have h6 := Kd.R_lower HO6.out (Nat.le_of_lt hsz)
    have e2 : [77] ++ nb t ++ nb log ++ nb l.length ++ psB l = manifestB t log l := by simp [manifestB]
    rw [e2] at h6
    exact h6
end Go.Proofs.Ytmemkmnnededgaa.H
