/- Contract: a new arena. -/
import Derived.Test.YtmemkmnnededgaaDoorA2
namespace Go.Proofs.YtmemkmnnededgaaDoor.H
open Go.RowKit Go.Proofs.YtmemkmnnededgaaDoorW.PrintWords Go.Proofs.YtmemkmnnededgaaDoorW.PrintLast Go.Proofs.YtmemkmnnededgaaDoorW.PrintMore
attribute [local go_sem] max2_int min2_int max_two min_two max_three min_three max_four min_four
set_option linter.unusedVariables false
set_option linter.unusedSimpArgs false

def ar0 : Ar := ⟨[], fun _ => 0, 0, 0⟩
theorem ar0_wf : ar0.Wf 0 := ⟨fun _ => by show 0 < 18446744073709551616; decide, fun c h => by simp [ar0, Ar.tk] at h, fun i h => by simp [ar0] at h, by simp [ar0], by simp [ar0], by simp [ar0]⟩
theorem ar0_tk (c : Nat) : ar0.tk c = false := by simp [ar0, Ar.tk]
theorem zero51 : (Tryd.zeroCells51.setIfInBounds 0 (.int .i64 2000)).toList = (List.range 1029).map (arCell (.slice none 0 0) ar0 0) := by kernel_rfl
theorem zero51_at (i : Nat) (hi : i < 1029) : (Tryd.zeroCells51.setIfInBounds 0 (.int .i64 2000))[i]? = some (arCell (.slice none 0 0) ar0 0 i) := by
  rw [← Array.getElem?_toList, zero51]
  simp [hi]
theorem zero51_size : (Tryd.zeroCells51.setIfInBounds 0 (.int .i64 2000)).size = 1029 := by
  rw [← Array.length_toList, zero51]
  simp
set_option maxRecDepth 100000 in
set_option maxHeartbeats 3200000 in
theorem cells_any (B : Nat) (w : World) (hB : B ≤ w.heap.size) :
    Calls Tryd.prog 4 #[.int .i64 2000] w fun e w' => e = .returned (.tuple #[.pointer (some ⟨w.heap.size, 0, none⟩), .int .i64 0]) ∧ ArAt B w' w.heap.size ar0 ∧ Below w.heap.size w w' := by
  have HB := Aside0.mk hB
  clear hB
  go_enter Tryd.func4, Tryd.ntmps4
  go_wp2_with fail
  go_ret2
  exact ⟨rfl, ⟨HB.out, _, _, CellsAt.new w _ 51 1029 _ zero51_size zero51_at, Kd.R_nil _ _ _ _ _⟩, below_alloc (Below.refl _ _) _⟩
end Go.Proofs.YtmemkmnnededgaaDoor.H
