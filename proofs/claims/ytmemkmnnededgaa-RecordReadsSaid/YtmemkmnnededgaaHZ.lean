/- The law's own SameCommit and SameManifest, at what is the same. -/
import Derived.Test.YtmemkmnnededgaaHW
import Derived.Test.YtmemkmnnededgaaHL
namespace Go.Proofs.Ytmemkmnnededgaa.H
open Go.RowKit Go.Proofs.YtmemkmnnededgaaW.PrintWords Go.Proofs.YtmemkmnnededgaaW.PrintLast Go.Proofs.YtmemkmnnededgaaW.PrintMore
attribute [local go_sem] max2_int min2_int max_two min_two max_three min_three max_four min_four
set_option linter.unusedVariables false
set_option linter.unusedSimpArgs false

set_option maxRecDepth 100000 in
set_option maxHeartbeats 3200000 in
theorem same11_true (t : Int) (l : List W27) (A A' : Option Addr) (c c' : Nat) (w : World) (h1 : k27.C w A l.length l) (h2 : k27.C w A' l.length l) (hn : l.length < 9223372036854775807) :
    Calls Try.prog 11 #[.agg #[.int .i64 t, .slice A l.length c], .agg #[.int .i64 t, .slice A' l.length c']] w fun e w' => e = .returned (.bool true) ∧ Below w.heap.size w w' := by
  have hu24 := Try.underlying24
  have hu27 := Try.underlying27
  have H1 := Aside0.mk h1
  have H2 := Aside0.mk h2
  have HB := Aside0.mk (below_alloc (below_alloc (Below.refl w.heap.size w) (.cells #[.int .i64 t, .slice A l.length c] 24)) (.cells #[.int .i64 t, .slice A' l.length c'] 24))
  have HX := Aside0.mk (blk_alloc (blk_new w (.cells #[.int .i64 t, .slice A l.length c] 24)) (.cells #[.int .i64 t, .slice A' l.length c'] 24))
  have hy := blk_new (w.alloc (.cells #[.int .i64 t, .slice A l.length c] 24)) (.cells #[.int .i64 t, .slice A' l.length c'] 24)
  rw [size_alloc] at hy
  have HY := Aside0.mk hy
  clear h1 h2 hy
  go_enter Try.func11, Try.ntmps11
  go_wp2_with fail
  generalize (w.alloc (.cells #[.int .i64 t, .slice A l.length c] 24)).alloc (.cells #[.int .i64 t, .slice A' l.length c'] 24) = w1 at *
  go_loopw [5] (fun v5 w' => ∃ k : Nat, k ≤ l.length ∧ v5 = .int .i64 k ∧ Aside0 (Below w.heap.size w w') ∧ Aside0 (w'.heap[w.heap.size]? = some (.cells #[.int .i64 t, .slice A l.length c] 24 (0, 0))) ∧ Aside0 (w'.heap[w.heap.size + 1]? = some (.cells #[.int .i64 t, .slice A' l.length c'] 24 (0, 0)))) (fun v5 _ => l.length - (intOf v5).toNat)
  case atStart => exact ⟨0, Nat.zero_le _, rfl, HB, HX, HY⟩
  case round =>
    obtain ⟨k, hk, rfl, HB2, HX2, HY2⟩ := hrel
    have x1 : wr.cell? ⟨w.heap.size, 1, none⟩ = some (.slice A l.length c) := (blk_cell HX2.out 1).trans rfl
    have y1 : wr.cell? ⟨w.heap.size + 1, 1, none⟩ = some (.slice A' l.length c') := (blk_cell HY2.out 1).trans rfl
    by_cases hlt : k < l.length
    · have r1 := Kd.C_below H1.out HB2.out
      have r2 := Kd.C_below H2.out HB2.out
      obtain ⟨ad, rfl, _⟩ := r1.2.2 (by omega)
      obtain ⟨ad', rfl, _⟩ := r2.2.2 (by omega)
      obtain ⟨p0, p1, p2⟩ := k27_cells r1 k hlt
      obtain ⟨q0, q1, q2⟩ := k27_cells r2 k hlt
      clear r1 r2
      go_wp2_with fail
      go_quiet (fail)
      go_wp2_with fail
      exact ⟨⟨k + 1, by omega, by simp, ⟨pw_below_drewN HB2.out nq⟩, HX2, HY2⟩, by simp [intOf]; omega⟩
    · go_wp2_with fail
      go_ret
      exact ⟨rfl, HB2.out⟩

set_option maxRecDepth 100000 in
set_option maxHeartbeats 3200000 in
theorem same16_true (t g : Int) (l : List P43) (A A' : Option Addr) (c c' : Nat) (w : World) (h1 : k43.C w A l.length l) (h2 : k43.C w A' l.length l) (hn : l.length < 9223372036854775807) :
    Calls Try.prog 16 #[.agg #[.int .i64 t, .int .i64 g, .slice A l.length c], .agg #[.int .i64 t, .int .i64 g, .slice A' l.length c']] w fun e w' => e = .returned (.bool true) ∧ Below w.heap.size w w' := by
  have hu38 := Try.underlying38
  have hu43 := Try.underlying43
  have H1 := Aside0.mk h1
  have H2 := Aside0.mk h2
  have HB := Aside0.mk (below_alloc (below_alloc (Below.refl w.heap.size w) (.cells #[.int .i64 t, .int .i64 g, .slice A l.length c] 38)) (.cells #[.int .i64 t, .int .i64 g, .slice A' l.length c'] 38))
  have HX := Aside0.mk (blk_alloc (blk_new w (.cells #[.int .i64 t, .int .i64 g, .slice A l.length c] 38)) (.cells #[.int .i64 t, .int .i64 g, .slice A' l.length c'] 38))
  have hy := blk_new (w.alloc (.cells #[.int .i64 t, .int .i64 g, .slice A l.length c] 38)) (.cells #[.int .i64 t, .int .i64 g, .slice A' l.length c'] 38)
  rw [size_alloc] at hy
  have HY := Aside0.mk hy
  clear h1 h2 hy
  go_enter Try.func16, Try.ntmps16
  go_wp2_with fail
  generalize (w.alloc (.cells #[.int .i64 t, .int .i64 g, .slice A l.length c] 38)).alloc (.cells #[.int .i64 t, .int .i64 g, .slice A' l.length c'] 38) = w1 at *
  go_loopw [5] (fun v5 w' => ∃ k : Nat, k ≤ l.length ∧ v5 = .int .i64 k ∧ Aside0 (Below w.heap.size w w') ∧ Aside0 (w'.heap[w.heap.size]? = some (.cells #[.int .i64 t, .int .i64 g, .slice A l.length c] 38 (0, 0))) ∧ Aside0 (w'.heap[w.heap.size + 1]? = some (.cells #[.int .i64 t, .int .i64 g, .slice A' l.length c'] 38 (0, 0)))) (fun v5 _ => l.length - (intOf v5).toNat)
  case atStart => exact ⟨0, Nat.zero_le _, rfl, HB, HX, HY⟩
  case round =>
    obtain ⟨k, hk, rfl, HB2, HX2, HY2⟩ := hrel
    have x1 : wr.cell? ⟨w.heap.size, 2, none⟩ = some (.slice A l.length c) := (blk_cell HX2.out 2).trans rfl
    have y1 : wr.cell? ⟨w.heap.size + 1, 2, none⟩ = some (.slice A' l.length c') := (blk_cell HY2.out 2).trans rfl
    by_cases hlt : k < l.length
    · have r1 := Kd.C_below H1.out HB2.out
      have r2 := Kd.C_below H2.out HB2.out
      obtain ⟨ad, rfl, _⟩ := r1.2.2 (by omega)
      obtain ⟨ad', rfl, _⟩ := r2.2.2 (by omega)
      obtain ⟨p0, p1, p2⟩ := k43_cells r1 k hlt
      obtain ⟨q0, q1, q2⟩ := k43_cells r2 k hlt
      clear r1 r2
      go_wp2_with fail
      go_quiet (fail)
      go_wp2_with fail
      exact ⟨⟨k + 1, by omega, by simp, ⟨pw_below_drewN HB2.out nq⟩, HX2, HY2⟩, by simp [intOf]; omega⟩
    · go_wp2_with fail
      go_ret
      exact ⟨rfl, HB2.out⟩
end Go.Proofs.Ytmemkmnnededgaa.H
