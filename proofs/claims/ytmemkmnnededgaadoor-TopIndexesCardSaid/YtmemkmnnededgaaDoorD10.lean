/- Contract: a step of whichever operation. -/
import Derived.Test.YtmemkmnnededgaaDoorBA
namespace Go.Proofs.YtmemkmnnededgaaDoor.H
open Go.RowKit Go.Proofs.YtmemkmnnededgaaDoorW.PrintWords Go.Proofs.YtmemkmnnededgaaDoorW.PrintLast Go.Proofs.YtmemkmnnededgaaDoorW.PrintMore
attribute [local go_sem] max2_int min2_int max_two min_two max_three min_three max_four min_four
set_option linter.unusedVariables false
set_option linter.unusedSimpArgs false

set_option maxRecDepth 100000 in
set_option maxHeartbeats 6400000 in
theorem step9_h (w : World) (o : Nat) (R : Bool → World → Prop) (hcall : ∀ W, Below w.heap.size w W → Calls Tryd.prog 17 #[.pointer (some ⟨o, 0, none⟩)] W (fun e w' => ∃ r : Bool, e = .returned (.bool r) ∧ R r w')) :
    Calls Tryd.prog 9 #[.agg #[.pointer (some ⟨o, 0, none⟩), .pointer none]] w fun e w' => ∃ r : Bool, e = .returned (.bool r) ∧ R r w' := by
  have HX := Aside0.mk (blk_new w (.cells #[.pointer (some ⟨o, 0, none⟩), .pointer none] 40))
  have HB := Aside0.mk (below_alloc (Below.refl w.heap.size w) (.cells #[.pointer (some ⟨o, 0, none⟩), .pointer none] 40))
  have HCALL := Aside0.mk hcall
  clear hcall
  go_enter Tryd.func9, Tryd.ntmps9
  go_upto_region 1 with fail
  generalize w.alloc (.cells #[.pointer (some ⟨o, 0, none⟩), .pointer none] 40) = wa at *
  have c0 : wa.cell? ⟨w.heap.size, 0, none⟩ = some (.pointer (some ⟨o, 0, none⟩)) := (blk_cell HX.out 0).trans rfl
  go_wp2_with fail
  refine (HCALL.out wa HB.out).mono ?_
  rintro e w8 ⟨r, rfl, h8⟩
  have H8 := Aside0.mk h8
  clear h8
  go_wp2_with fail
  go_ret
  exact ⟨r, rfl, H8.out⟩
set_option maxRecDepth 100000 in
set_option maxHeartbeats 6400000 in
theorem step9_s (w : World) (o : Nat) (R : Bool → World → Prop) (hcall : ∀ W, Below w.heap.size w W → Calls Tryd.prog 18 #[.pointer (some ⟨o, 0, none⟩)] W (fun e w' => ∃ r : Bool, e = .returned (.bool r) ∧ R r w')) :
    Calls Tryd.prog 9 #[.agg #[.pointer none, .pointer (some ⟨o, 0, none⟩)]] w fun e w' => ∃ r : Bool, e = .returned (.bool r) ∧ R r w' := by
  have HX := Aside0.mk (blk_new w (.cells #[.pointer none, .pointer (some ⟨o, 0, none⟩)] 40))
  have HB := Aside0.mk (below_alloc (Below.refl w.heap.size w) (.cells #[.pointer none, .pointer (some ⟨o, 0, none⟩)] 40))
  have HCALL := Aside0.mk hcall
  clear hcall
  go_enter Tryd.func9, Tryd.ntmps9
  go_upto_region 1 with fail
  generalize w.alloc (.cells #[.pointer none, .pointer (some ⟨o, 0, none⟩)] 40) = wa at *
  have c0 : wa.cell? ⟨w.heap.size, 0, none⟩ = some (.pointer none) := (blk_cell HX.out 0).trans rfl
  have c1 : wa.cell? ⟨w.heap.size, 1, none⟩ = some (.pointer (some ⟨o, 0, none⟩)) := (blk_cell HX.out 1).trans rfl
  go_wp2_with fail
  refine (HCALL.out wa HB.out).mono ?_
  rintro e w8 ⟨r, rfl, h8⟩
  have H8 := Aside0.mk h8
  clear h8
  go_wp2_with fail
  go_ret
  exact ⟨r, rfl, H8.out⟩
end Go.Proofs.YtmemkmnnededgaaDoor.H
