/- Contract: a step of a hash operation that is refused, or done; the making of an operation. -/
import Derived.Test.YtmemkmnnededgaaDoorB5
namespace Go.Proofs.YtmemkmnnededgaaDoor.H
open Go.RowKit Go.Proofs.YtmemkmnnededgaaDoorW.PrintWords Go.Proofs.YtmemkmnnededgaaDoorW.PrintLast Go.Proofs.YtmemkmnnededgaaDoorW.PrintMore
attribute [local go_sem] max2_int min2_int max_two min_two max_three min_three max_four min_four
set_option linter.unusedVariables false
set_option linter.unusedSimpArgs false

set_option maxRecDepth 100000 in
set_option maxHeartbeats 3200000 in
theorem step_refused (B : Nat) (w : World) (ga h o : Nat) (a : Ar) (heads : List Nat) (ents : List Ent) (op : HOp) (hs : HS B w ga h o a heads ents op) (hk : isKeyB op.key = false) (hn : op.next = 0) :
    Calls Tryd.prog 17 #[.pointer (some ⟨o, 0, none⟩)] w fun e w' => e = .returned (.bool true) ∧ HS B w' ga h o a heads ents (op.end_ 0 false 90) ∧ FrO TH o B w w' := by
  have H := Aside0.mk hs
  have c4 := hs.c4
  rw [hn] at c4
  clear hs hn
  go_enter Tryd.func17, Tryd.ntmps17
  go_wp2_with fail
  go_step3
  go_wp2_with fail
  refine (refused_any B o h op w H.out.ho).mono ?_
  rintro e wr ⟨rfl, hr, fr⟩
  rw [hk, if_neg (by decide)] at hr
  have HR := Aside0.mk (H.out.oper hr fr)
  have FR := Aside0.mk ((FrO.refl TH o B w).trans ⟨fr.below, fun k cs t fr' hk ht ho => fr.kept k cs t fr' hk (by simp) ho⟩)
  clear hr fr c4
  rw [hk]
  go_wp2_with fail
  simp only [Exit.noGoto]
  go_ret
  exact ⟨rfl, HR.out, FR.out⟩

set_option maxRecDepth 100000 in
set_option maxHeartbeats 3200000 in
theorem step_done (B : Nat) (w : World) (o h : Nat) (op : HOp) (hs : HoAt B w o h op) (hn : op.next = 4) :
    Calls Tryd.prog 17 #[.pointer (some ⟨o, 0, none⟩)] w fun e w' => e = .returned (.bool true) ∧ w' = w := by
  have c4 : w.cell? ⟨o, 4, none⟩ = some (.int .i64 op.next) := (blk_cell hs.blk 4).trans rfl
  rw [hn] at c4
  clear hs hn
  go_enter Tryd.func17, Tryd.ntmps17
  go_wp2_with fail
  go_step3
  go_wp2_with fail
  simp only [Exit.noGoto]
  go_ret
  exact ⟨rfl, rfl⟩

set_option maxRecDepth 100000 in
set_option maxHeartbeats 3200000 in
/-- A new operation lies at the heap's end. -/
theorem insert_any (B : Nat) (w : World) (h : Nat) (key : ByteArray) (ref : Int) (hB : B ≤ w.heap.size) :
    Calls Tryd.prog 7 #[.pointer (some ⟨h, 0, none⟩), .string key, .int .i64 ref] w fun e w' => e = .returned (.pointer (some ⟨w.heap.size, 0, none⟩)) ∧ HoAt B w' w.heap.size h ⟨key, ref, 0, 0, 0, 0, false, 0⟩ ∧ Below w.heap.size w w' := by
  have hBA := Aside0.mk hB
  clear hB
  go_enter Tryd.func7, Tryd.ntmps7
  go_wp2_with fail
  go_ret
  exact ⟨rfl, ⟨hBA.out, blk_new w _⟩, below_alloc (Below.refl _ _) _⟩
end Go.Proofs.YtmemkmnnededgaaDoor.H
