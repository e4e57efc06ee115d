/- Contracts: a skip operation lays, and links. -/
import Derived.Test.YtmemkmnnededgaaDoorD0
namespace Go.Proofs.YtmemkmnnededgaaDoor.H
open Go.RowKit Go.Proofs.YtmemkmnnededgaaDoorW.PrintWords Go.Proofs.YtmemkmnnededgaaDoorW.PrintLast Go.Proofs.YtmemkmnnededgaaDoorW.PrintMore
attribute [local go_sem] max2_int min2_int max_two min_two max_three min_three max_four min_four
set_option linter.unusedVariables false
set_option linter.unusedSimpArgs false

theorem SoAt.cP {B : Nat} {w : World} {o l : Nat} {op : SOp} (h : SoAt B w o l op) (i : Nat) (hi : i < 8) : w.cell? ⟨o, 26 + i, none⟩ = some (.int .i64 (op.preds i)) := by
  refine (h.cell (26 + i) (by omega)).trans ?_
  unfold sopCell
  rw [if_neg (by omega), if_neg (by omega), if_neg (by omega), if_neg (by omega), if_neg (by omega), if_neg (by omega), if_neg (by omega), if_neg (by omega), if_neg (by omega), if_neg (by omega), if_pos (by omega), show 26 + i - 26 = i by omega]
theorem SoAt.cS {B : Nat} {w : World} {o l : Nat} {op : SOp} (h : SoAt B w o l op) (i : Nat) (hi : i < 8) : w.cell? ⟨o, 34 + i, none⟩ = some (.int .i64 (op.succs i)) := by
  refine (h.cell (34 + i) (by omega)).trans ?_
  unfold sopCell
  rw [if_neg (by omega), if_neg (by omega), if_neg (by omega), if_neg (by omega), if_neg (by omega), if_neg (by omega), if_neg (by omega), if_neg (by omega), if_neg (by omega), if_neg (by omega), if_neg (by omega), if_pos (by omega), show 34 + i - 34 = i by omega]
theorem wrap_u64_nat (n : Nat) (h : n < 1000000) : IntKind.u64.wrap (n : Int) = (n : Int) := by rw [IntKind.wrap_u64]; omega

set_option maxRecDepth 100000 in
set_option maxHeartbeats 6400000 in
theorem lay_any (B k : Nat) (w : World) (ga l o : Nat) (a : Ar) (bs : List Nat) (ns : Nat → SNode) (op : SOp) (hs : KS B w ga l o a bs ns op) (hw : a.Wf k) (hk : k < 1980) (hb : bs.length < 1000) (ho : op.own < bs.length) (hl : op.linked < 8) (hsu : op.succs op.linked < 1000) (htk : a.tk ((ns op.own).tower op.linked) = true) :
    Calls Tryd.prog 43 #[.pointer (some ⟨o, 0, none⟩)] w fun e w' => e = .returned (.bool false) ∧ KS B w' ga l o { a with has := a.has.set ((ns op.own).tower op.linked) (op.succs op.linked) } bs ns { op with does := 2 } ∧ FrO TK o B w w' := by
  have H := Aside0.mk hs
  have HW := Aside0.mk hw
  have HTK := Aside0.mk htk
  have c0 := hs.so.c0
  have c42 := hs.so.c42
  have c43 := hs.so.c43
  have cs := hs.so.cS op.linked hl
  have l0 := hs.li.c0
  have ct := (hs.li.nodeAt op.own ho).tow op.linked hl
  have hat := fun W (hW : KS B W ga l o a bs ns op) => sat_any B o l ga op bs ns op.own W hW.so hW.li ho (by omega)
  have i0 : (0 : Int) ≤ (op.linked : Int) := by omega
  have i1 : (op.linked : Int) < 8 := by omega
  have hwr := wrap_u64_nat (op.succs op.linked) (by omega)
  clear hs hw htk
  go_enter Tryd.func43, Tryd.ntmps43
  go_wp2_with fail
  refine wp_region_still_tail 31 (by kernel_rfl) (by kernel_rfl) ?_
  simp only [List.take_succ_cons, List.take_zero, List.drop_succ_cons, List.drop_zero]
  repeat still_step
  still_call (hat _ H.out.drew)
  repeat still_step
  refine wpStill_nil ?_
  change wpList _ _ _ _ _ w.drew
  have H3 := Aside0.mk H.out.drew
  have F3 := Aside0.mk ((FrO.refl TK o B w).drew)
  clear c0 c42 c43 cs l0 ct hat
  generalize w.drew = w3 at *
  go_wp2_with fail
  refine (store_any B ga k a _ (op.succs op.linked) w3 H3.out.ar HW.out (by omega) HTK.out).mono ?_
  rintro e w4 ⟨rfl, ha, hf⟩
  have H4 := Aside0.mk (H3.out.arena ha hf)
  have F4 := Aside0.mk (F3.out.thenT hf (by simp [TA, TK]))
  clear ha hf
  have c22 := H4.out.so.c22
  have f22 := H4.out.so.f 22
  go_wp2_with fail
  go_ret
  exact ⟨rfl, H4.out.setOp (op' := { op with does := 2 }) 22 (.int .i64 2) (by refine sop_set (fun j hj hn => ?_) rfl; simp only [sopCell, if_neg hn]), F4.out.set H4.out.so.ge 22 _⟩
end Go.Proofs.YtmemkmnnededgaaDoor.H
