/- Contract: a step of a skip operation. -/
import Derived.Test.YtmemkmnnededgaaDoorD6
namespace Go.Proofs.YtmemkmnnededgaaDoor.H
open Go.RowKit Go.Proofs.YtmemkmnnededgaaDoorW.PrintWords Go.Proofs.YtmemkmnnededgaaDoorW.PrintLast Go.Proofs.YtmemkmnnededgaaDoorW.PrintMore
attribute [local go_sem] max2_int min2_int max_two min_two max_three min_three max_four min_four
set_option linter.unusedVariables false
set_option linter.unusedSimpArgs false

set_option maxRecDepth 100000 in
set_option maxHeartbeats 6400000 in
theorem sstep_first (B : Nat) (w : World) (ga l o : Nat) (a : Ar) (bs : List Nat) (ns : Nat → SNode) (op : SOp) (hs : KS B w ga l o a bs ns op) (hbg : op.begun = false) (hd : op.does = 0) (hk : isKeyB op.key = true) (R : Bool → World → Prop) (hcall : ∀ W, KS B W ga l o a bs ns (SOp.again { op with begun := true }) → FrO TK o B w W → Calls Tryd.prog 42 #[.pointer (some ⟨o, 0, none⟩)] W (fun e w' => ∃ r : Bool, e = .returned (.bool r) ∧ R r w')) :
    Calls Tryd.prog 18 #[.pointer (some ⟨o, 0, none⟩)] w fun e w' => ∃ r : Bool, e = .returned (.bool r) ∧ R r w' := by
  have H0 := Aside0.mk hs
  have HCALL := Aside0.mk hcall
  have c22 := hs.so.c22
  have c23 := hs.so.c23
  have f23 := hs.so.f 23
  have c0 := hs.so.c0
  rw [hd] at c22
  rw [hbg] at c23
  clear hs hcall hd
  go_enter Tryd.func18, Tryd.ntmps18
  go_upto_region 5 with fail
  have H1 := Aside0.mk (show KS B (w.setCell ⟨o, 23, none⟩ (.bool true)) ga l o a bs ns { op with begun := true } from H0.out.setOp (op' := { op with begun := true }) 23 (.bool true) (by refine sop_set (fun j hj hn => ?_) rfl; simp only [sopCell, if_neg hn]))
  have F1 := Aside0.mk ((FrO.refl TK o B w).set H0.out.so.ge 23 (.bool true))
  clear c22 c23 f23 c0
  generalize w.setCell ⟨o, 23, none⟩ (.bool true) = w1 at *
  have c0 := H1.out.so.c0
  have c1 := H1.out.so.c1
  have c2 : w1.cell? ⟨o, 2, none⟩ = some (.string op.key) := H1.out.so.c2
  have HIK := Aside0.mk (hk ▸ sisKey_any op.key w1)
  go_wp2_with fail
  refine HIK.out.mono ?_
  rintro e wx ⟨rfl, rfl⟩
  clear HIK
  go_wp2_with fail
  refine (again_any B o l { op with begun := true } wx H1.out.so).mono ?_
  rintro e w2 ⟨rfl, h2, f2⟩
  have H := Aside0.mk (H1.out.oper h2 f2)
  have F := Aside0.mk (F1.out.trans f2.more0)
  clear h2 f2 c0 c1 c2
  have HD : Aside0 ((SOp.again { op with begun := true }).does = 0) := ⟨rfl⟩
  go_wp2_with fail
  have c22 : w2.cell? ⟨o, 22, none⟩ = some (.int .i64 0) := by have := H.out.so.c22; rw [HD.out] at this; exact this
  refine start_ (n := 9) (ds := [7]) (S := fun w' => w'.cell? ⟨o, 22, none⟩ = some (.int .i64 0)) #[false, false, false, false, false, false, false, false, false] (by kernel_rfl) rfl rfl c22 (fun hHeld => ?_)
  refine take_ (i := 1) (N := (some 47)) (v := ?_) (a' := ?_) #[false, true, false, false, false, false, false, false, false] rfl rfl (by kernel_rfl) (fun _ _ _ h => h) (Or.inl ⟨by rfl, ?_⟩) hHeld ?_ ?_
  rotate_left
  · rintro w' s0
    go_simp
    with_reducible rfl
  rotate_left
  · simp only [Act.put, List.setIfInBounds_toArray, List.set_cons_zero, List.set_cons_succ]
    rfl
  refine take_ (i := 2) (N := (some 48)) (v := ?_) (a' := ?_) #[false, true, true, false, false, false, false, false, false] rfl rfl (by kernel_rfl) (fun _ _ _ h => h) (Or.inl ⟨by rfl, ?_⟩) hHeld ?_ ?_
  rotate_left
  · rintro w' s0
    go_simp
    with_reducible rfl
  rotate_left
  · simp only [Act.put, List.setIfInBounds_toArray, List.set_cons_zero, List.set_cons_succ]
    rfl
  refine take_ (i := 3) (N := (some 49)) (v := ?_) (a' := ?_) #[false, true, true, true, false, false, false, false, false] rfl rfl (by kernel_rfl) (fun _ _ _ h => h) (Or.inl ⟨by rfl, ?_⟩) hHeld ?_ ?_
  rotate_left
  · rintro w' s0
    go_simp
    with_reducible rfl
  rotate_left
  · simp only [Act.put, List.setIfInBounds_toArray, List.set_cons_zero, List.set_cons_succ]
    rfl
  refine take_ (i := 4) (N := (some 50)) (v := ?_) (a' := ?_) #[false, true, true, true, true, false, false, false, false] rfl rfl (by kernel_rfl) (fun _ _ _ h => h) (Or.inl ⟨by rfl, ?_⟩) hHeld ?_ ?_
  rotate_left
  · rintro w' s0
    go_simp
    with_reducible rfl
  rotate_left
  · simp only [Act.put, List.setIfInBounds_toArray, List.set_cons_zero, List.set_cons_succ]
    rfl
  refine take_ (i := 6) (N := (some 52)) (v := ?_) (a' := ?_) #[false, true, true, true, true, false, true, false, false] rfl rfl (by kernel_rfl) (fun _ _ _ h => h) (Or.inl ⟨by rfl, ?_⟩) hHeld ?_ ?_
  rotate_left
  · rintro w' s0
    go_simp
    with_reducible rfl
  rotate_left
  · simp only [Act.put, List.setIfInBounds_toArray, List.set_cons_zero, List.set_cons_succ]
    rfl
  refine one_ (i := 0) (N := (some 46)) #[true, true, true, true, true, false, true, false, false] rfl rfl (by kernel_rfl) (by decide) (fun K hK => ?_)
  go_simp
  go_at_call 35
  refine (steps_any w2.drew).mono ?_
  rintro e wx ⟨rfl, hb⟩
  have HX := Aside0.mk (H.out.drew.below hb)
  have FX := Aside0.mk (F.out.drew.fresh (Nat.le_trans H.out.so.ge (Nat.le_of_lt H.out.so.blk.lt)) hb)
  clear hb
  have d22 : wx.cell? ⟨o, 22, none⟩ = some (.int .i64 0) := by have := HX.out.so.c22; rw [HD.out] at this; exact this
  dsimp only
  refine hK.out _ _ d22 (fun hHeld => ?_)
  clear hK K d22
  refine take_ (i := 5) (N := (some 51)) (v := ?_) (a' := ?_) #[true, true, true, true, true, true, true, false, false] rfl rfl (by kernel_rfl) (fun _ _ _ h => h) (Or.inl ⟨by rfl, ?_⟩) hHeld ?_ ?_
  rotate_left
  · rintro w' s0
    go_simp
    rw [run_index_step0]
    simp only [Result.andThen_ok]
    with_reducible rfl
  rotate_left
  · simp only [Act.put, List.setIfInBounds_toArray, List.set_cons_zero, List.set_cons_succ]
    rfl
  refine last_ (i := 7) (N := (some 53)) #[true, true, true, true, true, true, true, true, false] rfl rfl (by kernel_rfl) (by decide) (fun K hK => ?_)
  go_simp
  go_at_call 42
  refine (HCALL.out wx HX.out FX.out).mono ?_
  rintro e w8 ⟨r, rfl, h8⟩
  have H8 := Aside0.mk h8
  clear h8
  dsimp only
  refine hK.out _ _ ?_
  clear hK K
  refine pure_ (i := 8) (N := (some 2)) (v := ?_) (a' := ?_) #[true, true, true, true, true, true, true, true, true] rfl rfl (by kernel_rfl) (fun _ _ _ h => h) (Or.inl ⟨by rfl, ?_⟩) ?_ ?_
  rotate_left
  · intro w'
    go_simp
    with_reducible rfl
  rotate_left
  · simp only [Act.put, List.setIfInBounds_toArray, List.set_cons_zero, List.set_cons_succ]
    rfl
  refine done_ (by kernel_rfl) ?_
  go_wp2_with fail
  go_ret
  exact ⟨r, rfl, H8.out⟩

set_option maxRecDepth 100000 in
set_option maxHeartbeats 6400000 in
theorem sstep_refused (B : Nat) (w : World) (ga l o : Nat) (a : Ar) (bs : List Nat) (ns : Nat → SNode) (op : SOp) (hs : KS B w ga l o a bs ns op) (hbg : op.begun = false) (hd : op.does = 0) (hk : isKeyB op.key = false) :
    Calls Tryd.prog 18 #[.pointer (some ⟨o, 0, none⟩)] w fun e w' => e = .returned (.bool true) ∧ KS B w' ga l o a bs ns (SOp.end_ { op with begun := true } ⟨#[]⟩ 0 false 100) ∧ FrO TK o B w w' := by
  have H0 := Aside0.mk hs
  have c22 := hs.so.c22
  have c23 := hs.so.c23
  have f23 := hs.so.f 23
  have c0 := hs.so.c0
  rw [hd] at c22
  rw [hbg] at c23
  clear hs hd
  go_enter Tryd.func18, Tryd.ntmps18
  go_upto_region 5 with fail
  have H1 := Aside0.mk (show KS B (w.setCell ⟨o, 23, none⟩ (.bool true)) ga l o a bs ns { op with begun := true } from H0.out.setOp (op' := { op with begun := true }) 23 (.bool true) (by refine sop_set (fun j hj hn => ?_) rfl; simp only [sopCell, if_neg hn]))
  have F1 := Aside0.mk ((FrO.refl TK o B w).set H0.out.so.ge 23 (.bool true))
  clear c22 c23 f23 c0
  generalize w.setCell ⟨o, 23, none⟩ (.bool true) = w1 at *
  have c0 := H1.out.so.c0
  have c1 := H1.out.so.c1
  have c2 : w1.cell? ⟨o, 2, none⟩ = some (.string op.key) := H1.out.so.c2
  have HIK := Aside0.mk (hk ▸ sisKey_any op.key w1)
  go_wp2_with fail
  refine HIK.out.mono ?_
  rintro e wx ⟨rfl, rfl⟩
  clear HIK
  go_wp2_with fail
  refine (sends_any B o l { op with begun := true } ⟨#[]⟩ 0 false 100 wx H1.out.so).mono ?_
  rintro e w2 ⟨rfl, h2, f2⟩
  have H := Aside0.mk (H1.out.oper h2 f2)
  have F := Aside0.mk (F1.out.trans f2.more0)
  clear h2 f2 c0 c1 c2
  go_wp2_with fail
  go_ret
  exact ⟨rfl, H.out, F.out⟩
end Go.Proofs.YtmemkmnnededgaaDoor.H
