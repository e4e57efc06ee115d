/- Contract: a step of a skip operation. -/
import Derived.Test.YtmemkmnnededgaaDoorD3
namespace Go.Proofs.YtmemkmnnededgaaDoor.H
open Go.RowKit Go.Proofs.YtmemkmnnededgaaDoorW.PrintWords Go.Proofs.YtmemkmnnededgaaDoorW.PrintLast Go.Proofs.YtmemkmnnededgaaDoorW.PrintMore
attribute [local go_sem] max2_int min2_int max_two min_two max_three min_three max_four min_four
set_option linter.unusedVariables false
set_option linter.unusedSimpArgs false

theorem run_index_step0 (w : World) : (Instr.index 92 (.agg #[.func (.func 42) #[] #[], .func (.func 43) #[] #[], .func (.func 44) #[] #[]]) (.int .i64 0)).run Tryd.prog w = .ok (.func (.func 42) #[] #[]) w := by
  simp [Instr.index, run_underlying Tryd.underlying92, asIntOf, go_sem, part]
theorem run_index_step1 (w : World) : (Instr.index 92 (.agg #[.func (.func 42) #[] #[], .func (.func 43) #[] #[], .func (.func 44) #[] #[]]) (.int .i64 1)).run Tryd.prog w = .ok (.func (.func 43) #[] #[]) w := by
  simp [Instr.index, run_underlying Tryd.underlying92, asIntOf, go_sem, part]
theorem run_index_step2 (w : World) : (Instr.index 92 (.agg #[.func (.func 42) #[] #[], .func (.func 43) #[] #[], .func (.func 44) #[] #[]]) (.int .i64 2)).run Tryd.prog w = .ok (.func (.func 44) #[] #[]) w := by
  simp [Instr.index, run_underlying Tryd.underlying92, asIntOf, go_sem, part]
set_option maxRecDepth 100000 in
set_option maxHeartbeats 6400000 in
theorem sstep_go0 (B : Nat) (w : World) (ga l o : Nat) (a : Ar) (bs : List Nat) (ns : Nat → SNode) (op : SOp) (hs : KS B w ga l o a bs ns op) (hbg : op.begun = true) (hd : op.does = 0) (R : Bool → World → Prop) (hcall : ∀ W, KS B W ga l o a bs ns op → FrO TK o B w W → Calls Tryd.prog 42 #[.pointer (some ⟨o, 0, none⟩)] W (fun e w' => ∃ r : Bool, e = .returned (.bool r) ∧ R r w')) :
    Calls Tryd.prog 18 #[.pointer (some ⟨o, 0, none⟩)] w fun e w' => ∃ r : Bool, e = .returned (.bool r) ∧ R r w' := by
  have H := Aside0.mk hs
  have HD := Aside0.mk hd
  have HCALL := Aside0.mk hcall
  have F := Aside0.mk (FrO.refl TK o B w)
  have c22 := hs.so.c22
  have c23 := hs.so.c23
  rw [hd] at c22
  rw [hbg] at c23
  clear hs hcall hd
  go_enter Tryd.func18, Tryd.ntmps18
  go_wp2_with fail
  clear c22 c23
  have c22 : w.cell? ⟨o, 22, none⟩ = some (.int .i64 0) := by have := H.out.so.c22; rw [HD.out] at this; exact this
  refine start_ (n := 9) (ds := [7]) (S := fun w' => w'.cell? ⟨o, 22, none⟩ = some (.int .i64 0)) #[false, false, false, false, false, false, false, false, false] (by kernel_rfl) rfl rfl c22 (fun hHeld => ?_)
  refine take_ (i := 1) (N := (some 47)) (v := ?_) (a' := ?_) #[false, true, false, false, false, false, false, false, false] rfl rfl (by kernel_rfl) (fun _ _ _ h => h) (Or.inl ⟨by rfl, ?_⟩) hHeld ?_ ?_
  rotate_left
  · rintro w' s0
    go_simp
    with_reducible rfl
  rotate_left
  · simp only [Act.put, List.setIfInBounds_toArray, List.set_cons_zero, List.set_cons_succ]
    rfl
  refine take_ (i := 2) (N := (some 48)) (v := ?_) (a' := ?_) #[false, true, true, false, false, false, false, false, false] rfl rfl (by kernel_rfl) (fun _ _ _ h => h) (Or.inl ⟨by rfl, ?_⟩) hHeld ?_ ?_
  rotate_left
  · rintro w' s0
    go_simp
    with_reducible rfl
  rotate_left
  · simp only [Act.put, List.setIfInBounds_toArray, List.set_cons_zero, List.set_cons_succ]
    rfl
  refine take_ (i := 3) (N := (some 49)) (v := ?_) (a' := ?_) #[false, true, true, true, false, false, false, false, false] rfl rfl (by kernel_rfl) (fun _ _ _ h => h) (Or.inl ⟨by rfl, ?_⟩) hHeld ?_ ?_
  rotate_left
  · rintro w' s0
    go_simp
    with_reducible rfl
  rotate_left
  · simp only [Act.put, List.setIfInBounds_toArray, List.set_cons_zero, List.set_cons_succ]
    rfl
  refine take_ (i := 4) (N := (some 50)) (v := ?_) (a' := ?_) #[false, true, true, true, true, false, false, false, false] rfl rfl (by kernel_rfl) (fun _ _ _ h => h) (Or.inl ⟨by rfl, ?_⟩) hHeld ?_ ?_
  rotate_left
  · rintro w' s0
    go_simp
    with_reducible rfl
  rotate_left
  · simp only [Act.put, List.setIfInBounds_toArray, List.set_cons_zero, List.set_cons_succ]
    rfl
  refine take_ (i := 6) (N := (some 52)) (v := ?_) (a' := ?_) #[false, true, true, true, true, false, true, false, false] rfl rfl (by kernel_rfl) (fun _ _ _ h => h) (Or.inl ⟨by rfl, ?_⟩) hHeld ?_ ?_
  rotate_left
  · rintro w' s0
    go_simp
    with_reducible rfl
  rotate_left
  · simp only [Act.put, List.setIfInBounds_toArray, List.set_cons_zero, List.set_cons_succ]
    rfl
  refine one_ (i := 0) (N := (some 46)) #[true, true, true, true, true, false, true, false, false] rfl rfl (by kernel_rfl) (by decide) (fun K hK => ?_)
  go_simp
  go_at_call 35
  refine (steps_any w.drew).mono ?_
  rintro e wx ⟨rfl, hb⟩
  have HX := Aside0.mk (H.out.drew.below hb)
  have FX := Aside0.mk (F.out.drew.fresh (Nat.le_trans H.out.so.ge (Nat.le_of_lt H.out.so.blk.lt)) hb)
  clear hb
  have d22 : wx.cell? ⟨o, 22, none⟩ = some (.int .i64 0) := by have := HX.out.so.c22; rw [HD.out] at this; exact this
  dsimp only
  refine hK.out _ _ d22 (fun hHeld => ?_)
  clear hK K d22
  refine take_ (i := 5) (N := (some 51)) (v := ?_) (a' := ?_) #[true, true, true, true, true, true, true, false, false] rfl rfl (by kernel_rfl) (fun _ _ _ h => h) (Or.inl ⟨by rfl, ?_⟩) hHeld ?_ ?_
  rotate_left
  · rintro w' s0
    go_simp
    rw [run_index_step0]
    simp only [Result.andThen_ok]
    with_reducible rfl
  rotate_left
  · simp only [Act.put, List.setIfInBounds_toArray, List.set_cons_zero, List.set_cons_succ]
    rfl
  refine last_ (i := 7) (N := (some 53)) #[true, true, true, true, true, true, true, true, false] rfl rfl (by kernel_rfl) (by decide) (fun K hK => ?_)
  go_simp
  go_at_call 42
  refine (HCALL.out wx HX.out FX.out).mono ?_
  rintro e w8 ⟨r, rfl, h8⟩
  have H8 := Aside0.mk h8
  clear h8
  dsimp only
  refine hK.out _ _ ?_
  clear hK K
  refine pure_ (i := 8) (N := (some 2)) (v := ?_) (a' := ?_) #[true, true, true, true, true, true, true, true, true] rfl rfl (by kernel_rfl) (fun _ _ _ h => h) (Or.inl ⟨by rfl, ?_⟩) ?_ ?_
  rotate_left
  · intro w'
    go_simp
    with_reducible rfl
  rotate_left
  · simp only [Act.put, List.setIfInBounds_toArray, List.set_cons_zero, List.set_cons_succ]
    rfl
  refine done_ (by kernel_rfl) ?_
  go_wp2_with fail
  go_ret
  exact ⟨r, rfl, H8.out⟩
set_option maxRecDepth 100000 in
set_option maxHeartbeats 6400000 in
theorem sstep_go1 (B : Nat) (w : World) (ga l o : Nat) (a : Ar) (bs : List Nat) (ns : Nat → SNode) (op : SOp) (hs : KS B w ga l o a bs ns op) (hbg : op.begun = true) (hd : op.does = 1) (R : Bool → World → Prop) (hcall : ∀ W, KS B W ga l o a bs ns op → FrO TK o B w W → Calls Tryd.prog 43 #[.pointer (some ⟨o, 0, none⟩)] W (fun e w' => ∃ r : Bool, e = .returned (.bool r) ∧ R r w')) :
    Calls Tryd.prog 18 #[.pointer (some ⟨o, 0, none⟩)] w fun e w' => ∃ r : Bool, e = .returned (.bool r) ∧ R r w' := by
  have H := Aside0.mk hs
  have HD := Aside0.mk hd
  have HCALL := Aside0.mk hcall
  have F := Aside0.mk (FrO.refl TK o B w)
  have c22 := hs.so.c22
  have c23 := hs.so.c23
  rw [hd] at c22
  rw [hbg] at c23
  clear hs hcall hd
  go_enter Tryd.func18, Tryd.ntmps18
  go_wp2_with fail
  clear c22 c23
  have c22 : w.cell? ⟨o, 22, none⟩ = some (.int .i64 1) := by have := H.out.so.c22; rw [HD.out] at this; exact this
  refine start_ (n := 9) (ds := [7]) (S := fun w' => w'.cell? ⟨o, 22, none⟩ = some (.int .i64 1)) #[false, false, false, false, false, false, false, false, false] (by kernel_rfl) rfl rfl c22 (fun hHeld => ?_)
  refine take_ (i := 1) (N := (some 47)) (v := ?_) (a' := ?_) #[false, true, false, false, false, false, false, false, false] rfl rfl (by kernel_rfl) (fun _ _ _ h => h) (Or.inl ⟨by rfl, ?_⟩) hHeld ?_ ?_
  rotate_left
  · rintro w' s0
    go_simp
    with_reducible rfl
  rotate_left
  · simp only [Act.put, List.setIfInBounds_toArray, List.set_cons_zero, List.set_cons_succ]
    rfl
  refine take_ (i := 2) (N := (some 48)) (v := ?_) (a' := ?_) #[false, true, true, false, false, false, false, false, false] rfl rfl (by kernel_rfl) (fun _ _ _ h => h) (Or.inl ⟨by rfl, ?_⟩) hHeld ?_ ?_
  rotate_left
  · rintro w' s0
    go_simp
    with_reducible rfl
  rotate_left
  · simp only [Act.put, List.setIfInBounds_toArray, List.set_cons_zero, List.set_cons_succ]
    rfl
  refine take_ (i := 3) (N := (some 49)) (v := ?_) (a' := ?_) #[false, true, true, true, false, false, false, false, false] rfl rfl (by kernel_rfl) (fun _ _ _ h => h) (Or.inl ⟨by rfl, ?_⟩) hHeld ?_ ?_
  rotate_left
  · rintro w' s0
    go_simp
    with_reducible rfl
  rotate_left
  · simp only [Act.put, List.setIfInBounds_toArray, List.set_cons_zero, List.set_cons_succ]
    rfl
  refine take_ (i := 4) (N := (some 50)) (v := ?_) (a' := ?_) #[false, true, true, true, true, false, false, false, false] rfl rfl (by kernel_rfl) (fun _ _ _ h => h) (Or.inl ⟨by rfl, ?_⟩) hHeld ?_ ?_
  rotate_left
  · rintro w' s0
    go_simp
    with_reducible rfl
  rotate_left
  · simp only [Act.put, List.setIfInBounds_toArray, List.set_cons_zero, List.set_cons_succ]
    rfl
  refine take_ (i := 6) (N := (some 52)) (v := ?_) (a' := ?_) #[false, true, true, true, true, false, true, false, false] rfl rfl (by kernel_rfl) (fun _ _ _ h => h) (Or.inl ⟨by rfl, ?_⟩) hHeld ?_ ?_
  rotate_left
  · rintro w' s0
    go_simp
    with_reducible rfl
  rotate_left
  · simp only [Act.put, List.setIfInBounds_toArray, List.set_cons_zero, List.set_cons_succ]
    rfl
  refine one_ (i := 0) (N := (some 46)) #[true, true, true, true, true, false, true, false, false] rfl rfl (by kernel_rfl) (by decide) (fun K hK => ?_)
  go_simp
  go_at_call 35
  refine (steps_any w.drew).mono ?_
  rintro e wx ⟨rfl, hb⟩
  have HX := Aside0.mk (H.out.drew.below hb)
  have FX := Aside0.mk (F.out.drew.fresh (Nat.le_trans H.out.so.ge (Nat.le_of_lt H.out.so.blk.lt)) hb)
  clear hb
  have d22 : wx.cell? ⟨o, 22, none⟩ = some (.int .i64 1) := by have := HX.out.so.c22; rw [HD.out] at this; exact this
  dsimp only
  refine hK.out _ _ d22 (fun hHeld => ?_)
  clear hK K d22
  refine take_ (i := 5) (N := (some 51)) (v := ?_) (a' := ?_) #[true, true, true, true, true, true, true, false, false] rfl rfl (by kernel_rfl) (fun _ _ _ h => h) (Or.inl ⟨by rfl, ?_⟩) hHeld ?_ ?_
  rotate_left
  · rintro w' s0
    go_simp
    rw [run_index_step1]
    simp only [Result.andThen_ok]
    with_reducible rfl
  rotate_left
  · simp only [Act.put, List.setIfInBounds_toArray, List.set_cons_zero, List.set_cons_succ]
    rfl
  refine last_ (i := 7) (N := (some 53)) #[true, true, true, true, true, true, true, true, false] rfl rfl (by kernel_rfl) (by decide) (fun K hK => ?_)
  go_simp
  go_at_call 43
  refine (HCALL.out wx HX.out FX.out).mono ?_
  rintro e w8 ⟨r, rfl, h8⟩
  have H8 := Aside0.mk h8
  clear h8
  dsimp only
  refine hK.out _ _ ?_
  clear hK K
  refine pure_ (i := 8) (N := (some 2)) (v := ?_) (a' := ?_) #[true, true, true, true, true, true, true, true, true] rfl rfl (by kernel_rfl) (fun _ _ _ h => h) (Or.inl ⟨by rfl, ?_⟩) ?_ ?_
  rotate_left
  · intro w'
    go_simp
    with_reducible rfl
  rotate_left
  · simp only [Act.put, List.setIfInBounds_toArray, List.set_cons_zero, List.set_cons_succ]
    rfl
  refine done_ (by kernel_rfl) ?_
  go_wp2_with fail
  go_ret
  exact ⟨r, rfl, H8.out⟩
set_option maxRecDepth 100000 in
set_option maxHeartbeats 6400000 in
theorem sstep_go2 (B : Nat) (w : World) (ga l o : Nat) (a : Ar) (bs : List Nat) (ns : Nat → SNode) (op : SOp) (hs : KS B w ga l o a bs ns op) (hbg : op.begun = true) (hd : op.does = 2) (R : Bool → World → Prop) (hcall : ∀ W, KS B W ga l o a bs ns op → FrO TK o B w W → Calls Tryd.prog 44 #[.pointer (some ⟨o, 0, none⟩)] W (fun e w' => ∃ r : Bool, e = .returned (.bool r) ∧ R r w')) :
    Calls Tryd.prog 18 #[.pointer (some ⟨o, 0, none⟩)] w fun e w' => ∃ r : Bool, e = .returned (.bool r) ∧ R r w' := by
  have H := Aside0.mk hs
  have HD := Aside0.mk hd
  have HCALL := Aside0.mk hcall
  have F := Aside0.mk (FrO.refl TK o B w)
  have c22 := hs.so.c22
  have c23 := hs.so.c23
  rw [hd] at c22
  rw [hbg] at c23
  clear hs hcall hd
  go_enter Tryd.func18, Tryd.ntmps18
  go_wp2_with fail
  clear c22 c23
  have c22 : w.cell? ⟨o, 22, none⟩ = some (.int .i64 2) := by have := H.out.so.c22; rw [HD.out] at this; exact this
  refine start_ (n := 9) (ds := [7]) (S := fun w' => w'.cell? ⟨o, 22, none⟩ = some (.int .i64 2)) #[false, false, false, false, false, false, false, false, false] (by kernel_rfl) rfl rfl c22 (fun hHeld => ?_)
  refine take_ (i := 1) (N := (some 47)) (v := ?_) (a' := ?_) #[false, true, false, false, false, false, false, false, false] rfl rfl (by kernel_rfl) (fun _ _ _ h => h) (Or.inl ⟨by rfl, ?_⟩) hHeld ?_ ?_
  rotate_left
  · rintro w' s0
    go_simp
    with_reducible rfl
  rotate_left
  · simp only [Act.put, List.setIfInBounds_toArray, List.set_cons_zero, List.set_cons_succ]
    rfl
  refine take_ (i := 2) (N := (some 48)) (v := ?_) (a' := ?_) #[false, true, true, false, false, false, false, false, false] rfl rfl (by kernel_rfl) (fun _ _ _ h => h) (Or.inl ⟨by rfl, ?_⟩) hHeld ?_ ?_
  rotate_left
  · rintro w' s0
    go_simp
    with_reducible rfl
  rotate_left
  · simp only [Act.put, List.setIfInBounds_toArray, List.set_cons_zero, List.set_cons_succ]
    rfl
  refine take_ (i := 3) (N := (some 49)) (v := ?_) (a' := ?_) #[false, true, true, true, false, false, false, false, false] rfl rfl (by kernel_rfl) (fun _ _ _ h => h) (Or.inl ⟨by rfl, ?_⟩) hHeld ?_ ?_
  rotate_left
  · rintro w' s0
    go_simp
    with_reducible rfl
  rotate_left
  · simp only [Act.put, List.setIfInBounds_toArray, List.set_cons_zero, List.set_cons_succ]
    rfl
  refine take_ (i := 4) (N := (some 50)) (v := ?_) (a' := ?_) #[false, true, true, true, true, false, false, false, false] rfl rfl (by kernel_rfl) (fun _ _ _ h => h) (Or.inl ⟨by rfl, ?_⟩) hHeld ?_ ?_
  rotate_left
  · rintro w' s0
    go_simp
    with_reducible rfl
  rotate_left
  · simp only [Act.put, List.setIfInBounds_toArray, List.set_cons_zero, List.set_cons_succ]
    rfl
  refine take_ (i := 6) (N := (some 52)) (v := ?_) (a' := ?_) #[false, true, true, true, true, false, true, false, false] rfl rfl (by kernel_rfl) (fun _ _ _ h => h) (Or.inl ⟨by rfl, ?_⟩) hHeld ?_ ?_
  rotate_left
  · rintro w' s0
    go_simp
    with_reducible rfl
  rotate_left
  · simp only [Act.put, List.setIfInBounds_toArray, List.set_cons_zero, List.set_cons_succ]
    rfl
  refine one_ (i := 0) (N := (some 46)) #[true, true, true, true, true, false, true, false, false] rfl rfl (by kernel_rfl) (by decide) (fun K hK => ?_)
  go_simp
  go_at_call 35
  refine (steps_any w.drew).mono ?_
  rintro e wx ⟨rfl, hb⟩
  have HX := Aside0.mk (H.out.drew.below hb)
  have FX := Aside0.mk (F.out.drew.fresh (Nat.le_trans H.out.so.ge (Nat.le_of_lt H.out.so.blk.lt)) hb)
  clear hb
  have d22 : wx.cell? ⟨o, 22, none⟩ = some (.int .i64 2) := by have := HX.out.so.c22; rw [HD.out] at this; exact this
  dsimp only
  refine hK.out _ _ d22 (fun hHeld => ?_)
  clear hK K d22
  refine take_ (i := 5) (N := (some 51)) (v := ?_) (a' := ?_) #[true, true, true, true, true, true, true, false, false] rfl rfl (by kernel_rfl) (fun _ _ _ h => h) (Or.inl ⟨by rfl, ?_⟩) hHeld ?_ ?_
  rotate_left
  · rintro w' s0
    go_simp
    rw [run_index_step2]
    simp only [Result.andThen_ok]
    with_reducible rfl
  rotate_left
  · simp only [Act.put, List.setIfInBounds_toArray, List.set_cons_zero, List.set_cons_succ]
    rfl
  refine last_ (i := 7) (N := (some 53)) #[true, true, true, true, true, true, true, true, false] rfl rfl (by kernel_rfl) (by decide) (fun K hK => ?_)
  go_simp
  go_at_call 44
  refine (HCALL.out wx HX.out FX.out).mono ?_
  rintro e w8 ⟨r, rfl, h8⟩
  have H8 := Aside0.mk h8
  clear h8
  dsimp only
  refine hK.out _ _ ?_
  clear hK K
  refine pure_ (i := 8) (N := (some 2)) (v := ?_) (a' := ?_) #[true, true, true, true, true, true, true, true, true] rfl rfl (by kernel_rfl) (fun _ _ _ h => h) (Or.inl ⟨by rfl, ?_⟩) ?_ ?_
  rotate_left
  · intro w'
    go_simp
    with_reducible rfl
  rotate_left
  · simp only [Act.put, List.setIfInBounds_toArray, List.set_cons_zero, List.set_cons_succ]
    rfl
  refine done_ (by kernel_rfl) ?_
  go_wp2_with fail
  go_ret
  exact ⟨r, rfl, H8.out⟩
end Go.Proofs.YtmemkmnnededgaaDoor.H
