/- Contracts of the program's package record: what PutCommit does with each write. -/
import Derived.Test.YtmemkmnnededgaaHC
namespace Go.Proofs.Ytmemkmnnededgaa.H
open Go.RowKit Go.Proofs.YtmemkmnnededgaaW.PrintWords Go.Proofs.YtmemkmnnededgaaW.PrintLast Go.Proofs.YtmemkmnnededgaaW.PrintMore
attribute [local go_sem] max2_int min2_int max_two min_two max_three min_three max_four min_four
set_option linter.unusedVariables false
set_option linter.unusedSimpArgs false

structure W27 where
  key : ByteArray
  val : ByteArray
  gone : Bool
def k27 : Kd W27 := Kd.iso (Kd.pair Kd.string (Kd.pair Kd.string Kd.bool)) (fun x : W27 => (x.key, x.val, x.gone))
def W27.v (x : W27) : Value := .agg #[.string x.key, .string x.val, .bool x.gone]
def wB (x : W27) : List Int := if x.gone then 1 :: tb x.key else 0 :: (tb x.key ++ tb x.val)

set_option maxRecDepth 100000 in
set_option maxHeartbeats 3200000 in
theorem c28_gone (B g cw : Nat) (xs : List Int) (key val : ByteArray) (w : World) (hw : WrAt B w g xs) (hcw : w.heap[cw]? = some (.cells #[.pointer (some ⟨g, 0, none⟩)] 58 (0, 0))) (hk : key.size ≤ 1000) (hv : val.size ≤ 1000) (hl : xs.length < 140737488350000) :
    Calls Try.prog 28 #[.agg #[.string key, .string val, .bool true], .pointer (some ⟨cw, 0, none⟩)] w fun e w' => e = .returned (.tuple #[]) ∧ WrAt B w' g (xs ++ (1 :: tb key)) ∧ FrT TW B w w' := by
  obtain ⟨hge, v, hb, ho⟩ := hw
  obtain ⟨A, c, rfl, hc, hr⟩ := Kd.R_reads ho
  have HB := Aside0.mk hb
  have HCW := Aside0.mk hcw
  have HO := Aside0.mk ho
  have lg := blk_lt hb
  clear hb hcw ho hr
  go_enter Try.func28, Try.ntmps28
  go_wp2_with fail
  have HBa := Aside0.mk (blk_alloc HB.out (.cells #[.string key, .string val, .bool true] 27))
  have HCa := Aside0.mk (blk_alloc HCW.out (.cells #[.string key, .string val, .bool true] 27))
  have HOa := Aside0.mk (Kd.R_alloc HO.out (.cells #[.string key, .string val, .bool true] 27))
  have HFa := Aside0.mk ((FrT.refl TW B w).alloc (Nat.le_trans hge (Nat.le_of_lt lg)) (.cells #[.string key, .string val, .bool true] 27))
  have HXa := Aside0.mk (blk_new w (.cells #[.string key, .string val, .bool true] 27))
  generalize (w.alloc (.cells #[.string key, .string val, .bool true] 27)) = wa at *
  have h1 : wa.cell? ⟨g, 0, none⟩ = some (.slice A xs.length c) := (blk_cell HBa.out 0).trans rfl
  have h2 : wa.cell? ⟨cw, 0, none⟩ = some (.pointer (some ⟨g, 0, none⟩)) := (blk_cell HCa.out 0).trans rfl
  have lg2 : g < wa.heap.size := blk_lt HBa.out
  have lc2 : cw < wa.heap.size := blk_lt HCa.out
  refine start_ (n := 10) (ds := [9]) (S := fun w' => w'.cell? ⟨g, 0, none⟩ = some (.slice A xs.length c) ∧ w'.cell? ⟨cw, 0, none⟩ = some (.pointer (some ⟨g, 0, none⟩))) #[false, false, false, false, false, false, false, false, false, false] (by kernel_rfl) rfl rfl ⟨h1, h2⟩ (fun hHeld => ?_)
  refine take_ (i := 0) (N := (some 5)) (v := ?_) (a' := ?_) #[true, false, false, false, false, false, false, false, false, false] rfl rfl (by kernel_rfl) (fun _ _ _ h => h) (Or.inl ⟨by rfl, ?_⟩) hHeld ?_ ?_
  rotate_left
  · rintro w' ⟨s0, s1⟩
    go_simp
    with_reducible rfl
  rotate_left
  · simp only [Act.put, List.setIfInBounds_toArray, List.set_cons_zero, List.set_cons_succ]
    rfl
  refine take_ (i := 1) (N := (some 6)) (v := ?_) (a' := ?_) #[true, true, false, false, false, false, false, false, false, false] rfl rfl (by kernel_rfl) (fun _ _ _ h => h) (Or.inl ⟨by rfl, ?_⟩) hHeld ?_ ?_
  rotate_left
  · rintro w' ⟨s0, s1⟩
    go_simp
    with_reducible rfl
  rotate_left
  · simp only [Act.put, List.setIfInBounds_toArray, List.set_cons_zero, List.set_cons_succ]
    rfl
  refine take_ (i := 2) (N := (some 7)) (v := ?_) (a' := ?_) #[true, true, true, false, false, false, false, false, false, false] rfl rfl (by kernel_rfl) (fun _ _ _ h => h) (Or.inl ⟨by rfl, ?_⟩) hHeld ?_ ?_
  rotate_left
  · rintro w' ⟨s0, s1⟩
    go_simp
    with_reducible rfl
  rotate_left
  · simp only [Act.put, List.setIfInBounds_toArray, List.set_cons_zero, List.set_cons_succ]
    rfl
  refine take_ (i := 3) (N := (some 8)) (v := ?_) (a' := ?_) #[true, true, true, true, false, false, false, false, false, false] rfl rfl (by kernel_rfl) (fun _ _ _ h => h) (Or.inl ⟨by rfl, ?_⟩) hHeld ?_ ?_
  rotate_left
  · rintro w' ⟨s0, s1⟩
    go_simp
    with_reducible rfl
  rotate_left
  · simp only [Act.put, List.setIfInBounds_toArray, List.set_cons_zero, List.set_cons_succ]
    rfl
  refine take_ (i := 4) (N := (some 9)) (v := ?_) (a' := ?_) #[true, true, true, true, true, false, false, false, false, false] rfl rfl (by kernel_rfl) (fun _ _ _ h => h) (Or.inl ⟨by rfl, ?_⟩) hHeld ?_ ?_
  rotate_left
  · rintro w' ⟨s0, s1⟩
    go_simp
    with_reducible rfl
  rotate_left
  · simp only [Act.put, List.setIfInBounds_toArray, List.set_cons_zero, List.set_cons_succ]
    rfl
  refine one_ (i := 5) (N := (some 10)) #[true, true, true, true, true, true, false, false, false, false] rfl rfl (by kernel_rfl) (by decide) (fun K hK => ?_)
  go_simp
  refine hK.out _ _ ⟨(blk_cell (blk_alloc HBa.out _) 0).trans rfl, (blk_cell (blk_alloc HCa.out _) 0).trans rfl⟩ (fun hHeld => ?_)
  clear hK K
  refine one_ (i := 6) (N := (some 11)) #[true, true, true, true, true, true, true, false, false, false] rfl rfl (by kernel_rfl) (by decide) (fun K hK => ?_)
  refine Kd.R_append_step (Kd.int .u8) (w0 := w) B (by rfl) (.tmp 9) (.tmp 10) 28 5 (.int .u8 0) 1 (by rfl) Try.underlying28 info5 rfl (by decide) (by decide) (.slice A xs.length c) xs 1 [.int .u8 1] (fun _ => True) (fun _ => False) (by rfl) (by rfl) rfl (fun _ h => h.elim) (fun _ _ => trivial) (Kd.R_drew HOa.out) (below_drew HFa.out.below) (by simp; omega) (by omega) ?_
  intro v1 w1 ho1 hb1 hg1 hat1
  obtain ⟨A1, c1, rfl⟩ := Kd.R_slice ho1
  generalize hL : (xs ++ [(1 : Int)]).length = L at *
  have HL := Aside0.mk hL
  clear hL
  have HB1 := Aside0.mk (blk_grown (blk_drew HBa.out) hg1 (Kd.R_ne HOa.out HBa.out (by decide)))
  have HC1 := Aside0.mk (blk_grown (blk_drew HCa.out) hg1 (Kd.R_ne HOa.out HCa.out (by decide)))
  have HX1 := Aside0.mk (blk_grown (blk_drew HXa.out) hg1 (Kd.R_ne HOa.out HXa.out (by decide)))
  have HO1 := Aside0.mk ho1
  have HF1 := Aside0.mk (HFa.out.drew.grown (Kd.R_drew HOa.out) (by simp [TW]) (Nat.le_refl _) (by simp; omega) hg1)
  clear ho1 hb1 hg1 hat1
  refine hK.out _ _ ⟨(blk_cell HB1.out 0).trans rfl, (blk_cell HC1.out 0).trans rfl⟩ (fun hHeld => ?_)
  clear hK K
  refine take_ (i := 7) (N := (some 12)) (v := ?_) (a' := ?_) #[true, true, true, true, true, true, true, true, false, false] rfl rfl (by kernel_rfl) (fun _ _ _ h => h) (Or.inl ⟨by rfl, ?_⟩) hHeld ?_ ?_
  rotate_left
  · rintro w' ⟨s0, s1⟩
    go_simp
    with_reducible rfl
  rotate_left
  · simp only [Act.put, List.setIfInBounds_toArray, List.set_cons_zero, List.set_cons_succ]
    rfl
  refine take_ (i := 8) (N := (some 13)) (v := ?_) (a' := ?_) #[true, true, true, true, true, true, true, true, true, false] rfl rfl (by kernel_rfl) (fun _ _ _ h => h) (Or.inl ⟨by rfl, ?_⟩) hHeld ?_ ?_
  rotate_left
  · rintro w' ⟨s0, s1⟩
    go_simp
    with_reducible rfl
  rotate_left
  · simp only [Act.put, List.setIfInBounds_toArray, List.set_cons_zero, List.set_cons_succ]
    rfl
  refine last_ (i := 9) (N := none) #[true, true, true, true, true, true, true, true, true, true] rfl rfl (by kernel_rfl) (by decide) (fun K hK => ?_)
  have hf1 := blk_frozen HB1.out 0
  have hc1 := (blk_cell HB1.out 0).trans rfl
  go_simp
  refine hK.out _ _ ?_
  clear hK K hHeld hf1 hc1
  refine done_ (by kernel_rfl) ?_
  have HC2 := Aside0.mk (blk_far HC1.out (p := ⟨g, 0, none⟩) (blk_ne HC1.out HB1.out (by decide)) (.slice A1 L c1))
  have HX2 := Aside0.mk (blk_far HX1.out (p := ⟨g, 0, none⟩) (blk_ne HX1.out HB1.out (by decide)) (.slice A1 L c1))
  have HW2 := Aside0.mk (show WrAt B (w1.setCell ⟨g, 0, none⟩ (.slice A1 L c1)) g (xs ++ [1]) from ⟨hge, _, blk_put HB1.out 0 _ rfl, Kd.R_set HO1.out HB1.out (by simp [Kd.int, Kd.scalar]) 0 _⟩)
  have HF2 := Aside0.mk (HF1.out.setCell HB1.out (by simp [TW]) hge 0 (.slice A1 L c1))
  clear h1 h2 lg2 lc2
  generalize (w1.setCell ⟨g, 0, none⟩ (.slice A1 L c1)) = w2 at *
  have hc2 : w2.cell? ⟨cw, 0, none⟩ = some (.pointer (some ⟨g, 0, none⟩)) := (blk_cell HC2.out 0).trans rfl
  have hx2 : w2.cell? ⟨w.heap.size, 0, none⟩ = some (.string key) := (blk_cell HX2.out 0).trans rfl
  clear HB1 HC1 HX1 HO1 HF1 HBa HCa HOa HFa HXa HL
  go_wp2_with fail
  refine (wtext_any B g _ key _ HW2.out (by omega) (by simp; omega)).mono ?_
  rintro e w3 ⟨rfl, hw3, hf3⟩
  have HW3 := Aside0.mk hw3
  have HF3 := Aside0.mk (HF2.out.trans hf3)
  have HC3 := Aside0.mk (hf3.blk HC2.out (by simp [TW]))
  have HX3 := Aside0.mk (hf3.blk HX2.out (by simp [TW]))
  clear hw3 hf3 hc2 hx2
  go_wp2_with fail
  refine bodyPost_ret (results_none rfl _ _ _) rfl ?_
  refine ⟨rfl, ?_, HF3.out⟩
  have := HW3.out
  rwa [List.append_assoc] at this

set_option maxRecDepth 100000 in
set_option maxHeartbeats 3200000 in
theorem c28_kept (B g cw : Nat) (xs : List Int) (key val : ByteArray) (w : World) (hw : WrAt B w g xs) (hcw : w.heap[cw]? = some (.cells #[.pointer (some ⟨g, 0, none⟩)] 58 (0, 0))) (hk : key.size ≤ 1000) (hv : val.size ≤ 1000) (hl : xs.length < 140737488350000) :
    Calls Try.prog 28 #[.agg #[.string key, .string val, .bool false], .pointer (some ⟨cw, 0, none⟩)] w fun e w' => e = .returned (.tuple #[]) ∧ WrAt B w' g (xs ++ (0 :: (tb key ++ tb val))) ∧ FrT TW B w w' := by
  obtain ⟨hge, v, hb, ho⟩ := hw
  obtain ⟨A, c, rfl, hc, hr⟩ := Kd.R_reads ho
  have HB := Aside0.mk hb
  have HCW := Aside0.mk hcw
  have HO := Aside0.mk ho
  have lg := blk_lt hb
  clear hb hcw ho hr
  go_enter Try.func28, Try.ntmps28
  go_wp2_with fail
  have HBa := Aside0.mk (blk_alloc HB.out (.cells #[.string key, .string val, .bool false] 27))
  have HCa := Aside0.mk (blk_alloc HCW.out (.cells #[.string key, .string val, .bool false] 27))
  have HOa := Aside0.mk (Kd.R_alloc HO.out (.cells #[.string key, .string val, .bool false] 27))
  have HFa := Aside0.mk ((FrT.refl TW B w).alloc (Nat.le_trans hge (Nat.le_of_lt lg)) (.cells #[.string key, .string val, .bool false] 27))
  have HXa := Aside0.mk (blk_new w (.cells #[.string key, .string val, .bool false] 27))
  generalize (w.alloc (.cells #[.string key, .string val, .bool false] 27)) = wa at *
  have h1 : wa.cell? ⟨g, 0, none⟩ = some (.slice A xs.length c) := (blk_cell HBa.out 0).trans rfl
  have h2 : wa.cell? ⟨cw, 0, none⟩ = some (.pointer (some ⟨g, 0, none⟩)) := (blk_cell HCa.out 0).trans rfl
  have lg2 : g < wa.heap.size := blk_lt HBa.out
  have lc2 : cw < wa.heap.size := blk_lt HCa.out
  refine start_ (n := 10) (ds := [9]) (S := fun w' => w'.cell? ⟨g, 0, none⟩ = some (.slice A xs.length c) ∧ w'.cell? ⟨cw, 0, none⟩ = some (.pointer (some ⟨g, 0, none⟩))) #[false, false, false, false, false, false, false, false, false, false] (by kernel_rfl) rfl rfl ⟨h1, h2⟩ (fun hHeld => ?_)
  refine take_ (i := 0) (N := (some 18)) (v := ?_) (a' := ?_) #[true, false, false, false, false, false, false, false, false, false] rfl rfl (by kernel_rfl) (fun _ _ _ h => h) (Or.inl ⟨by rfl, ?_⟩) hHeld ?_ ?_
  rotate_left
  · rintro w' ⟨s0, s1⟩
    go_simp
    with_reducible rfl
  rotate_left
  · simp only [Act.put, List.setIfInBounds_toArray, List.set_cons_zero, List.set_cons_succ]
    rfl
  refine take_ (i := 1) (N := (some 19)) (v := ?_) (a' := ?_) #[true, true, false, false, false, false, false, false, false, false] rfl rfl (by kernel_rfl) (fun _ _ _ h => h) (Or.inl ⟨by rfl, ?_⟩) hHeld ?_ ?_
  rotate_left
  · rintro w' ⟨s0, s1⟩
    go_simp
    with_reducible rfl
  rotate_left
  · simp only [Act.put, List.setIfInBounds_toArray, List.set_cons_zero, List.set_cons_succ]
    rfl
  refine take_ (i := 2) (N := (some 20)) (v := ?_) (a' := ?_) #[true, true, true, false, false, false, false, false, false, false] rfl rfl (by kernel_rfl) (fun _ _ _ h => h) (Or.inl ⟨by rfl, ?_⟩) hHeld ?_ ?_
  rotate_left
  · rintro w' ⟨s0, s1⟩
    go_simp
    with_reducible rfl
  rotate_left
  · simp only [Act.put, List.setIfInBounds_toArray, List.set_cons_zero, List.set_cons_succ]
    rfl
  refine take_ (i := 3) (N := (some 21)) (v := ?_) (a' := ?_) #[true, true, true, true, false, false, false, false, false, false] rfl rfl (by kernel_rfl) (fun _ _ _ h => h) (Or.inl ⟨by rfl, ?_⟩) hHeld ?_ ?_
  rotate_left
  · rintro w' ⟨s0, s1⟩
    go_simp
    with_reducible rfl
  rotate_left
  · simp only [Act.put, List.setIfInBounds_toArray, List.set_cons_zero, List.set_cons_succ]
    rfl
  refine take_ (i := 4) (N := (some 22)) (v := ?_) (a' := ?_) #[true, true, true, true, true, false, false, false, false, false] rfl rfl (by kernel_rfl) (fun _ _ _ h => h) (Or.inl ⟨by rfl, ?_⟩) hHeld ?_ ?_
  rotate_left
  · rintro w' ⟨s0, s1⟩
    go_simp
    with_reducible rfl
  rotate_left
  · simp only [Act.put, List.setIfInBounds_toArray, List.set_cons_zero, List.set_cons_succ]
    rfl
  refine one_ (i := 5) (N := (some 23)) #[true, true, true, true, true, true, false, false, false, false] rfl rfl (by kernel_rfl) (by decide) (fun K hK => ?_)
  go_simp
  refine hK.out _ _ ⟨(blk_cell (blk_alloc HBa.out _) 0).trans rfl, (blk_cell (blk_alloc HCa.out _) 0).trans rfl⟩ (fun hHeld => ?_)
  clear hK K
  refine one_ (i := 6) (N := (some 24)) #[true, true, true, true, true, true, true, false, false, false] rfl rfl (by kernel_rfl) (by decide) (fun K hK => ?_)
  refine Kd.R_append_step (Kd.int .u8) (w0 := w) B (by rfl) (.tmp 22) (.tmp 23) 28 5 (.int .u8 0) 1 (by rfl) Try.underlying28 info5 rfl (by decide) (by decide) (.slice A xs.length c) xs 0 [.int .u8 0] (fun _ => True) (fun _ => False) (by rfl) (by rfl) rfl (fun _ h => h.elim) (fun _ _ => trivial) (Kd.R_drew HOa.out) (below_drew HFa.out.below) (by simp; omega) (by omega) ?_
  intro v1 w1 ho1 hb1 hg1 hat1
  obtain ⟨A1, c1, rfl⟩ := Kd.R_slice ho1
  generalize hL : (xs ++ [(0 : Int)]).length = L at *
  have HL := Aside0.mk hL
  clear hL
  have HB1 := Aside0.mk (blk_grown (blk_drew HBa.out) hg1 (Kd.R_ne HOa.out HBa.out (by decide)))
  have HC1 := Aside0.mk (blk_grown (blk_drew HCa.out) hg1 (Kd.R_ne HOa.out HCa.out (by decide)))
  have HX1 := Aside0.mk (blk_grown (blk_drew HXa.out) hg1 (Kd.R_ne HOa.out HXa.out (by decide)))
  have HO1 := Aside0.mk ho1
  have HF1 := Aside0.mk (HFa.out.drew.grown (Kd.R_drew HOa.out) (by simp [TW]) (Nat.le_refl _) (by simp; omega) hg1)
  clear ho1 hb1 hg1 hat1
  refine hK.out _ _ ⟨(blk_cell HB1.out 0).trans rfl, (blk_cell HC1.out 0).trans rfl⟩ (fun hHeld => ?_)
  clear hK K
  refine take_ (i := 7) (N := (some 25)) (v := ?_) (a' := ?_) #[true, true, true, true, true, true, true, true, false, false] rfl rfl (by kernel_rfl) (fun _ _ _ h => h) (Or.inl ⟨by rfl, ?_⟩) hHeld ?_ ?_
  rotate_left
  · rintro w' ⟨s0, s1⟩
    go_simp
    with_reducible rfl
  rotate_left
  · simp only [Act.put, List.setIfInBounds_toArray, List.set_cons_zero, List.set_cons_succ]
    rfl
  refine take_ (i := 8) (N := (some 26)) (v := ?_) (a' := ?_) #[true, true, true, true, true, true, true, true, true, false] rfl rfl (by kernel_rfl) (fun _ _ _ h => h) (Or.inl ⟨by rfl, ?_⟩) hHeld ?_ ?_
  rotate_left
  · rintro w' ⟨s0, s1⟩
    go_simp
    with_reducible rfl
  rotate_left
  · simp only [Act.put, List.setIfInBounds_toArray, List.set_cons_zero, List.set_cons_succ]
    rfl
  refine last_ (i := 9) (N := none) #[true, true, true, true, true, true, true, true, true, true] rfl rfl (by kernel_rfl) (by decide) (fun K hK => ?_)
  have hf1 := blk_frozen HB1.out 0
  have hc1 := (blk_cell HB1.out 0).trans rfl
  go_simp
  refine hK.out _ _ ?_
  clear hK K hHeld hf1 hc1
  refine done_ (by kernel_rfl) ?_
  have HC2 := Aside0.mk (blk_far HC1.out (p := ⟨g, 0, none⟩) (blk_ne HC1.out HB1.out (by decide)) (.slice A1 L c1))
  have HX2 := Aside0.mk (blk_far HX1.out (p := ⟨g, 0, none⟩) (blk_ne HX1.out HB1.out (by decide)) (.slice A1 L c1))
  have HW2 := Aside0.mk (show WrAt B (w1.setCell ⟨g, 0, none⟩ (.slice A1 L c1)) g (xs ++ [0]) from ⟨hge, _, blk_put HB1.out 0 _ rfl, Kd.R_set HO1.out HB1.out (by simp [Kd.int, Kd.scalar]) 0 _⟩)
  have HF2 := Aside0.mk (HF1.out.setCell HB1.out (by simp [TW]) hge 0 (.slice A1 L c1))
  clear h1 h2 lg2 lc2
  generalize (w1.setCell ⟨g, 0, none⟩ (.slice A1 L c1)) = w2 at *
  have hc2 : w2.cell? ⟨cw, 0, none⟩ = some (.pointer (some ⟨g, 0, none⟩)) := (blk_cell HC2.out 0).trans rfl
  have hx2 : w2.cell? ⟨w.heap.size, 0, none⟩ = some (.string key) := (blk_cell HX2.out 0).trans rfl
  clear HB1 HC1 HX1 HO1 HF1 HBa HCa HOa HFa HXa HL
  go_wp2_with fail
  refine (wtext_any B g _ key _ HW2.out (by omega) (by simp; omega)).mono ?_
  rintro e w3 ⟨rfl, hw3, hf3⟩
  have HW3 := Aside0.mk hw3
  have HF3 := Aside0.mk (HF2.out.trans hf3)
  have HC3 := Aside0.mk (hf3.blk HC2.out (by simp [TW]))
  have HX3 := Aside0.mk (hf3.blk HX2.out (by simp [TW]))
  clear hw3 hf3 hc2 hx2
  have hc3 : w3.cell? ⟨cw, 0, none⟩ = some (.pointer (some ⟨g, 0, none⟩)) := (blk_cell HC3.out 0).trans rfl
  have hx3 : w3.cell? ⟨w.heap.size, 1, none⟩ = some (.string val) := (blk_cell HX3.out 1).trans rfl
  have HTL := Aside0.mk (tb_len key (by omega))
  go_wp2_with fail
  refine (wtext_any B g _ val _ HW3.out (by omega) (by have := HTL.out; simp; omega)).mono ?_
  rintro e w4 ⟨rfl, hw4, hf4⟩
  have HW4 := Aside0.mk hw4
  have HF4 := Aside0.mk (HF3.out.trans hf4)
  clear hw4 hf4 hc3 hx3
  go_wp2_with fail
  go_end0
  refine ⟨rfl, ?_, HF4.out⟩
  have := HW4.out
  rw [List.append_assoc, List.append_assoc] at this
  exact this

theorem c28_any (B g cw : Nat) (xs : List Int) (x : W27) (w : World) (hw : WrAt B w g xs) (hcw : w.heap[cw]? = some (.cells #[.pointer (some ⟨g, 0, none⟩)] 58 (0, 0))) (hk : x.key.size ≤ 1000) (hv : x.val.size ≤ 1000) (hl : xs.length < 140737488350000) :
    Calls Try.prog 28 #[x.v, .pointer (some ⟨cw, 0, none⟩)] w fun e w' => e = .returned (.tuple #[]) ∧ WrAt B w' g (xs ++ wB x) ∧ FrT TW B w w' := by
  obtain ⟨key, val, gone⟩ := x
  cases gone with
  | true => exact c28_gone B g cw xs key val w hw hcw hk hv hl
  | false => exact c28_kept B g cw xs key val w hw hcw hk hv hl
end Go.Proofs.Ytmemkmnnededgaa.H
