/- Contracts of the reference: PutCommit. -/
import Derived.Test.YtmemkmnnededgaaHRB
namespace Go.Proofs.Ytmemkmnnededgaa.H
open Go.RowKit Go.Proofs.YtmemkmnnededgaaW.PrintWords Go.Proofs.YtmemkmnnededgaaW.PrintLast Go.Proofs.YtmemkmnnededgaaW.PrintMore
attribute [local go_sem] max2_int min2_int max_two min_two max_three min_three max_four min_four
set_option linter.unusedVariables false
set_option linter.unusedSimpArgs false

set_option maxRecDepth 100000 in
set_option maxHeartbeats 6400000 in
theorem refPutCommit_any (t : Int) (l : List W27) (A : Option Addr) (c : Nat) (w : World) (hr : k27.C w A l.length l) (hn : l.length < 9223372036854775807) :
    Calls Try.prog 10 #[.agg #[.int .i64 t, .slice A l.length c]] w fun e w' => ∃ v : Value, e = .returned (.tuple #[v, .int .i64 (putC t l).2]) ∧ U8.R 5 w' w.heap.size (fun _ => True) v (putC t l).1 ∧ Below w.heap.size w w' := by
  have HR := Aside0.mk hr
  have HB := Aside0.mk (below_alloc (Below.refl w.heap.size w) (.cells #[.int .i64 t, .slice A l.length c] 24))
  have HX := Aside0.mk (blk_new w (.cells #[.int .i64 t, .slice A l.length c] 24))
  have HNN := Aside0.mk hn
  clear hr
  cases hT : rightC t l with
  | false =>
    have HT := Aside0.mk hT
    clear hT
    go_enter Try.func10, Try.ntmps10
    go_wp2_with fail
    have hcall := refRightCommit_any t l A c _ (Kd.C_alloc HR.out (.cells #[.int .i64 t, .slice A l.length c] 24)) HNN.out
    rw [HT.out] at hcall
    refine hcall.mono ?_
    rintro e w1 ⟨rfl, hb⟩
    have HB1 := Aside0.mk (below_then HB.out HB.out.size hb)
    clear hb hcall
    go_wp2_with fail
    go_ret2
    exact ⟨_, by unfold putC; rw [if_neg (by rw [HT.out]; decide)]; rfl, by unfold putC; rw [if_neg (by rw [HT.out]; decide)]; exact Kd.R_nil _ _ _ _ _, HB1.out⟩
  | true =>
    have HT := Aside0.mk hT
    obtain ⟨hn64, hs⟩ := rightC_small t l hT
    have HS := Aside0.mk hs
    have HNL := Aside0.mk (nb_len t)
    have HNM := Aside0.mk (nb_len l.length)
    clear hT hs
    go_enter Try.func10, Try.ntmps10
    go_wp2_with fail
    have hcall := refRightCommit_any t l A c _ (Kd.C_alloc HR.out (.cells #[.int .i64 t, .slice A l.length c] 24)) HNN.out
    rw [HT.out] at hcall
    refine hcall.mono ?_
    rintro e w1 ⟨rfl, hb⟩
    have HB1 := Aside0.mk (below_then HB.out HB.out.size hb)
    have HX1 := Aside0.mk (blk_below HX.out hb)
    have x0 : (w1.alloc (.cells #[.int .u8 67] 5)).cell? ⟨w.heap.size, 0, none⟩ = some (.int .i64 t) := (blk_cell (blk_alloc HX1.out _) 0).trans rfl
    clear hb hcall HB HX
    go_wp2_with fail
    have HB1a := Aside0.mk (below_alloc HB1.out (.cells #[.int .u8 67] 5))
    have HX1a := Aside0.mk (blk_alloc HX1.out (.cells #[.int .u8 67] 5))
    refine (refnum_any t _ 1 [67] _ (C_lit8 w1 [67] _ 1 rfl rfl (by decide)) (by decide)).mono ?_
    rintro e w2 ⟨v2, rfl, ho, hb⟩
    have HB2 := Aside0.mk (below_then HB1a.out HB1a.out.size hb)
    have HX2 := Aside0.mk (blk_below HX1a.out hb)
    obtain ⟨A2, c2, rfl⟩ := Kd.R_slice ho
    have HO2 := Aside0.mk ho
    have x1 : w2.cell? ⟨w.heap.size, 1, none⟩ = some (.slice A l.length c) := (blk_cell HX2.out 1).trans rfl
    clear ho hb x0 HB1 HX1 HB1a HX1a
    go_wp2_with fail
    refine (refnum_any l.length A2 c2 ([67] ++ nb t) _ (Kd.R_reads' HO2.out).2.2 (by have := HNL.out; simp; omega)).mono ?_
    rintro e w3 ⟨v3, rfl, ho, hb⟩
    have HB3 := Aside0.mk (below_then HB2.out HB2.out.size hb)
    have HX3 := Aside0.mk (blk_below HX2.out hb)
    have HO3 := Aside0.mk (Kd.R_lower ho HB2.out.size)
    clear ho hb x1 HB2 HX2 HO2
    go_wp2_with fail
    go_loopw [5, 6] (fun v5 v6 w' => ∃ (k : Nat), v6 = .int .i64 k ∧ k ≤ l.length ∧ Aside0 (U8.R 5 w' w.heap.size (fun _ => True) v5 (67 :: (nb t ++ (nb l.length ++ wsB (l.take k))))) ∧ Aside0 (Below w.heap.size w w') ∧ Aside0 (w'.heap[w.heap.size]? = some (.cells #[.int .i64 t, .slice A l.length c] 24 (0, 0)))) (fun _ v6 _ => l.length - (intOf v6).toNat)
    case atStart => exact ⟨0, rfl, Nat.zero_le _, ⟨by simpa [wsB] using HO3.out⟩, HB3, HX3⟩
    case round =>
      obtain ⟨k, rfl, hk, HO, HB, HX⟩ := hrel
      have x1 : wr.cell? ⟨w.heap.size, 1, none⟩ = some (.slice A l.length c) := (blk_cell HX.out 1).trans rfl
      by_cases hlt : k < l.length
      · have r1 := Kd.C_below HR.out HB.out
        obtain ⟨ad, rfl, _⟩ := r1.2.2 (by omega)
        obtain ⟨p0, p1, p2⟩ := k27_cells r1 k hlt
        have HSN := Aside0.mk (wsB_snoc l k hlt)
        have HSK := Aside0.mk (HS.out _ (List.getElem_mem hlt))
        have HLN : Aside0 ((wsB (l.take k)).length ≤ 64 * 2100) := ⟨by
          have h1 := wsB_len (l.take k) (fun x hx => HS.out x (List.mem_of_mem_take hx))
          have h2 : (l.take k).length ≤ 64 := by rw [List.length_take]; omega
          omega⟩
        clear r1
        generalize l[k] = x at *
        obtain ⟨key, val, gone⟩ := x
        dsimp only at p0 p1 p2
        have HKL := Aside0.mk HSK.out.1
        have HVL := Aside0.mk HSK.out.2
        dsimp only at HKL HVL
        have HTL := Aside0.mk (tb_len key (by have := HKL.out; omega))
        generalize hY : (67 :: (nb t ++ (nb l.length ++ wsB (l.take k)))) = ys at *
        have HY := Aside0.mk hY
        have HYL := Aside0.mk (show ys.length ≤ 200000 by rw [← hY]; have := HNL.out; have := HNM.out; have := HLN.out; simp only [List.length_cons, List.length_append]; omega)
        clear hY
        cases gone with
        | true =>
          have HXa := Aside0.mk (blk_alloc HX.out (.cells #[.string key, .string val, .bool true] 27))
          have HYa := Aside0.mk (blk_new wr (.cells #[.string key, .string val, .bool true] 27))
          have HBa := Aside0.mk (below_alloc HB.out (.cells #[.string key, .string val, .bool true] 27))
          have HOa := Aside0.mk (Kd.R_alloc HO.out (.cells #[.string key, .string val, .bool true] 27))
          go_wp2_with fail
          clear p0 p1 p2 x1
          generalize wr.alloc (.cells #[.string key, .string val, .bool true] 27) = wa at *
          refine start_ (n := 7) (S := fun w' => w'.cell? ⟨wr.heap.size, 0, none⟩ = some (.string key)) (ds := []) #[false, false, false, false, false, false, false] (by kernel_rfl) rfl rfl ((blk_cell HYa.out 0).trans rfl) (fun hHeld => ?_)
          refine pure_ (i := 0) (N := some 35) (v := ?_) (a' := ?_) #[true, false, false, false, false, false, false] rfl rfl (by kernel_rfl) (fun _ _ _ h => h) (Or.inl ⟨by rfl, ?_⟩) ?_ ?_
          rotate_left
          · intro w'
            go_simp
            with_reducible rfl
          rotate_left
          · simp only [Act.put, List.setIfInBounds_toArray, List.set_cons_zero, List.set_cons_succ, i64_w, i32_w]
            rfl
          refine pure_ (i := 3) (N := some 38) (v := ?_) (a' := ?_) #[true, false, false, true, false, false, false] rfl rfl (by kernel_rfl) (fun _ _ _ h => h) (Or.inl ⟨by rfl, ?_⟩) ?_ ?_
          rotate_left
          · intro w'
            go_simp
            with_reducible rfl
          rotate_left
          · simp only [Act.put, List.setIfInBounds_toArray, List.set_cons_zero, List.set_cons_succ, i64_w, i32_w]
            rfl
          refine take_ (i := 4) (N := some 39) (v := ?_) (a' := ?_) #[true, false, false, true, true, false, false] rfl rfl (by kernel_rfl) (fun _ _ _ h => h) (Or.inl ⟨by rfl, ?_⟩) hHeld ?_ ?_
          rotate_left
          · rintro w' s0
            go_simp
            with_reducible rfl
          rotate_left
          · simp only [Act.put, List.setIfInBounds_toArray, List.set_cons_zero, List.set_cons_succ, i64_w, i32_w]
            rfl
          refine one_ (i := 1) (N := some 36) #[true, true, false, true, true, false, false] rfl rfl (by kernel_rfl) (by decide) (fun K hK => ?_)
          refine value_ (w1 := ?_) (v := ?_) (by rfl) rfl ?_ ?_
          rotate_left 2
          · go_simp
            constructor
            · rfl
            · rfl
          refine hK.out _ _ ((blk_cell (blk_alloc (blk_drew HYa.out) _) 0).trans rfl) (fun hHeld => ?_)
          clear hK K
          refine norm_ (a' := ?_) ?_ ?_
          rotate_left
          · show Act.put _ (some 36) _ = _
            simp only [Act.put, List.setIfInBounds_toArray, List.set_cons_zero, List.set_cons_succ, i64_w, i32_w]
            rfl
          refine one_ (i := 2) (N := some 37) #[true, true, true, true, true, false, false] rfl rfl (by kernel_rfl) (by decide) (fun K hK => ?_)
          refine Kd.R_append_step (Kd.int .u8) (w0 := w) w.heap.size (by rfl) (.tmp 35) (.tmp 36) 28 5 (.int .u8 0) 1 rfl Try.underlying28 info5 rfl (by decide) (by omega) _ ys 1 [.int .u8 1] (fun _ => True) (fun _ => False) rfl rfl rfl (fun _ hk => hk.elim) (fun _ _ => trivial) (Kd.R_drew HOa.out) (below_drew HBa.out) (by have := HBa.out.size; simpa using this) (by have := HYL.out; omega) ?_
          intro v1 w1 ho hb hg hat
          have HX1 := Aside0.mk (blk_grown (blk_drew HXa.out) hg (Kd.R_ne HOa.out HXa.out (by decide)))
          have HY1 := Aside0.mk (blk_grown (blk_drew HYa.out) hg (Kd.R_ne HOa.out HYa.out (by decide)))
          have HB1 := Aside0.mk hb
          have HO1 := Aside0.mk ho
          clear hb hg hat HXa HYa HBa HOa
          obtain ⟨A1, c1, rfl⟩ := Kd.R_slice ho
          clear ho
          refine hK.out _ _ ((blk_cell HY1.out 0).trans rfl) (fun hHeld => ?_)
          clear hK K
          refine norm_ (a' := ?_) ?_ ?_
          rotate_left
          · show Act.put _ (some 37) _ = _
            simp only [Act.put, List.setIfInBounds_toArray, List.set_cons_zero, List.set_cons_succ, i64_w, i32_w]
            rfl
          refine one_ (i := 5) (N := some 40) #[true, true, true, true, true, true, false] rfl rfl (by kernel_rfl) (by decide) (fun K hK => ?_)
          refine goes_ Try.func32 (by kernel_rfl) rfl #[.slice A1 (ys ++ [(1 : Int)]).length c1, .string key] (by rfl) rfl rfl (by (try simp only [List.map_toArray, List.map_cons, List.map_nil]); first | done | rfl) ?_
          refine (reftext_any key A1 c1 (ys ++ [(1 : Int)]) w1 (by have := HKL.out; omega) (Kd.R_reads' HO1.out).2.2 (by have := HKL.out; have := HYL.out; simp; omega)).mono ?_
          rintro e w2 ⟨v2, rfl, ho, hb⟩
          refine ⟨_, rfl, ?_⟩
          have HX2 := Aside0.mk (blk_below HX1.out hb)
          have HY2 := Aside0.mk (blk_below HY1.out hb)
          have HB2 := Aside0.mk (below_then HB1.out HB1.out.size hb)
          have HO2 := Aside0.mk (Kd.R_lower ho HB1.out.size)
          obtain ⟨A2, c2, rfl⟩ := Kd.R_slice ho
          clear ho hb HX1 HY1 HB1 HO1
          generalize hL2 : (ys ++ [(1 : Int)] ++ tb key).length = L2 at *
          have HL2 := Aside0.mk hL2
          clear hL2
          refine hK.out _ _ ((blk_cell HY2.out 0).trans rfl) (fun hHeld => ?_)
          clear hK K
          refine norm_ (a' := ?_) ?_ ?_
          rotate_left
          · show Act.put _ (some 40) _ = _
            simp only [Act.put, List.setIfInBounds_toArray, List.set_cons_zero, List.set_cons_succ, i64_w, i32_w]
            rfl
          refine pure_ (i := 6) (N := some 5) (v := ?_) (a' := ?_) #[true, true, true, true, true, true, true] rfl rfl (by kernel_rfl) (fun _ _ _ h => h) (Or.inl ⟨by rfl, ?_⟩) ?_ ?_
          rotate_left
          · intro w'
            go_simp
            with_reducible rfl
          rotate_left
          · simp only [Act.put, List.setIfInBounds_toArray, List.set_cons_zero, List.set_cons_succ, i64_w, i32_w]
            rfl
          refine done_ (by kernel_rfl) ?_
          go_wp2_with fail
          refine ⟨⟨k + 1, by simp, by omega, ⟨?_⟩, HB2, HX2⟩, by simp [intOf]; omega⟩
          have h1 := HO2.out
          rw [← HY.out] at h1
          have h2 := HSN.out
          rw [h2]
          simpa [wB] using h1
        | false =>
          have HXa := Aside0.mk (blk_alloc HX.out (.cells #[.string key, .string val, .bool false] 27))
          have HYa := Aside0.mk (blk_new wr (.cells #[.string key, .string val, .bool false] 27))
          have HBa := Aside0.mk (below_alloc HB.out (.cells #[.string key, .string val, .bool false] 27))
          have HOa := Aside0.mk (Kd.R_alloc HO.out (.cells #[.string key, .string val, .bool false] 27))
          go_wp2_with fail
          clear p0 p1 p2 x1
          generalize wr.alloc (.cells #[.string key, .string val, .bool false] 27) = wa at *
          refine start_ (n := 7) (S := fun w' => w'.cell? ⟨wr.heap.size, 0, none⟩ = some (.string key)) (ds := []) #[false, false, false, false, false, false, false] (by kernel_rfl) rfl rfl ((blk_cell HYa.out 0).trans rfl) (fun hHeld => ?_)
          refine pure_ (i := 0) (N := some 41) (v := ?_) (a' := ?_) #[true, false, false, false, false, false, false] rfl rfl (by kernel_rfl) (fun _ _ _ h => h) (Or.inl ⟨by rfl, ?_⟩) ?_ ?_
          rotate_left
          · intro w'
            go_simp
            with_reducible rfl
          rotate_left
          · simp only [Act.put, List.setIfInBounds_toArray, List.set_cons_zero, List.set_cons_succ, i64_w, i32_w]
            rfl
          refine pure_ (i := 3) (N := some 44) (v := ?_) (a' := ?_) #[true, false, false, true, false, false, false] rfl rfl (by kernel_rfl) (fun _ _ _ h => h) (Or.inl ⟨by rfl, ?_⟩) ?_ ?_
          rotate_left
          · intro w'
            go_simp
            with_reducible rfl
          rotate_left
          · simp only [Act.put, List.setIfInBounds_toArray, List.set_cons_zero, List.set_cons_succ, i64_w, i32_w]
            rfl
          refine take_ (i := 4) (N := some 45) (v := ?_) (a' := ?_) #[true, false, false, true, true, false, false] rfl rfl (by kernel_rfl) (fun _ _ _ h => h) (Or.inl ⟨by rfl, ?_⟩) hHeld ?_ ?_
          rotate_left
          · rintro w' s0
            go_simp
            with_reducible rfl
          rotate_left
          · simp only [Act.put, List.setIfInBounds_toArray, List.set_cons_zero, List.set_cons_succ, i64_w, i32_w]
            rfl
          refine one_ (i := 1) (N := some 42) #[true, true, false, true, true, false, false] rfl rfl (by kernel_rfl) (by decide) (fun K hK => ?_)
          refine value_ (w1 := ?_) (v := ?_) (by rfl) rfl ?_ ?_
          rotate_left 2
          · go_simp
            constructor
            · rfl
            · rfl
          refine hK.out _ _ ((blk_cell (blk_alloc (blk_drew HYa.out) _) 0).trans rfl) (fun hHeld => ?_)
          clear hK K
          refine norm_ (a' := ?_) ?_ ?_
          rotate_left
          · show Act.put _ (some 42) _ = _
            simp only [Act.put, List.setIfInBounds_toArray, List.set_cons_zero, List.set_cons_succ, i64_w, i32_w]
            rfl
          refine one_ (i := 2) (N := some 43) #[true, true, true, true, true, false, false] rfl rfl (by kernel_rfl) (by decide) (fun K hK => ?_)
          refine Kd.R_append_step (Kd.int .u8) (w0 := w) w.heap.size (by rfl) (.tmp 41) (.tmp 42) 28 5 (.int .u8 0) 1 rfl Try.underlying28 info5 rfl (by decide) (by omega) _ ys 0 [.int .u8 0] (fun _ => True) (fun _ => False) rfl rfl rfl (fun _ hk => hk.elim) (fun _ _ => trivial) (Kd.R_drew HOa.out) (below_drew HBa.out) (by have := HBa.out.size; simpa using this) (by have := HYL.out; omega) ?_
          intro v1 w1 ho hb hg hat
          have HX1 := Aside0.mk (blk_grown (blk_drew HXa.out) hg (Kd.R_ne HOa.out HXa.out (by decide)))
          have HY1 := Aside0.mk (blk_grown (blk_drew HYa.out) hg (Kd.R_ne HOa.out HYa.out (by decide)))
          have HB1 := Aside0.mk hb
          have HO1 := Aside0.mk ho
          clear hb hg hat HXa HYa HBa HOa
          obtain ⟨A1, c1, rfl⟩ := Kd.R_slice ho
          clear ho
          refine hK.out _ _ ((blk_cell HY1.out 0).trans rfl) (fun hHeld => ?_)
          clear hK K
          refine norm_ (a' := ?_) ?_ ?_
          rotate_left
          · show Act.put _ (some 43) _ = _
            simp only [Act.put, List.setIfInBounds_toArray, List.set_cons_zero, List.set_cons_succ, i64_w, i32_w]
            rfl
          refine one_ (i := 5) (N := some 46) #[true, true, true, true, true, true, false] rfl rfl (by kernel_rfl) (by decide) (fun K hK => ?_)
          refine goes_ Try.func32 (by kernel_rfl) rfl #[.slice A1 (ys ++ [(0 : Int)]).length c1, .string key] (by rfl) rfl rfl (by (try simp only [List.map_toArray, List.map_cons, List.map_nil]); first | done | rfl) ?_
          refine (reftext_any key A1 c1 (ys ++ [(0 : Int)]) w1 (by have := HKL.out; omega) (Kd.R_reads' HO1.out).2.2 (by have := HKL.out; have := HYL.out; simp; omega)).mono ?_
          rintro e w2 ⟨v2, rfl, ho, hb⟩
          refine ⟨_, rfl, ?_⟩
          have HX2 := Aside0.mk (blk_below HX1.out hb)
          have HY2 := Aside0.mk (blk_below HY1.out hb)
          have HB2 := Aside0.mk (below_then HB1.out HB1.out.size hb)
          have HO2 := Aside0.mk (Kd.R_lower ho HB1.out.size)
          obtain ⟨A2, c2, rfl⟩ := Kd.R_slice ho
          clear ho hb HX1 HY1 HB1 HO1
          generalize hL2 : (ys ++ [(0 : Int)] ++ tb key).length = L2 at *
          have HL2 := Aside0.mk hL2
          clear hL2
          refine hK.out _ _ ((blk_cell HY2.out 0).trans rfl) (fun hHeld => ?_)
          clear hK K
          refine norm_ (a' := ?_) ?_ ?_
          rotate_left
          · show Act.put _ (some 46) _ = _
            simp only [Act.put, List.setIfInBounds_toArray, List.set_cons_zero, List.set_cons_succ, i64_w, i32_w]
            rfl
          refine pure_ (i := 6) (N := some 5) (v := ?_) (a' := ?_) #[true, true, true, true, true, true, true] rfl rfl (by kernel_rfl) (fun _ _ _ h => h) (Or.inl ⟨by rfl, ?_⟩) ?_ ?_
          rotate_left
          · intro w'
            go_simp
            with_reducible rfl
          rotate_left
          · simp only [Act.put, List.setIfInBounds_toArray, List.set_cons_zero, List.set_cons_succ, i64_w, i32_w]
            rfl
          refine done_ (by kernel_rfl) ?_
          have y1 : w2.cell? ⟨wr.heap.size, 1, none⟩ = some (.string val) := (blk_cell HY2.out 1).trans rfl
          clear hHeld
          go_wp2_with fail
          have hcall := reftext_any val A2 c2 (ys ++ [(0 : Int)] ++ tb key) w2 (by have := HVL.out; omega) (Kd.R_reads' HO2.out).2.2 (by have := HVL.out; have := HYL.out; have := HTL.out; have := HKL.out; simp; omega)
          rw [HL2.out] at hcall
          refine hcall.mono ?_
          rintro e w3 ⟨v3, rfl, ho, hb⟩
          have HX3 := Aside0.mk (blk_below HX2.out hb)
          have HB3 := Aside0.mk (below_then HB2.out HB2.out.size hb)
          have HO3 := Aside0.mk (Kd.R_lower ho HB2.out.size)
          clear ho hb y1 hcall
          go_wp2_with fail
          refine ⟨⟨k + 1, by simp, by omega, ⟨?_⟩, HB3, HX3⟩, by simp [intOf]; omega⟩
          have h1 := HO3.out
          rw [← HY.out] at h1
          have h2 := HSN.out
          rw [h2]
          simpa [wB] using h1
      · go_wp2_with fail
        go_ret2
        have e1 : putC t l = (commitB t l, 0) := by unfold putC; rw [if_pos HT.out]
        have h6 := HO.out
        rw [show k = l.length by omega, List.take_length] at h6
        exact ⟨_, by rw [e1]; rfl, by rw [e1]; exact h6, HB.out⟩
end Go.Proofs.Ytmemkmnnededgaa.H
