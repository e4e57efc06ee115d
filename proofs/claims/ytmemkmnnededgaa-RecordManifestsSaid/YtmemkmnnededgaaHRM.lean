/- Contracts of the reference: PutManifest. -/
import Derived.Test.YtmemkmnnededgaaHRE
namespace Go.Proofs.Ytmemkmnnededgaa.H
open Go.RowKit Go.Proofs.YtmemkmnnededgaaW.PrintWords Go.Proofs.YtmemkmnnededgaaW.PrintLast Go.Proofs.YtmemkmnnededgaaW.PrintMore
attribute [local go_sem] max2_int min2_int max_two min_two max_three min_three max_four min_four
set_option linter.unusedVariables false
set_option linter.unusedSimpArgs false

set_option maxRecDepth 100000 in
set_option maxHeartbeats 6400000 in
theorem refPutManifest_any (t g : Int) (l : List P43) (A : Option Addr) (c : Nat) (w : World) (hr : k43.C w A l.length l) (hn : l.length < 9223372036854775807) :
    Calls Try.prog 22 #[.agg #[.int .i64 t, .int .i64 g, .slice A l.length c]] w fun e w' => ∃ v : Value, e = .returned (.tuple #[v, .int .i64 (putM t g l).2]) ∧ U8.R 5 w' w.heap.size (fun _ => True) v (putM t g l).1 ∧ Below w.heap.size w w' := by
  have HR := Aside0.mk hr
  have HB := Aside0.mk (below_alloc (Below.refl w.heap.size w) (.cells #[.int .i64 t, .int .i64 g, .slice A l.length c] 38))
  have HX := Aside0.mk (blk_new w (.cells #[.int .i64 t, .int .i64 g, .slice A l.length c] 38))
  have HNN := Aside0.mk hn
  clear hr
  cases hT : rightM t g l with
  | false =>
    have HT := Aside0.mk hT
    clear hT
    go_enter Try.func22, Try.ntmps22
    go_wp2_with fail
    have hcall := refRightManifest_any t g l A c _ (Kd.C_alloc HR.out (.cells #[.int .i64 t, .int .i64 g, .slice A l.length c] 38)) HNN.out
    rw [HT.out] at hcall
    refine hcall.mono ?_
    rintro e w1 ⟨rfl, hb⟩
    have HB1 := Aside0.mk (below_then HB.out HB.out.size hb)
    clear hb hcall
    go_wp2_with fail
    go_ret2
    exact ⟨_, by unfold putM; rw [if_neg (by rw [HT.out]; decide)]; rfl, by unfold putM; rw [if_neg (by rw [HT.out]; decide)]; exact Kd.R_nil _ _ _ _ _, HB1.out⟩
  | true =>
    have HT := Aside0.mk hT
    have hn16 := rightM_len t g l hT
    have HNL := Aside0.mk (nb_len t)
    have HNG := Aside0.mk (nb_len g)
    have HNM := Aside0.mk (nb_len l.length)
    clear hT
    go_enter Try.func22, Try.ntmps22
    go_wp2_with fail
    have hcall := refRightManifest_any t g l A c _ (Kd.C_alloc HR.out (.cells #[.int .i64 t, .int .i64 g, .slice A l.length c] 38)) HNN.out
    rw [HT.out] at hcall
    refine hcall.mono ?_
    rintro e w1 ⟨rfl, hb⟩
    have HB1 := Aside0.mk (below_then HB.out HB.out.size hb)
    have HX1 := Aside0.mk (blk_below HX.out hb)
    have x0 : (w1.alloc (.cells #[.int .u8 77] 5)).cell? ⟨w.heap.size, 0, none⟩ = some (.int .i64 t) := (blk_cell (blk_alloc HX1.out _) 0).trans rfl
    clear hb hcall HB HX
    go_wp2_with fail
    have HB1a := Aside0.mk (below_alloc HB1.out (.cells #[.int .u8 77] 5))
    have HX1a := Aside0.mk (blk_alloc HX1.out (.cells #[.int .u8 77] 5))
    refine (refnum_any t _ 1 [77] _ (C_lit8 w1 [77] _ 1 rfl rfl (by decide)) (by decide)).mono ?_
    rintro e w2 ⟨v2, rfl, ho, hb⟩
    have HB2 := Aside0.mk (below_then HB1a.out HB1a.out.size hb)
    have HX2 := Aside0.mk (blk_below HX1a.out hb)
    obtain ⟨A2, c2, rfl⟩ := Kd.R_slice ho
    have HO2 := Aside0.mk ho
    have x1 : w2.cell? ⟨w.heap.size, 1, none⟩ = some (.int .i64 g) := (blk_cell HX2.out 1).trans rfl
    clear ho hb x0 HB1 HX1 HB1a HX1a
    go_wp2_with fail
    refine (refnum_any g A2 c2 ([77] ++ nb t) _ (Kd.R_reads' HO2.out).2.2 (by have := HNL.out; simp; omega)).mono ?_
    rintro e w3 ⟨v3, rfl, ho, hb⟩
    have HB3 := Aside0.mk (below_then HB2.out HB2.out.size hb)
    have HX3 := Aside0.mk (blk_below HX2.out hb)
    obtain ⟨A3, c3, rfl⟩ := Kd.R_slice ho
    have HO3 := Aside0.mk ho
    have x2 : w3.cell? ⟨w.heap.size, 2, none⟩ = some (.slice A l.length c) := (blk_cell HX3.out 2).trans rfl
    clear ho hb x1 HB2 HX2 HO2
    generalize hL3 : ([77] ++ nb t ++ nb g).length = L3 at *
    have HL3 := Aside0.mk hL3
    clear hL3
    go_wp2_with fail
    have hcall := refnum_any l.length A3 c3 ([77] ++ nb t ++ nb g) w3 (Kd.R_reads' HO3.out).2.2 (by have := HNL.out; have := HNG.out; simp; omega)
    rw [HL3.out] at hcall
    refine hcall.mono ?_
    rintro e w4 ⟨v4, rfl, ho, hb⟩
    have HB4 := Aside0.mk (below_then HB3.out HB3.out.size hb)
    have HX4 := Aside0.mk (blk_below HX3.out hb)
    have HO4 := Aside0.mk (Kd.R_lower ho HB3.out.size)
    clear ho hb x2 HB3 HX3 HO3 hcall
    go_wp2_with fail
    go_loopw [5, 6] (fun v5 v6 w' => ∃ (k : Nat), v6 = .int .i64 k ∧ k ≤ l.length ∧ Aside0 (U8.R 5 w' w.heap.size (fun _ => True) v5 (77 :: (nb t ++ (nb g ++ (nb l.length ++ psB (l.take k)))))) ∧ Aside0 (Below w.heap.size w w') ∧ Aside0 (w'.heap[w.heap.size]? = some (.cells #[.int .i64 t, .int .i64 g, .slice A l.length c] 38 (0, 0)))) (fun _ v6 _ => l.length - (intOf v6).toNat)
    case atStart => exact ⟨0, rfl, Nat.zero_le _, ⟨by simpa [psB] using HO4.out⟩, HB4, HX4⟩
    case round =>
      obtain ⟨k, rfl, hk, HO, HB, HX⟩ := hrel
      have x2 : wr.cell? ⟨w.heap.size, 2, none⟩ = some (.slice A l.length c) := (blk_cell HX.out 2).trans rfl
      by_cases hlt : k < l.length
      · have r1 := Kd.C_below HR.out HB.out
        obtain ⟨ad, rfl, _⟩ := r1.2.2 (by omega)
        obtain ⟨p0, p1, p2⟩ := k43_cells r1 k hlt
        have HSN := Aside0.mk (psB_snoc l k hlt)
        have HN1 := Aside0.mk (nb_len l[k].num)
        have HN2 := Aside0.mk (nb_len l[k].from_)
        have HLN : Aside0 ((psB (l.take k)).length ≤ 16 * 30) := ⟨by
          have h1 := psB_len (l.take k)
          have h2 : (l.take k).length ≤ 16 := by rw [List.length_take]; omega
          omega⟩
        clear r1
        generalize hY : (77 :: (nb t ++ (nb g ++ (nb l.length ++ psB (l.take k))))) = ys at *
        have HY := Aside0.mk hY
        have HYL := Aside0.mk (show ys.length ≤ 2000 by rw [← hY]; have := HNL.out; have := HNG.out; have := HNM.out; have := HLN.out; simp only [List.length_cons, List.length_append]; omega)
        clear hY
        obtain ⟨A5, c5, rfl⟩ := Kd.R_slice HO.out
        go_wp2_with fail
        refine (refnum_any l[k].num A5 c5 ys wr (Kd.R_reads' HO.out).2.2 (by have := HYL.out; omega)).mono ?_
        rintro e w4 ⟨v4, rfl, ho, hb⟩
        have HBa := Aside0.mk (below_then HB.out HB.out.size hb)
        have HXa := Aside0.mk (blk_below HX.out hb)
        obtain ⟨A6, c6, rfl⟩ := Kd.R_slice ho
        have HOa := Aside0.mk (Kd.R_lower ho HB.out.size)
        clear ho hb p0 p1 p2 x2
        generalize hL6 : (ys ++ nb l[k].num).length = L6 at *
        have HL6 := Aside0.mk hL6
        clear hL6
        obtain ⟨p0, p1, p2⟩ := k43_cells (Kd.C_below HR.out HBa.out) k hlt
        have x2 : w4.cell? ⟨w.heap.size, 2, none⟩ = some (.slice (some ad) l.length c) := (blk_cell HXa.out 2).trans rfl
        go_wp2_with fail
        have hcall := refnum_any l[k].from_ A6 c6 (ys ++ nb l[k].num) w4 (Kd.R_reads' HOa.out).2.2 (by have := HYL.out; have := HN1.out; simp; omega)
        rw [HL6.out] at hcall
        refine hcall.mono ?_
        rintro e w5 ⟨v5, rfl, ho, hb⟩
        have HBb := Aside0.mk (below_then HBa.out HBa.out.size hb)
        have HXb := Aside0.mk (blk_below HXa.out hb)
        obtain ⟨A7, c7, rfl⟩ := Kd.R_slice ho
        have HOb := Aside0.mk (Kd.R_lower ho HBa.out.size)
        clear ho hb p0 p1 p2 x2 hcall HBa HXa HOa
        generalize hL7 : (ys ++ nb l[k].num ++ nb l[k].from_).length = L7 at *
        have HL7 := Aside0.mk hL7
        clear hL7
        obtain ⟨p0, p1, p2⟩ := k43_cells (Kd.C_below HR.out HBb.out) k hlt
        have x2 : w5.cell? ⟨w.heap.size, 2, none⟩ = some (.slice (some ad) l.length c) := (blk_cell HXb.out 2).trans rfl
        go_wp2_with fail
        have hcall := refnum_any l[k].to_ A7 c7 (ys ++ nb l[k].num ++ nb l[k].from_) w5 (Kd.R_reads' HOb.out).2.2 (by have := HYL.out; have := HN1.out; have := HN2.out; simp; omega)
        rw [HL7.out] at hcall
        refine hcall.mono ?_
        rintro e w6 ⟨v6, rfl, ho, hb⟩
        have HBc := Aside0.mk (below_then HBb.out HBb.out.size hb)
        have HXc := Aside0.mk (blk_below HXb.out hb)
        have HOc := Aside0.mk (Kd.R_lower ho HBb.out.size)
        clear ho hb p0 p1 p2 x2 hcall HBb HXb HOb
        go_wp2_with fail
        refine ⟨⟨k + 1, by simp, by omega, ⟨?_⟩, HBc, HXc⟩, by simp [intOf]; omega⟩
        have h1 := HOc.out
        rw [← HY.out] at h1
        rw [HSN.out]
        simpa [pB] using h1
      · go_wp2_with fail
        go_ret2
        have e1 : putM t g l = (manifestB t g l, 0) := by unfold putM; rw [if_pos HT.out]
        have h6 := HO.out
        rw [show k = l.length by omega, List.take_length] at h6
        exact ⟨_, by rw [e1]; rfl, by rw [e1]; exact h6, HB.out⟩
end Go.Proofs.Ytmemkmnnededgaa.H
