/- Contracts of the program's package record: Manifest's closures and lists. -/
import Derived.Test.YtmemkmnnededgaaHR
import Derived.Test.YtmemkmnnededgaaHI
namespace Go.Proofs.Ytmemkmnnededgaa.H
open Go.RowKit Go.Proofs.YtmemkmnnededgaaW.PrintWords Go.Proofs.YtmemkmnnededgaaW.PrintLast Go.Proofs.YtmemkmnnededgaaW.PrintMore
attribute [local go_sem] max2_int min2_int max_two min_two max_three min_three max_four min_four
set_option linter.unusedVariables false
set_option linter.unusedSimpArgs false

/-- A pair that is read. -/
def rdP (b : List Int) (s : St) : P43 × St :=
  (⟨(rdNum b 2147483647 s).1, (rdNum b 1099511627775 (rdNum b 2147483647 s).2).1, (rdNum b 1099511627775 (rdNum b 1099511627775 (rdNum b 2147483647 s).2).2).1⟩,
    (rdNum b 1099511627775 (rdNum b 1099511627775 (rdNum b 2147483647 s).2).2).2)

set_option maxRecDepth 100000 in
set_option maxHeartbeats 1600000 in
theorem c49_any (w0 : World) (g cr : Nat) (b : List Int) (s : St) (w : World) (hr : RdAt w0 w g b s) (hcr : w.heap[cr]? = some (.cells #[.pointer (some ⟨g, 0, none⟩)] 68 (0, 0))) :
    Calls Try.prog 49 #[.pointer (some ⟨cr, 0, none⟩)] w fun e w' => e = .returned (.agg #[.int .i64 (rdP b s).1.num, .int .i64 (rdP b s).1.from_, .int .i64 (rdP b s).1.to_]) ∧ RdAt w0 w' g b (rdP b s).2 ∧ FrT TR w0.heap.size w w' := by
  have hz := hr.old.size
  have HR := Aside0.mk (hr.alloc (.cells #[.int .i64 0, .int .i64 0, .int .i64 0] 43))
  have HC := Aside0.mk (blk_alloc hcr (.cells #[.int .i64 0, .int .i64 0, .int .i64 0] 43))
  have HF := Aside0.mk ((FrT.refl TR w0.heap.size w).alloc hz (.cells #[.int .i64 0, .int .i64 0, .int .i64 0] 43))
  have q0 : (w.alloc (.cells #[.int .i64 0, .int .i64 0, .int .i64 0] 43)).cell? ⟨cr, 0, none⟩ = some (.pointer (some ⟨g, 0, none⟩)) := (blk_cell HC.out 0).trans rfl
  have HX := Aside0.mk (blk_new w (.cells #[.int .i64 0, .int .i64 0, .int .i64 0] 43))
  unfold rdP
  clear hr hcr
  go_enter Try.func49, Try.ntmps49
  go_wp2_with fail
  refine (rnum_any w0 g b 2147483647 s _ HR.out (by omega) (by omega)).mono ?_
  rintro e w1 ⟨rfl, h1, f1⟩
  generalize hE1 : rdNum b 2147483647 s = r1 at *
  have HE1 := Aside0.mk hE1
  have HX1 := Aside0.mk (blk_alloc (f1.blk HX.out (by simp [TR])) (.cells #[.int .i64 r1.1, .int .i64 0, .int .i64 0] 43))
  have HC1 := Aside0.mk (blk_alloc (f1.blk HC.out (by simp [TR])) (.cells #[.int .i64 r1.1, .int .i64 0, .int .i64 0] 43))
  have HR1 := Aside0.mk (h1.alloc (.cells #[.int .i64 r1.1, .int .i64 0, .int .i64 0] 43))
  have HF1 := Aside0.mk ((HF.out.trans f1).alloc (Nat.le_trans hz (Nat.le_trans HF.out.size f1.size)) (.cells #[.int .i64 r1.1, .int .i64 0, .int .i64 0] 43))
  have HV1 := Aside0.mk (blk_new w1 (.cells #[.int .i64 r1.1, .int .i64 0, .int .i64 0] 43))
  have l0 : cr < w1.heap.size := blk_lt (f1.blk HC.out (by simp [TR]))
  have l2 : w.heap.size < w1.heap.size := blk_lt (f1.blk HX.out (by simp [TR]))
  have LN := Aside0.mk (Nat.ne_of_lt l2)
  have q1 : w1.cell? ⟨cr, 0, none⟩ = some (.pointer (some ⟨g, 0, none⟩)) := (blk_cell (f1.blk HC.out (by simp [TR])) 0).trans rfl
  clear h1 f1 q0 hE1
  go_wp2_with fail
  generalize w1.alloc (.cells #[.int .i64 r1.1, .int .i64 0, .int .i64 0] 43) = wa at *
  refine (rtime_any w0 g b _ _ HR1.out).mono ?_
  rintro e w2 ⟨rfl, h2, f2⟩
  generalize hE2 : rdNum b 1099511627775 r1.2 = r2 at *
  have HE2 := Aside0.mk hE2
  have HX2 := Aside0.mk (f2.blk HX1.out (by simp [TR]))
  have HV2 := Aside0.mk (f2.blk HV1.out (by simp [TR]))
  have HC2 := Aside0.mk (f2.blk HC1.out (by simp [TR]))
  have HR2 := Aside0.mk h2
  have HF2 := Aside0.mk (HF1.out.trans f2)
  have v0 : w2.cell? ⟨w1.heap.size, 1, none⟩ = some (.int .i64 0) := (blk_cell HV2.out 1).trans rfl
  have v3 : w2.frozen? ⟨w1.heap.size, 1, none⟩ = false := blk_frozen HV2.out 1
  have HV2b := Aside0.mk (blk_put HV2.out 1 (.int .i64 r2.1) rfl)
  have HX2b := Aside0.mk (blk_far HX2.out (p := ⟨w1.heap.size, 1, none⟩) LN.out (.int .i64 r2.1))
  have HC2b := Aside0.mk (blk_far HC2.out (p := ⟨w1.heap.size, 1, none⟩) (blk_ne HC2.out HV2.out (by decide)) (.int .i64 r2.1))
  have HF2b := Aside0.mk (setNew HF2.out (show w.heap.size ≤ w1.heap.size from Nat.le_of_lt l2) hz 1 (.int .i64 r2.1))
  have HR2b := Aside0.mk (HR2.out.far HV2.out (by decide) 1 (.int .i64 r2.1))
  clear h2 f2 hE2 q1
  have x3 : (w2.setCell ⟨w1.heap.size, 1, none⟩ (.int .i64 r2.1)).cell? ⟨cr, 0, none⟩ = some (.pointer (some ⟨g, 0, none⟩)) := (blk_cell HC2b.out 0).trans rfl
  go_wp2_with fail
  generalize w2.setCell ⟨w1.heap.size, 1, none⟩ (.int .i64 r2.1) = w2b at *
  clear v0 v3
  refine (rtime_any w0 g b _ _ HR2b.out).mono ?_
  rintro e w3 ⟨rfl, h3, f3⟩
  generalize hE3 : rdNum b 1099511627775 r2.2 = r3 at *
  have HE3 := Aside0.mk hE3
  have HX3 := Aside0.mk (f3.blk HX2b.out (by simp [TR]))
  have HV3 := Aside0.mk (f3.blk HV2b.out (by simp [TR]))
  have HC3 := Aside0.mk (f3.blk HC2b.out (by simp [TR]))
  have HR3 := Aside0.mk h3
  have HF3 := Aside0.mk (HF2b.out.trans f3)
  have v0 : w3.cell? ⟨w1.heap.size, 2, none⟩ = some (.int .i64 0) := (blk_cell HV3.out 2).trans rfl
  have v3 : w3.frozen? ⟨w1.heap.size, 2, none⟩ = false := blk_frozen HV3.out 2
  have HV3b := Aside0.mk (blk_put HV3.out 2 (.int .i64 r3.1) rfl)
  have HX3b := Aside0.mk (blk_far HX3.out (p := ⟨w1.heap.size, 2, none⟩) LN.out (.int .i64 r3.1))
  have HC3b := Aside0.mk (blk_far HC3.out (p := ⟨w1.heap.size, 2, none⟩) (blk_ne HC3.out HV3.out (by decide)) (.int .i64 r3.1))
  have HF3b := Aside0.mk (setNew HF3.out (show w.heap.size ≤ w1.heap.size from Nat.le_of_lt l2) hz 2 (.int .i64 r3.1))
  have HR3b := Aside0.mk (HR3.out.far HV3.out (by decide) 2 (.int .i64 r3.1))
  clear h3 f3 hE3 x3
  have x0 : (w3.setCell ⟨w1.heap.size, 2, none⟩ (.int .i64 r3.1)).cell? ⟨w1.heap.size, 0, none⟩ = some (.int .i64 r1.1) := (blk_cell HV3b.out 0).trans rfl
  have y0 : (w3.setCell ⟨w1.heap.size, 2, none⟩ (.int .i64 r3.1)).cell? ⟨w.heap.size, 0, none⟩ = some (.int .i64 0) := (blk_cell HX3b.out 0).trans rfl
  have z0 : (w3.setCell ⟨w1.heap.size, 2, none⟩ (.int .i64 r3.1)).frozen? ⟨w.heap.size, 0, none⟩ = false := blk_frozen HX3b.out 0
  have x1 : (w3.setCell ⟨w1.heap.size, 2, none⟩ (.int .i64 r3.1)).cell? ⟨w1.heap.size, 1, none⟩ = some (.int .i64 r2.1) := (blk_cell HV3b.out 1).trans rfl
  have y1 : (w3.setCell ⟨w1.heap.size, 2, none⟩ (.int .i64 r3.1)).cell? ⟨w.heap.size, 1, none⟩ = some (.int .i64 0) := (blk_cell HX3b.out 1).trans rfl
  have z1 : (w3.setCell ⟨w1.heap.size, 2, none⟩ (.int .i64 r3.1)).frozen? ⟨w.heap.size, 1, none⟩ = false := blk_frozen HX3b.out 1
  have x2 : (w3.setCell ⟨w1.heap.size, 2, none⟩ (.int .i64 r3.1)).cell? ⟨w1.heap.size, 2, none⟩ = some (.int .i64 r3.1) := (blk_cell HV3b.out 2).trans rfl
  have y2 : (w3.setCell ⟨w1.heap.size, 2, none⟩ (.int .i64 r3.1)).cell? ⟨w.heap.size, 2, none⟩ = some (.int .i64 0) := (blk_cell HX3b.out 2).trans rfl
  have z2 : (w3.setCell ⟨w1.heap.size, 2, none⟩ (.int .i64 r3.1)).frozen? ⟨w.heap.size, 2, none⟩ = false := blk_frozen HX3b.out 2
  go_wp2_with fail
  have HX6 := Aside0.mk (st3 HX3b.out (.int .i64 r1.1) (.int .i64 r2.1) (.int .i64 r3.1))
  have HR6 := Aside0.mk (HR3b.out.far3 HX3b.out (by decide) (.int .i64 r1.1) (.int .i64 r2.1) (.int .i64 r3.1) hz)
  have HF6 := Aside0.mk (setNew (setNew (setNew HF3b.out (Nat.le_refl _) hz 0 (.int .i64 r1.1)) (Nat.le_refl _) hz 1 (.int .i64 r2.1)) (Nat.le_refl _) hz 2 (.int .i64 r3.1))
  generalize ((((w3.setCell ⟨w1.heap.size, 2, none⟩ (.int .i64 r3.1)).setCell ⟨w.heap.size, 0, none⟩ (.int .i64 r1.1)).setCell ⟨w.heap.size, 1, none⟩ (.int .i64 r2.1)).setCell ⟨w.heap.size, 2, none⟩ (.int .i64 r3.1)) = w6 at *
  have c0 : w6.cell? ⟨w.heap.size, 0, none⟩ = some (.int .i64 r1.1) := (blk_cell HX6.out 0).trans rfl
  have c1 : w6.cell? ⟨w.heap.size, 1, none⟩ = some (.int .i64 r2.1) := (blk_cell HX6.out 1).trans rfl
  have c2 : w6.cell? ⟨w.heap.size, 2, none⟩ = some (.int .i64 r3.1) := (blk_cell HX6.out 2).trans rfl
  exact bodyPost_ret (v := .agg #[.int .i64 r1.1, .int .i64 r2.1, .int .i64 r3.1]) (by simp [results, Try.results49, go_sem, c0, c1, c2]) rfl ⟨by rw [HE1.out, HE2.out, HE3.out], by rw [HE1.out, HE2.out, HE3.out]; exact HR6.out, HF6.out⟩

def rdPs (b : List Int) (s : St) : List P43 × St := rdL (rdP b) (rdNum b 16 s).1.toNat (rdNum b 16 s).2
theorem info43 : (Try.prog.info? 43).map (fun i => (i.zero, i.size, i.bytes)) = some (some (.agg #[.int .i64 0, .int .i64 0, .int .i64 0]), 3, 24) := by kernel_rfl

set_option maxRecDepth 100000 in
set_option maxHeartbeats 1600000 in
theorem list43_any (w0 : World) (g cr : Nat) (b : List Int) (s : St) (w : World) (hr : RdAt w0 w g b s) (hcr : w.heap[cr]? = some (.cells #[.pointer (some ⟨g, 0, none⟩)] 68 (0, 0))) :
    Calls Try.prog 48 #[.pointer (some ⟨g, 0, none⟩), .int .i64 16, .func (.func 49) #[] #[.pointer (some ⟨cr, 0, none⟩)]] w fun e w' => ∃ v : Value, e = .returned v ∧ k43.R 43 w' w.heap.size (fun _ => True) v (rdPs b s).1 ∧ RdAt w0 w' g b (rdPs b s).2 ∧ FrT TR w0.heap.size w w' := by
  have hz := hr.old.size
  have HC := Aside0.mk hcr
  obtain ⟨n0, n1⟩ := rdNum_range b 16 s (by omega)
  have HT := Aside0.mk (rnum_any w0 g b 16 s w hr (by omega) (by omega))
  unfold rdPs
  generalize rdNum b 16 s = r at *
  obtain ⟨n, s1⟩ := r
  simp only at n0 n1 HT ⊢
  obtain ⟨m, rfl⟩ := Int.eq_ofNat_of_zero_le n0
  simp only [Int.toNat_natCast]
  clear hr hcr n0
  go_enter Try.func48, Try.ntmps48
  go_wp2_with fail
  refine HT.out.mono ?_
  rintro e w1 ⟨rfl, h1, f1⟩
  have HR1 := Aside0.mk h1
  have HF1 := Aside0.mk f1
  clear h1 f1
  go_wp2_with fail
  go_loopw [7, 8] (fun v7 v8 w' => ∃ (ys : List P43) (k : Nat) (s' : St), v8 = .int .i64 k ∧ k ≤ 16 ∧ Aside0 (ys.length + k ≤ 16) ∧ Aside0 (k43.R 43 w' w.heap.size (fun _ => True) v7 ys) ∧ Aside0 (RdAt w0 w' g b s') ∧ Aside0 (FrT TR w0.heap.size w w') ∧ Aside0 (rdL (rdP b) m s1 = (ys ++ (rdL (rdP b) k s').1, (rdL (rdP b) k s').2))) (fun _ v8 _ => (intOf v8).toNat)
  case atStart => exact ⟨[], m, s1, rfl, by omega, ⟨by simp; omega⟩, ⟨Kd.R_nil _ _ _ _ _⟩, HR1, HF1, ⟨by simp⟩⟩
  case round =>
    obtain ⟨ys, k, s', rfl, hk, HL, HO, HR2, HF2, HE⟩ := hrel
    obtain ⟨A, c, hb2, _⟩ := HR2.out.blk
    have q2 : wr.cell? ⟨g, 2, none⟩ = some (.bool (decide (0 ≤ s'.bad))) := (blk_cell hb2 2).trans rfl
    clear hb2
    have fin : ∀ k', (rdL (rdP b) k s').1 = [] → (rdL (rdP b) k s').2 = k' → k' = s' → k43.R 43 wr w.heap.size (fun _ => True) u7 (rdL (rdP b) m s1).1 ∧ RdAt w0 wr g b (rdL (rdP b) m s1).2 ∧ FrT TR w0.heap.size w wr := by
      intro k' e1 e2 e3
      rw [HE.out, e1, e2, e3, List.append_nil]
      exact ⟨HO.out, HR2.out, HF2.out⟩
    have FIN := Aside0.mk fin
    clear fin
    by_cases hk0 : k = 0
    · subst hk0
      go_wp2_with fail
      go_ret
      exact ⟨u7, rfl, FIN.out _ rfl rfl rfl⟩
    · cases hbad : decide (0 ≤ s'.bad) with
      | true =>
        rw [hbad] at q2
        have HBD := Aside0.mk (rdL_bad (rdP b) k s' (of_decide_eq_true hbad))
        clear hbad
        have hk1 : (0 : Int) < (k : Int) := by omega
        go_wp2_with fail
        go_ret
        exact ⟨u7, rfl, FIN.out s' (by rw [HBD.out]) (by rw [HBD.out]) rfl⟩
      | false =>
        rw [hbad] at q2
        have HBD := Aside0.mk hbad
        have hk1 : (0 : Int) < (k : Int) := by omega
        have HC2 := Aside0.mk (HF2.out.blk HC.out (by simp [TR]))
        clear hbad
        go_wp2_with fail
        refine (c49_any w0 g cr b s' _ HR2.out HC2.out).mono ?_
        rintro e w3 ⟨rfl, h3, f3⟩
        have HR3 := Aside0.mk h3
        have HO3 := Aside0.mk (f3.R_lives HO.out (by simp [TR, k43, Kd.iso, Kd.pair, Kd.int, Kd.scalar]))
        have HF3 := Aside0.mk (HF2.out.trans f3)
        have HE3 := Aside0.mk (show rdL (rdP b) m s1 = (ys ++ [(rdP b s').1] ++ (rdL (rdP b) (k - 1) (rdP b s').2).1, (rdL (rdP b) (k - 1) (rdP b s').2).2) by
          obtain ⟨j, rfl⟩ : ∃ j, k = j + 1 := ⟨k - 1, by omega⟩
          rw [HE.out, rdL, if_neg (of_decide_eq_false HBD.out)]
          simp)
        clear h3 f3 q2
        generalize rdP b s' = rw_ at *
        obtain ⟨x, s''⟩ := rw_
        simp only at HR3 HE3 ⊢
        go_wp2_with (at_builtin; go_must (refine Kd.R_append k43 (w0 := w3) w.heap.size rfl (.tmp 23) (.tmp 26) 36 43 (.agg #[.int .i64 0, .int .i64 0, .int .i64 0]) 24 rfl Try.underlying36 info43 rfl (by decide) (by decide) _ ys x [.int .i64 x.num, .int .i64 x.from_, .int .i64 x.to_] (fun _ => True) (fun _ => False) rfl rfl ⟨[.int .i64 x.num], [.int .i64 x.from_, .int .i64 x.to_], rfl, rfl, ⟨[.int .i64 x.from_], [.int .i64 x.to_], rfl, rfl, rfl⟩⟩ (fun _ hk => hk.elim) (fun _ _ => trivial) HO3.out (Below.refl _ _) HF3.out.size (by have := HL.out; omega) ?_; intro v1 w4 ho hb hg hat; have HO4 := Aside0.mk ho; have HR4 := Aside0.mk (HR3.out.grown hg (Kd.R_own HO3.out) (by decide) (Nat.le_trans hz HF3.out.size) (Nat.le_trans hz (Nat.le_refl _))); have HF4 := Aside0.mk (HF3.out.grown_new HO3.out (Nat.le_refl _) hz hg); clear ho hb hg hat))
        refine ⟨⟨_, k - 1, s'', by go_num, by omega, ⟨?_⟩, HO4, HR4, HF4, HE3⟩, by simp [intOf]; omega⟩
        have := HL.out
        simp
        omega
end Go.Proofs.Ytmemkmnnededgaa.H
