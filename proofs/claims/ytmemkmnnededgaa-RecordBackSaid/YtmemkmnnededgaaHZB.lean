/- The law RecordBack, walked: it returns true at any commit, row, manifest and cut. -/
import Derived.Test.YtmemkmnnededgaaHXC
import Derived.Test.YtmemkmnnededgaaHZ
namespace Go.Proofs.Ytmemkmnnededgaa.H
open Go.RowKit Go.Proofs.YtmemkmnnededgaaW.PrintWords Go.Proofs.YtmemkmnnededgaaW.PrintLast Go.Proofs.YtmemkmnnededgaaW.PrintMore
attribute [local go_sem] max2_int min2_int max_two min_two max_three min_three max_four min_four
set_option linter.unusedVariables false
set_option linter.unusedSimpArgs false

theorem R_new8 (W : World) (B : Nat) (hB : B = W.heap.size) : U8.R 5 (W.alloc (.cells #[] 5)) W.heap.size (fun _ => True) (.slice (some ⟨B, 0, none⟩) 0 0) [] := by
  subst hB
  exact R_lit8 W [] #[] 0 _ _ rfl rfl (Nat.le_refl _) trivial (by simp)

set_option maxRecDepth 100000 in
set_option maxHeartbeats 3200000 in
theorem recordBack_CRMn (t : Int) (l : List W27) (A : Option Addr) (c : Nat) (key val : ByteArray) (t2 : Int) (t3 g3 : Int) (l3 : List P43) (A3 : Option Addr) (c3 : Nat) (cut : Int) (w : World)
    (h24 : k27.C w A l.length l) (h38 : k43.C w A3 l3.length l3) (hwf : ∀ x ∈ l3, (Lit.int .i64 x.num).wf = true) (hC : rightC t l = true) (hR : rightR key val t2 = true) (hM : rightM t3 g3 l3 = true) (hcut : cut < 0) (hmin : -9223372036854775808 ≤ cut) :
    Calls Try.prog 6 #[.agg #[.int .i64 t, .slice A l.length c], .agg #[.string key, .string val, .int .i64 t2], .agg #[.int .i64 t3, .int .i64 g3, .slice A3 l3.length c3], .int .i64 cut] w fun e w' => e = .returned (.bool true) ∧ Below w.heap.size w w' := by
  have hu24 := Try.underlying24
  have hu45 := Try.underlying45
  have H24 := Aside0.mk h24
  have H38 := Aside0.mk h38
  have HWF := Aside0.mk hwf
  have HBY := Aside0.mk (commitB_bytes t l)
  have HLN := Aside0.mk (commitB_len t l hC)
  have HPC := Aside0.mk (show putC t l = (commitB t l, 0) by unfold putC; rw [if_pos hC])
  have HBK := Aside0.mk (back_C t l hC)
  have HCU := Aside0.mk (cut_C t l hC (commitB_bytes t l))
  have HMO := Aside0.mk (more_C t l hC)
  have HRO := Aside0.mk (row_C t l)
  have HPO := Aside0.mk (show 0 < (commitB t l).length by unfold commitB; simp)
  have HSM := Aside0.mk (show l.length < 9223372036854775807 by have := (rightC_small t l hC).1; omega)
  have HRP := Aside0.mk (show putR key val t2 = (rowB key val t2, 0) by unfold putR; rw [if_pos hR])
  have HRB := Aside0.mk (rowB_bytes key val t2)
  have HRL := Aside0.mk (rowB_len key val t2 hR)
  have HRK := Aside0.mk (back_R key val t2 hR)
  have HMP := Aside0.mk (show putM t3 g3 l3 = (manifestB t3 g3 l3, 0) by unfold putM; rw [if_pos hM])
  have HMB := Aside0.mk (manifestB_bytes t3 g3 l3)
  have HML := Aside0.mk (manifestB_len t3 g3 l3 hM)
  have HMK := Aside0.mk (back_M t3 g3 l3 hM)
  have HM3 := Aside0.mk (show l3.length < 9223372036854775807 by have := rightM_len t3 g3 l3 hM; omega)
  clear h24 h38 hwf hC hR hM
  have hy := blk_new (w.alloc (.cells #[.int .i64 t, .slice A l.length c] 24)) (.cells #[.string key, .string val, .int .i64 t2] 45)
  rw [size_alloc] at hy
  have hz := blk_new ((w.alloc (.cells #[.int .i64 t, .slice A l.length c] 24)).alloc (.cells #[.string key, .string val, .int .i64 t2] 45)) (.cells #[.int .i64 t3, .int .i64 g3, .slice A3 l3.length c3] 38)
  rw [size_alloc, size_alloc] at hz
  have B1 := Aside0.mk (below_alloc (below_alloc (below_alloc (Below.refl w.heap.size w) (.cells #[.int .i64 t, .slice A l.length c] 24)) (.cells #[.string key, .string val, .int .i64 t2] 45)) (.cells #[.int .i64 t3, .int .i64 g3, .slice A3 l3.length c3] 38))
  have X1 := Aside0.mk (blk_alloc (blk_alloc (blk_new w (.cells #[.int .i64 t, .slice A l.length c] 24)) (.cells #[.string key, .string val, .int .i64 t2] 45)) (.cells #[.int .i64 t3, .int .i64 g3, .slice A3 l3.length c3] 38))
  have Y1 := Aside0.mk (blk_alloc hy (.cells #[.int .i64 t3, .int .i64 g3, .slice A3 l3.length c3] 38))
  have Z1 := Aside0.mk (hz)
  clear hy hz
  go_enter Try.func6, Try.ntmps6
  go_wp2_with fail
  generalize ((w.alloc (.cells #[.int .i64 t, .slice A l.length c] 24)).alloc (.cells #[.string key, .string val, .int .i64 t2] 45)).alloc (.cells #[.int .i64 t3, .int .i64 g3, .slice A3 l3.length c3] 38) = w1 at *
  refine (shown_any w1).mono ?_
  rintro e w2 ⟨rfl, hb⟩
  have B2 := Aside0.mk (below_then B1.out B1.out.size hb)
  have X2 := Aside0.mk (blk_below X1.out hb)
  have Y2 := Aside0.mk (blk_below Y1.out hb)
  have Z2 := Aside0.mk (blk_below Z1.out hb)
  clear B1 X1 Y1 Z1
  clear hb
  have x0 : (w2).cell? ⟨w.heap.size, 0, none⟩ = some (.int .i64 t) := (blk_cell X2.out 0).trans rfl
  have x1 : (w2).cell? ⟨w.heap.size, 1, none⟩ = some (.slice A l.length c) := (blk_cell X2.out 1).trans rfl
  go_wp2_with fail
  refine (putCommit_any t l A c w2 (Kd.C_below H24.out B2.out)).mono ?_
  rintro e w3 ⟨v3, rfl, ho, hb⟩
  clear x0 x1
  rw [HPC.out] at ho ⊢
  generalize commitB t l = b at *
  obtain ⟨A4, c4, rfl⟩ := Kd.R_slice ho
  obtain ⟨_, hq, hr⟩ := Kd.R_reads' ho
  have B3 := Aside0.mk (below_then B2.out B2.out.size hb)
  have X3 := Aside0.mk (blk_below X2.out hb)
  have Y3 := Aside0.mk (blk_below Y2.out hb)
  have Z3 := Aside0.mk (blk_below Z2.out hb)
  clear B2 X2 Y2 Z2
  clear hb
  have R3 := Aside0.mk (hr)
  have HCA := Aside0.mk hq
  clear ho hq hr
  dsimp only
  go_wp2_with fail
  refine (commit_any A4 c4 b w3 R3.out HCA.out (by have := HLN.out; omega) HBY.out).mono ?_
  rintro e w4 ⟨v4, rfl, ho, hb⟩
  rw [HBK.out] at ho ⊢
  obtain ⟨A5, c5, rfl⟩ := Kd.R_slice ho
  have hr := (Kd.R_reads' ho).2.2
  have B4 := Aside0.mk (below_then B3.out B3.out.size hb)
  have X4 := Aside0.mk (blk_below X3.out hb)
  have Y4 := Aside0.mk (blk_below Y3.out hb)
  have Z4 := Aside0.mk (blk_below Z3.out hb)
  have R4 := Aside0.mk (Kd.C_below R3.out hb)
  clear B3 X3 Y3 Z3 R3
  clear hb
  have V4 := Aside0.mk (hr)
  clear ho hr
  dsimp only
  have B4a := Aside0.mk (below_alloc B4.out (.cells #[.int .i64 t, .slice A5 l.length c5] 24))
  have X4a := Aside0.mk (blk_alloc X4.out (.cells #[.int .i64 t, .slice A5 l.length c5] 24))
  have Y4a := Aside0.mk (blk_alloc Y4.out (.cells #[.int .i64 t, .slice A5 l.length c5] 24))
  have Z4a := Aside0.mk (blk_alloc Z4.out (.cells #[.int .i64 t, .slice A5 l.length c5] 24))
  have R4a := Aside0.mk (Kd.C_alloc R4.out (.cells #[.int .i64 t, .slice A5 l.length c5] 24))
  have V4a := Aside0.mk (Kd.C_alloc V4.out (.cells #[.int .i64 t, .slice A5 l.length c5] 24))
  clear B4 X4 Y4 Z4 R4 V4
  have U4a := Aside0.mk (blk_new w4 (.cells #[.int .i64 t, .slice A5 l.length c5] 24))
  have x0 : (w4.alloc (.cells #[.int .i64 t, .slice A5 l.length c5] 24)).cell? ⟨w.heap.size, 0, none⟩ = some (.int .i64 t) := (blk_cell X4a.out 0).trans rfl
  have x1 : (w4.alloc (.cells #[.int .i64 t, .slice A5 l.length c5] 24)).cell? ⟨w.heap.size, 1, none⟩ = some (.slice A l.length c) := (blk_cell X4a.out 1).trans rfl
  have u0 : (w4.alloc (.cells #[.int .i64 t, .slice A5 l.length c5] 24)).cell? ⟨w4.heap.size, 0, none⟩ = some (.int .i64 t) := (blk_cell U4a.out 0).trans rfl
  have u1 : (w4.alloc (.cells #[.int .i64 t, .slice A5 l.length c5] 24)).cell? ⟨w4.heap.size, 1, none⟩ = some (.slice A5 l.length c5) := (blk_cell U4a.out 1).trans rfl
  go_wp2_with fail
  clear x0 x1 u0 u1
  generalize w4.alloc (.cells #[.int .i64 t, .slice A5 l.length c5] 24) = w4a at *
  refine (same11_true t l A A5 c c5 w4a (Kd.C_below H24.out B4a.out) V4a.out HSM.out).mono ?_
  rintro e w5 ⟨rfl, hb⟩
  clear U4a
  clear V4a
  have B5 := Aside0.mk (below_then B4a.out B4a.out.size hb)
  have X5 := Aside0.mk (blk_below X4a.out hb)
  have Y5 := Aside0.mk (blk_below Y4a.out hb)
  have Z5 := Aside0.mk (blk_below Z4a.out hb)
  have R5 := Aside0.mk (Kd.C_below R4a.out hb)
  clear B4a X4a Y4a Z4a R4a
  clear hb
  have y0 : (w5).cell? ⟨w.heap.size + 1, 0, none⟩ = some (.string key) := (blk_cell Y5.out 0).trans rfl
  have y1 : (w5).cell? ⟨w.heap.size + 1, 1, none⟩ = some (.string val) := (blk_cell Y5.out 1).trans rfl
  have y2 : (w5).cell? ⟨w.heap.size + 1, 2, none⟩ = some (.int .i64 t2) := (blk_cell Y5.out 2).trans rfl
  go_wp2_with fail
  refine (putRow_any key val t2 w5).mono ?_
  rintro e w6 ⟨v6, rfl, ho, hb⟩
  clear y0 y1 y2
  rw [HRP.out] at ho ⊢
  generalize rowB key val t2 = b6 at *
  obtain ⟨A6, c6, rfl⟩ := Kd.R_slice ho
  obtain ⟨_, hq, hr⟩ := Kd.R_reads' ho
  have B6 := Aside0.mk (below_then B5.out B5.out.size hb)
  have X6 := Aside0.mk (blk_below X5.out hb)
  have Y6 := Aside0.mk (blk_below Y5.out hb)
  have Z6 := Aside0.mk (blk_below Z5.out hb)
  have R6 := Aside0.mk (Kd.C_below R5.out hb)
  clear B5 X5 Y5 Z5 R5
  clear hb
  have S6 := Aside0.mk (hr)
  have HCB := Aside0.mk hq
  clear ho hq hr
  dsimp only
  go_wp2_with fail
  refine (row_any A6 c6 b6 w6 S6.out HCB.out (by have := HRL.out; omega) HRB.out).mono ?_
  rintro e w7 ⟨rfl, hb⟩
  rw [HRK.out]
  clear S6
  have B7 := Aside0.mk (below_then B6.out B6.out.size hb)
  have X7 := Aside0.mk (blk_below X6.out hb)
  have Y7 := Aside0.mk (blk_below Y6.out hb)
  have Z7 := Aside0.mk (blk_below Z6.out hb)
  have R7 := Aside0.mk (Kd.C_below R6.out hb)
  clear B6 X6 Y6 Z6 R6
  clear hb
  dsimp only
  have B7a := Aside0.mk (below_alloc B7.out (.cells #[.string key, .string val, .int .i64 t2] 45))
  have X7a := Aside0.mk (blk_alloc X7.out (.cells #[.string key, .string val, .int .i64 t2] 45))
  have Y7a := Aside0.mk (blk_alloc Y7.out (.cells #[.string key, .string val, .int .i64 t2] 45))
  have Z7a := Aside0.mk (blk_alloc Z7.out (.cells #[.string key, .string val, .int .i64 t2] 45))
  have R7a := Aside0.mk (Kd.C_alloc R7.out (.cells #[.string key, .string val, .int .i64 t2] 45))
  clear B7 X7 Y7 Z7 R7
  have U7a := Aside0.mk (blk_new w7 (.cells #[.string key, .string val, .int .i64 t2] 45))
  have u0 : (w7.alloc (.cells #[.string key, .string val, .int .i64 t2] 45)).cell? ⟨w7.heap.size, 0, none⟩ = some (.string key) := (blk_cell U7a.out 0).trans rfl
  have u1 : (w7.alloc (.cells #[.string key, .string val, .int .i64 t2] 45)).cell? ⟨w7.heap.size, 1, none⟩ = some (.string val) := (blk_cell U7a.out 1).trans rfl
  have u2 : (w7.alloc (.cells #[.string key, .string val, .int .i64 t2] 45)).cell? ⟨w7.heap.size, 2, none⟩ = some (.int .i64 t2) := (blk_cell U7a.out 2).trans rfl
  have y0 : (w7.alloc (.cells #[.string key, .string val, .int .i64 t2] 45)).cell? ⟨w.heap.size + 1, 0, none⟩ = some (.string key) := (blk_cell Y7a.out 0).trans rfl
  have y1 : (w7.alloc (.cells #[.string key, .string val, .int .i64 t2] 45)).cell? ⟨w.heap.size + 1, 1, none⟩ = some (.string val) := (blk_cell Y7a.out 1).trans rfl
  have y2 : (w7.alloc (.cells #[.string key, .string val, .int .i64 t2] 45)).cell? ⟨w.heap.size + 1, 2, none⟩ = some (.int .i64 t2) := (blk_cell Y7a.out 2).trans rfl
  have z0 : (w7.alloc (.cells #[.string key, .string val, .int .i64 t2] 45)).cell? ⟨w.heap.size + 1 + 1, 0, none⟩ = some (.int .i64 t3) := (blk_cell Z7a.out 0).trans rfl
  have z1 : (w7.alloc (.cells #[.string key, .string val, .int .i64 t2] 45)).cell? ⟨w.heap.size + 1 + 1, 1, none⟩ = some (.int .i64 g3) := (blk_cell Z7a.out 1).trans rfl
  have z2 : (w7.alloc (.cells #[.string key, .string val, .int .i64 t2] 45)).cell? ⟨w.heap.size + 1 + 1, 2, none⟩ = some (.slice A3 l3.length c3) := (blk_cell Z7a.out 2).trans rfl
  go_wp2_with fail
  generalize w7.alloc (.cells #[.string key, .string val, .int .i64 t2] 45) = w7a at *
  clear z0 z1 z2 u0 u1 u2 y0 y1 y2
  clear U7a
  refine (putManifest_any t3 g3 l3 A3 c3 w7a (Kd.C_below H38.out B7a.out) HWF.out).mono ?_
  rintro e w8 ⟨v8, rfl, ho, hb⟩
  rw [HMP.out] at ho ⊢
  generalize manifestB t3 g3 l3 = b8 at *
  obtain ⟨A8, c8, rfl⟩ := Kd.R_slice ho
  obtain ⟨_, hq, hr⟩ := Kd.R_reads' ho
  have B8 := Aside0.mk (below_then B7a.out B7a.out.size hb)
  have X8 := Aside0.mk (blk_below X7a.out hb)
  have Y8 := Aside0.mk (blk_below Y7a.out hb)
  have Z8 := Aside0.mk (blk_below Z7a.out hb)
  have R8 := Aside0.mk (Kd.C_below R7a.out hb)
  clear B7a X7a Y7a Z7a R7a
  clear hb
  have S8 := Aside0.mk (hr)
  have HCM := Aside0.mk hq
  clear ho hq hr
  dsimp only
  go_wp2_with fail
  refine (manifest_any A8 c8 b8 w8 S8.out HCM.out (by have := HML.out; omega) HMB.out).mono ?_
  rintro e w9 ⟨v9, rfl, ho, hb⟩
  rw [HMK.out] at ho ⊢
  obtain ⟨A9, c9, rfl⟩ := Kd.R_slice ho
  have hr := (Kd.R_reads' ho).2.2
  clear S8
  have B9 := Aside0.mk (below_then B8.out B8.out.size hb)
  have X9 := Aside0.mk (blk_below X8.out hb)
  have Y9 := Aside0.mk (blk_below Y8.out hb)
  have Z9 := Aside0.mk (blk_below Z8.out hb)
  have R9 := Aside0.mk (Kd.C_below R8.out hb)
  clear B8 X8 Y8 Z8 R8
  clear hb
  have V9 := Aside0.mk (hr)
  clear ho hr
  dsimp only
  have B9a := Aside0.mk (below_alloc B9.out (.cells #[.int .i64 t3, .int .i64 g3, .slice A9 l3.length c9] 38))
  have X9a := Aside0.mk (blk_alloc X9.out (.cells #[.int .i64 t3, .int .i64 g3, .slice A9 l3.length c9] 38))
  have Y9a := Aside0.mk (blk_alloc Y9.out (.cells #[.int .i64 t3, .int .i64 g3, .slice A9 l3.length c9] 38))
  have Z9a := Aside0.mk (blk_alloc Z9.out (.cells #[.int .i64 t3, .int .i64 g3, .slice A9 l3.length c9] 38))
  have R9a := Aside0.mk (Kd.C_alloc R9.out (.cells #[.int .i64 t3, .int .i64 g3, .slice A9 l3.length c9] 38))
  have V9a := Aside0.mk (Kd.C_alloc V9.out (.cells #[.int .i64 t3, .int .i64 g3, .slice A9 l3.length c9] 38))
  clear B9 X9 Y9 Z9 R9 V9
  have U9a := Aside0.mk (blk_new w9 (.cells #[.int .i64 t3, .int .i64 g3, .slice A9 l3.length c9] 38))
  have u0 : (w9.alloc (.cells #[.int .i64 t3, .int .i64 g3, .slice A9 l3.length c9] 38)).cell? ⟨w9.heap.size, 0, none⟩ = some (.int .i64 t3) := (blk_cell U9a.out 0).trans rfl
  have u1 : (w9.alloc (.cells #[.int .i64 t3, .int .i64 g3, .slice A9 l3.length c9] 38)).cell? ⟨w9.heap.size, 1, none⟩ = some (.int .i64 g3) := (blk_cell U9a.out 1).trans rfl
  have u2 : (w9.alloc (.cells #[.int .i64 t3, .int .i64 g3, .slice A9 l3.length c9] 38)).cell? ⟨w9.heap.size, 2, none⟩ = some (.slice A9 l3.length c9) := (blk_cell U9a.out 2).trans rfl
  have z0 : (w9.alloc (.cells #[.int .i64 t3, .int .i64 g3, .slice A9 l3.length c9] 38)).cell? ⟨w.heap.size + 1 + 1, 0, none⟩ = some (.int .i64 t3) := (blk_cell Z9a.out 0).trans rfl
  have z1 : (w9.alloc (.cells #[.int .i64 t3, .int .i64 g3, .slice A9 l3.length c9] 38)).cell? ⟨w.heap.size + 1 + 1, 1, none⟩ = some (.int .i64 g3) := (blk_cell Z9a.out 1).trans rfl
  have z2 : (w9.alloc (.cells #[.int .i64 t3, .int .i64 g3, .slice A9 l3.length c9] 38)).cell? ⟨w.heap.size + 1 + 1, 2, none⟩ = some (.slice A3 l3.length c3) := (blk_cell Z9a.out 2).trans rfl
  go_wp2_with fail
  clear z0 z1 z2 u0 u1 u2
  generalize w9.alloc (.cells #[.int .i64 t3, .int .i64 g3, .slice A9 l3.length c9] 38) = w9a at *
  refine (same16_true t3 g3 l3 A3 A9 c3 c9 w9a (Kd.C_below H38.out B9a.out) V9a.out HM3.out).mono ?_
  rintro e w10 ⟨rfl, hb⟩
  clear U9a
  clear V9a
  have B10 := Aside0.mk (below_then B9a.out B9a.out.size hb)
  have X10 := Aside0.mk (blk_below X9a.out hb)
  have Y10 := Aside0.mk (blk_below Y9a.out hb)
  have Z10 := Aside0.mk (blk_below Z9a.out hb)
  have R10 := Aside0.mk (Kd.C_below R9a.out hb)
  clear B9a X9a Y9a Z9a R9a
  clear hb
  clear X10
  clear Y10
  clear Z10
  have hL := HLN.out
  have hL0 := HPO.out
  have hA := HCA.out
  obtain ⟨k, hk, hkl⟩ : ∃ k : Nat, Int.tmod (-(cut + 1)) (b.length : Int) = (k : Int) ∧ k < b.length := ⟨(Int.tmod (-(cut + 1)) (b.length : Int)).toNat, by have := Int.tmod_nonneg (b.length : Int) (show 0 ≤ (-(cut + 1)) by omega); omega, by have := Int.tmod_lt_of_pos (-(cut + 1)) (show 0 < (b.length : Int) by omega); have := Int.tmod_nonneg (b.length : Int) (show 0 ≤ (-(cut + 1)) by omega); omega⟩
  go_wp2_with fail
  have hk' : (b.take k).length = k := by rw [List.length_take]; omega
  have hcall := commit_any A4 c4 (b.take k) w10 (Kd.C_take R10.out (Nat.le_of_lt hkl)) (by omega) (by omega) (fun x hx => HBY.out x (List.mem_of_mem_take hx))
  rw [hk'] at hcall
  refine hcall.mono ?_
  rintro e w11 ⟨v11, rfl, ho, hb⟩
  have hne := HCU.out k hkl
  generalize takeCR (b.take k) = rk at *
  obtain ⟨⟨tk, lk⟩, pk, ek⟩ := rk
  obtain ⟨A11, c11, rfl⟩ := Kd.R_slice ho
  dsimp only at hne ⊢
  generalize List.length lk = Lk at *
  clear ho hcall
  have B11 := Aside0.mk (below_then B10.out B10.out.size hb)
  have R11 := Aside0.mk (Kd.C_below R10.out hb)
  clear B10 R10
  clear hb
  have B12 := Aside0.mk (below_alloc B11.out (.cells #[.int .i64 tk, .slice A11 Lk c11] 24))
  have R12 := Aside0.mk (Kd.C_alloc R11.out (.cells #[.int .i64 tk, .slice A11 Lk c11] 24))
  clear B11 R11
  have HNE := Aside0.mk hne
  have HLB := Aside0.mk hL
  clear hne hk hk'
  have HSZ := Aside0.mk (show w11.heap.size + 1 = (w11.alloc (.cells #[.int .i64 tk, .slice A11 Lk c11] 24)).heap.size from (size_alloc _ _).symm)
  go_wp2_with (at_builtin; first | (refine Kd.R_append_rows (Kd.int .u8) (w0 := (w11.alloc (.cells #[.int .i64 tk, .slice A11 Lk c11] 24))) (w11.alloc (.cells #[.int .i64 tk, .slice A11 Lk c11] 24)).heap.size rfl (.tmp 129) (.tmp 130) 28 5 (.int .u8 0) 1 rfl Try.underlying28 info5 rfl (by decide) (by omega) _ ([] : List Int) b _ _ _ (fun _ => True) (fun _ => False) rfl rfl (R_new8 (w11.alloc (.cells #[.int .i64 tk, .slice A11 Lk c11] 24)) _ HSZ.out) (Kd.C_alloc R12.out _) (fun _ _ h => h) (fun _ h => h.elim) (fun _ _ => trivial) (below_alloc (Below.refl _ _) _) (by simp) (by have := HLB.out; simp; omega) ?_; intro va wa ho hb hg hat; have HOA := Aside0.mk ho; have HBA := Aside0.mk hb; clear ho hb hg hat) | go_must (refine app8 (w11.alloc (.cells #[.int .i64 tk, .slice A11 Lk c11] 24)).heap.size rfl (.tmp 131) (.tmp 132) rfl _ ([] ++ b) _ (fun _ => True) rfl rfl (fun _ _ => trivial) HOA.out HBA.out HBA.out.size (by have := HLB.out; simp; omega) ?_; intro vb wb ho hb hg; have HOB := Aside0.mk ho; have HBB := Aside0.mk hb; clear ho hb hg))
  clear HOA HBA
  have hb := HBB.out
  have ho := HOB.out
  clear HOB HBB
  obtain ⟨A12, c12, rfl⟩ := Kd.R_slice ho
  obtain ⟨_, hq, hr⟩ := Kd.R_reads' ho
  have B13 := Aside0.mk (below_then B12.out B12.out.size hb)
  have R13 := Aside0.mk (Kd.C_below R12.out hb)
  clear B12 R12
  clear hb
  have T13 := Aside0.mk (hr)
  have hll : ([] ++ b ++ [(0 : Int)]).length = (b ++ [0]).length := rfl
  have hcall := commit_any A12 c12 (b ++ [0]) wb T13.out (by simpa using hq) (by simp; omega) (Bytes.app HBY.out (by decide))
  clear ho hq hr
  clear T13
  refine hcall.mono ?_
  rintro e w14 ⟨v14, rfl, ho, hb⟩
  have hmo := HMO.out
  generalize takeCR (b ++ [0]) = rk at *
  obtain ⟨⟨tm, lm⟩, pm, em⟩ := rk
  dsimp only at hmo
  subst hmo
  obtain ⟨A14, c14, rfl⟩ := Kd.R_slice ho
  dsimp only
  generalize List.length lm = Lm at *
  clear ho hcall
  have B14 := Aside0.mk (below_then B13.out B13.out.size hb)
  have R14 := Aside0.mk (Kd.C_below R13.out hb)
  clear B13 R13
  clear hb
  have B15 := Aside0.mk (below_alloc B14.out (.cells #[.int .i64 tm, .slice A14 Lm c14] 24))
  have R15 := Aside0.mk (Kd.C_alloc R14.out (.cells #[.int .i64 tm, .slice A14 Lm c14] 24))
  clear B14 R14
  go_wp2_with fail
  generalize w14.alloc (.cells #[.int .i64 tm, .slice A14 Lm c14] 24) = w15 at *
  refine (row_any A4 c4 b w15 R15.out HCA.out (by omega) HBY.out).mono ?_
  rintro e w16 ⟨rfl, hb⟩
  have hro := HRO.out
  generalize takeRR b = rk at *
  obtain ⟨⟨kr, vr, tr⟩, pr, er⟩ := rk
  dsimp only at hro
  subst hro
  dsimp only
  have B16 := Aside0.mk (below_then B15.out B15.out.size hb)
  have R16 := Aside0.mk (Kd.C_below R15.out hb)
  clear B15 R15
  clear hb
  have B17 := Aside0.mk (below_alloc B16.out (.cells #[.string kr, .string vr, .int .i64 tr] 45))
  have R17 := Aside0.mk (Kd.C_alloc R16.out (.cells #[.string kr, .string vr, .int .i64 tr] 45))
  clear B16 R16
  have hne := HNE.out
  have hne' : (ek != 0) = true := bne_iff_ne.mpr hne
  go_wp2_with fail
  go_ret
  exact ⟨rfl, B17.out⟩

set_option maxRecDepth 100000 in
set_option maxHeartbeats 3200000 in
theorem recordBack_CRMp (t : Int) (l : List W27) (A : Option Addr) (c : Nat) (key val : ByteArray) (t2 : Int) (t3 g3 : Int) (l3 : List P43) (A3 : Option Addr) (c3 : Nat) (cut : Int) (w : World)
    (h24 : k27.C w A l.length l) (h38 : k43.C w A3 l3.length l3) (hwf : ∀ x ∈ l3, (Lit.int .i64 x.num).wf = true) (hC : rightC t l = true) (hR : rightR key val t2 = true) (hM : rightM t3 g3 l3 = true) (hcut : 0 ≤ cut) (hmax : cut ≤ 9223372036854775807) :
    Calls Try.prog 6 #[.agg #[.int .i64 t, .slice A l.length c], .agg #[.string key, .string val, .int .i64 t2], .agg #[.int .i64 t3, .int .i64 g3, .slice A3 l3.length c3], .int .i64 cut] w fun e w' => e = .returned (.bool true) ∧ Below w.heap.size w w' := by
  have hu24 := Try.underlying24
  have hu45 := Try.underlying45
  have H24 := Aside0.mk h24
  have H38 := Aside0.mk h38
  have HWF := Aside0.mk hwf
  have HBY := Aside0.mk (commitB_bytes t l)
  have HLN := Aside0.mk (commitB_len t l hC)
  have HPC := Aside0.mk (show putC t l = (commitB t l, 0) by unfold putC; rw [if_pos hC])
  have HBK := Aside0.mk (back_C t l hC)
  have HCU := Aside0.mk (cut_C t l hC (commitB_bytes t l))
  have HMO := Aside0.mk (more_C t l hC)
  have HRO := Aside0.mk (row_C t l)
  have HPO := Aside0.mk (show 0 < (commitB t l).length by unfold commitB; simp)
  have HSM := Aside0.mk (show l.length < 9223372036854775807 by have := (rightC_small t l hC).1; omega)
  have HRP := Aside0.mk (show putR key val t2 = (rowB key val t2, 0) by unfold putR; rw [if_pos hR])
  have HRB := Aside0.mk (rowB_bytes key val t2)
  have HRL := Aside0.mk (rowB_len key val t2 hR)
  have HRK := Aside0.mk (back_R key val t2 hR)
  have HMP := Aside0.mk (show putM t3 g3 l3 = (manifestB t3 g3 l3, 0) by unfold putM; rw [if_pos hM])
  have HMB := Aside0.mk (manifestB_bytes t3 g3 l3)
  have HML := Aside0.mk (manifestB_len t3 g3 l3 hM)
  have HMK := Aside0.mk (back_M t3 g3 l3 hM)
  have HM3 := Aside0.mk (show l3.length < 9223372036854775807 by have := rightM_len t3 g3 l3 hM; omega)
  clear h24 h38 hwf hC hR hM
  have hy := blk_new (w.alloc (.cells #[.int .i64 t, .slice A l.length c] 24)) (.cells #[.string key, .string val, .int .i64 t2] 45)
  rw [size_alloc] at hy
  have hz := blk_new ((w.alloc (.cells #[.int .i64 t, .slice A l.length c] 24)).alloc (.cells #[.string key, .string val, .int .i64 t2] 45)) (.cells #[.int .i64 t3, .int .i64 g3, .slice A3 l3.length c3] 38)
  rw [size_alloc, size_alloc] at hz
  have B1 := Aside0.mk (below_alloc (below_alloc (below_alloc (Below.refl w.heap.size w) (.cells #[.int .i64 t, .slice A l.length c] 24)) (.cells #[.string key, .string val, .int .i64 t2] 45)) (.cells #[.int .i64 t3, .int .i64 g3, .slice A3 l3.length c3] 38))
  have X1 := Aside0.mk (blk_alloc (blk_alloc (blk_new w (.cells #[.int .i64 t, .slice A l.length c] 24)) (.cells #[.string key, .string val, .int .i64 t2] 45)) (.cells #[.int .i64 t3, .int .i64 g3, .slice A3 l3.length c3] 38))
  have Y1 := Aside0.mk (blk_alloc hy (.cells #[.int .i64 t3, .int .i64 g3, .slice A3 l3.length c3] 38))
  have Z1 := Aside0.mk (hz)
  clear hy hz
  go_enter Try.func6, Try.ntmps6
  go_wp2_with fail
  generalize ((w.alloc (.cells #[.int .i64 t, .slice A l.length c] 24)).alloc (.cells #[.string key, .string val, .int .i64 t2] 45)).alloc (.cells #[.int .i64 t3, .int .i64 g3, .slice A3 l3.length c3] 38) = w1 at *
  refine (shown_any w1).mono ?_
  rintro e w2 ⟨rfl, hb⟩
  have B2 := Aside0.mk (below_then B1.out B1.out.size hb)
  have X2 := Aside0.mk (blk_below X1.out hb)
  have Y2 := Aside0.mk (blk_below Y1.out hb)
  have Z2 := Aside0.mk (blk_below Z1.out hb)
  clear B1 X1 Y1 Z1
  clear hb
  have x0 : (w2).cell? ⟨w.heap.size, 0, none⟩ = some (.int .i64 t) := (blk_cell X2.out 0).trans rfl
  have x1 : (w2).cell? ⟨w.heap.size, 1, none⟩ = some (.slice A l.length c) := (blk_cell X2.out 1).trans rfl
  go_wp2_with fail
  refine (putCommit_any t l A c w2 (Kd.C_below H24.out B2.out)).mono ?_
  rintro e w3 ⟨v3, rfl, ho, hb⟩
  clear x0 x1
  rw [HPC.out] at ho ⊢
  generalize commitB t l = b at *
  obtain ⟨A4, c4, rfl⟩ := Kd.R_slice ho
  obtain ⟨_, hq, hr⟩ := Kd.R_reads' ho
  have B3 := Aside0.mk (below_then B2.out B2.out.size hb)
  have X3 := Aside0.mk (blk_below X2.out hb)
  have Y3 := Aside0.mk (blk_below Y2.out hb)
  have Z3 := Aside0.mk (blk_below Z2.out hb)
  clear B2 X2 Y2 Z2
  clear hb
  have R3 := Aside0.mk (hr)
  have HCA := Aside0.mk hq
  clear ho hq hr
  dsimp only
  go_wp2_with fail
  refine (commit_any A4 c4 b w3 R3.out HCA.out (by have := HLN.out; omega) HBY.out).mono ?_
  rintro e w4 ⟨v4, rfl, ho, hb⟩
  rw [HBK.out] at ho ⊢
  obtain ⟨A5, c5, rfl⟩ := Kd.R_slice ho
  have hr := (Kd.R_reads' ho).2.2
  have B4 := Aside0.mk (below_then B3.out B3.out.size hb)
  have X4 := Aside0.mk (blk_below X3.out hb)
  have Y4 := Aside0.mk (blk_below Y3.out hb)
  have Z4 := Aside0.mk (blk_below Z3.out hb)
  have R4 := Aside0.mk (Kd.C_below R3.out hb)
  clear B3 X3 Y3 Z3 R3
  clear hb
  have V4 := Aside0.mk (hr)
  clear ho hr
  dsimp only
  have B4a := Aside0.mk (below_alloc B4.out (.cells #[.int .i64 t, .slice A5 l.length c5] 24))
  have X4a := Aside0.mk (blk_alloc X4.out (.cells #[.int .i64 t, .slice A5 l.length c5] 24))
  have Y4a := Aside0.mk (blk_alloc Y4.out (.cells #[.int .i64 t, .slice A5 l.length c5] 24))
  have Z4a := Aside0.mk (blk_alloc Z4.out (.cells #[.int .i64 t, .slice A5 l.length c5] 24))
  have R4a := Aside0.mk (Kd.C_alloc R4.out (.cells #[.int .i64 t, .slice A5 l.length c5] 24))
  have V4a := Aside0.mk (Kd.C_alloc V4.out (.cells #[.int .i64 t, .slice A5 l.length c5] 24))
  clear B4 X4 Y4 Z4 R4 V4
  have U4a := Aside0.mk (blk_new w4 (.cells #[.int .i64 t, .slice A5 l.length c5] 24))
  have x0 : (w4.alloc (.cells #[.int .i64 t, .slice A5 l.length c5] 24)).cell? ⟨w.heap.size, 0, none⟩ = some (.int .i64 t) := (blk_cell X4a.out 0).trans rfl
  have x1 : (w4.alloc (.cells #[.int .i64 t, .slice A5 l.length c5] 24)).cell? ⟨w.heap.size, 1, none⟩ = some (.slice A l.length c) := (blk_cell X4a.out 1).trans rfl
  have u0 : (w4.alloc (.cells #[.int .i64 t, .slice A5 l.length c5] 24)).cell? ⟨w4.heap.size, 0, none⟩ = some (.int .i64 t) := (blk_cell U4a.out 0).trans rfl
  have u1 : (w4.alloc (.cells #[.int .i64 t, .slice A5 l.length c5] 24)).cell? ⟨w4.heap.size, 1, none⟩ = some (.slice A5 l.length c5) := (blk_cell U4a.out 1).trans rfl
  go_wp2_with fail
  clear x0 x1 u0 u1
  generalize w4.alloc (.cells #[.int .i64 t, .slice A5 l.length c5] 24) = w4a at *
  refine (same11_true t l A A5 c c5 w4a (Kd.C_below H24.out B4a.out) V4a.out HSM.out).mono ?_
  rintro e w5 ⟨rfl, hb⟩
  clear U4a
  clear V4a
  have B5 := Aside0.mk (below_then B4a.out B4a.out.size hb)
  have X5 := Aside0.mk (blk_below X4a.out hb)
  have Y5 := Aside0.mk (blk_below Y4a.out hb)
  have Z5 := Aside0.mk (blk_below Z4a.out hb)
  have R5 := Aside0.mk (Kd.C_below R4a.out hb)
  clear B4a X4a Y4a Z4a R4a
  clear hb
  have y0 : (w5).cell? ⟨w.heap.size + 1, 0, none⟩ = some (.string key) := (blk_cell Y5.out 0).trans rfl
  have y1 : (w5).cell? ⟨w.heap.size + 1, 1, none⟩ = some (.string val) := (blk_cell Y5.out 1).trans rfl
  have y2 : (w5).cell? ⟨w.heap.size + 1, 2, none⟩ = some (.int .i64 t2) := (blk_cell Y5.out 2).trans rfl
  go_wp2_with fail
  refine (putRow_any key val t2 w5).mono ?_
  rintro e w6 ⟨v6, rfl, ho, hb⟩
  clear y0 y1 y2
  rw [HRP.out] at ho ⊢
  generalize rowB key val t2 = b6 at *
  obtain ⟨A6, c6, rfl⟩ := Kd.R_slice ho
  obtain ⟨_, hq, hr⟩ := Kd.R_reads' ho
  have B6 := Aside0.mk (below_then B5.out B5.out.size hb)
  have X6 := Aside0.mk (blk_below X5.out hb)
  have Y6 := Aside0.mk (blk_below Y5.out hb)
  have Z6 := Aside0.mk (blk_below Z5.out hb)
  have R6 := Aside0.mk (Kd.C_below R5.out hb)
  clear B5 X5 Y5 Z5 R5
  clear hb
  have S6 := Aside0.mk (hr)
  have HCB := Aside0.mk hq
  clear ho hq hr
  dsimp only
  go_wp2_with fail
  refine (row_any A6 c6 b6 w6 S6.out HCB.out (by have := HRL.out; omega) HRB.out).mono ?_
  rintro e w7 ⟨rfl, hb⟩
  rw [HRK.out]
  clear S6
  have B7 := Aside0.mk (below_then B6.out B6.out.size hb)
  have X7 := Aside0.mk (blk_below X6.out hb)
  have Y7 := Aside0.mk (blk_below Y6.out hb)
  have Z7 := Aside0.mk (blk_below Z6.out hb)
  have R7 := Aside0.mk (Kd.C_below R6.out hb)
  clear B6 X6 Y6 Z6 R6
  clear hb
  dsimp only
  have B7a := Aside0.mk (below_alloc B7.out (.cells #[.string key, .string val, .int .i64 t2] 45))
  have X7a := Aside0.mk (blk_alloc X7.out (.cells #[.string key, .string val, .int .i64 t2] 45))
  have Y7a := Aside0.mk (blk_alloc Y7.out (.cells #[.string key, .string val, .int .i64 t2] 45))
  have Z7a := Aside0.mk (blk_alloc Z7.out (.cells #[.string key, .string val, .int .i64 t2] 45))
  have R7a := Aside0.mk (Kd.C_alloc R7.out (.cells #[.string key, .string val, .int .i64 t2] 45))
  clear B7 X7 Y7 Z7 R7
  have U7a := Aside0.mk (blk_new w7 (.cells #[.string key, .string val, .int .i64 t2] 45))
  have u0 : (w7.alloc (.cells #[.string key, .string val, .int .i64 t2] 45)).cell? ⟨w7.heap.size, 0, none⟩ = some (.string key) := (blk_cell U7a.out 0).trans rfl
  have u1 : (w7.alloc (.cells #[.string key, .string val, .int .i64 t2] 45)).cell? ⟨w7.heap.size, 1, none⟩ = some (.string val) := (blk_cell U7a.out 1).trans rfl
  have u2 : (w7.alloc (.cells #[.string key, .string val, .int .i64 t2] 45)).cell? ⟨w7.heap.size, 2, none⟩ = some (.int .i64 t2) := (blk_cell U7a.out 2).trans rfl
  have y0 : (w7.alloc (.cells #[.string key, .string val, .int .i64 t2] 45)).cell? ⟨w.heap.size + 1, 0, none⟩ = some (.string key) := (blk_cell Y7a.out 0).trans rfl
  have y1 : (w7.alloc (.cells #[.string key, .string val, .int .i64 t2] 45)).cell? ⟨w.heap.size + 1, 1, none⟩ = some (.string val) := (blk_cell Y7a.out 1).trans rfl
  have y2 : (w7.alloc (.cells #[.string key, .string val, .int .i64 t2] 45)).cell? ⟨w.heap.size + 1, 2, none⟩ = some (.int .i64 t2) := (blk_cell Y7a.out 2).trans rfl
  have z0 : (w7.alloc (.cells #[.string key, .string val, .int .i64 t2] 45)).cell? ⟨w.heap.size + 1 + 1, 0, none⟩ = some (.int .i64 t3) := (blk_cell Z7a.out 0).trans rfl
  have z1 : (w7.alloc (.cells #[.string key, .string val, .int .i64 t2] 45)).cell? ⟨w.heap.size + 1 + 1, 1, none⟩ = some (.int .i64 g3) := (blk_cell Z7a.out 1).trans rfl
  have z2 : (w7.alloc (.cells #[.string key, .string val, .int .i64 t2] 45)).cell? ⟨w.heap.size + 1 + 1, 2, none⟩ = some (.slice A3 l3.length c3) := (blk_cell Z7a.out 2).trans rfl
  go_wp2_with fail
  generalize w7.alloc (.cells #[.string key, .string val, .int .i64 t2] 45) = w7a at *
  clear z0 z1 z2 u0 u1 u2 y0 y1 y2
  clear U7a
  refine (putManifest_any t3 g3 l3 A3 c3 w7a (Kd.C_below H38.out B7a.out) HWF.out).mono ?_
  rintro e w8 ⟨v8, rfl, ho, hb⟩
  rw [HMP.out] at ho ⊢
  generalize manifestB t3 g3 l3 = b8 at *
  obtain ⟨A8, c8, rfl⟩ := Kd.R_slice ho
  obtain ⟨_, hq, hr⟩ := Kd.R_reads' ho
  have B8 := Aside0.mk (below_then B7a.out B7a.out.size hb)
  have X8 := Aside0.mk (blk_below X7a.out hb)
  have Y8 := Aside0.mk (blk_below Y7a.out hb)
  have Z8 := Aside0.mk (blk_below Z7a.out hb)
  have R8 := Aside0.mk (Kd.C_below R7a.out hb)
  clear B7a X7a Y7a Z7a R7a
  clear hb
  have S8 := Aside0.mk (hr)
  have HCM := Aside0.mk hq
  clear ho hq hr
  dsimp only
  go_wp2_with fail
  refine (manifest_any A8 c8 b8 w8 S8.out HCM.out (by have := HML.out; omega) HMB.out).mono ?_
  rintro e w9 ⟨v9, rfl, ho, hb⟩
  rw [HMK.out] at ho ⊢
  obtain ⟨A9, c9, rfl⟩ := Kd.R_slice ho
  have hr := (Kd.R_reads' ho).2.2
  clear S8
  have B9 := Aside0.mk (below_then B8.out B8.out.size hb)
  have X9 := Aside0.mk (blk_below X8.out hb)
  have Y9 := Aside0.mk (blk_below Y8.out hb)
  have Z9 := Aside0.mk (blk_below Z8.out hb)
  have R9 := Aside0.mk (Kd.C_below R8.out hb)
  clear B8 X8 Y8 Z8 R8
  clear hb
  have V9 := Aside0.mk (hr)
  clear ho hr
  dsimp only
  have B9a := Aside0.mk (below_alloc B9.out (.cells #[.int .i64 t3, .int .i64 g3, .slice A9 l3.length c9] 38))
  have X9a := Aside0.mk (blk_alloc X9.out (.cells #[.int .i64 t3, .int .i64 g3, .slice A9 l3.length c9] 38))
  have Y9a := Aside0.mk (blk_alloc Y9.out (.cells #[.int .i64 t3, .int .i64 g3, .slice A9 l3.length c9] 38))
  have Z9a := Aside0.mk (blk_alloc Z9.out (.cells #[.int .i64 t3, .int .i64 g3, .slice A9 l3.length c9] 38))
  have R9a := Aside0.mk (Kd.C_alloc R9.out (.cells #[.int .i64 t3, .int .i64 g3, .slice A9 l3.length c9] 38))
  have V9a := Aside0.mk (Kd.C_alloc V9.out (.cells #[.int .i64 t3, .int .i64 g3, .slice A9 l3.length c9] 38))
  clear B9 X9 Y9 Z9 R9 V9
  have U9a := Aside0.mk (blk_new w9 (.cells #[.int .i64 t3, .int .i64 g3, .slice A9 l3.length c9] 38))
  have u0 : (w9.alloc (.cells #[.int .i64 t3, .int .i64 g3, .slice A9 l3.length c9] 38)).cell? ⟨w9.heap.size, 0, none⟩ = some (.int .i64 t3) := (blk_cell U9a.out 0).trans rfl
  have u1 : (w9.alloc (.cells #[.int .i64 t3, .int .i64 g3, .slice A9 l3.length c9] 38)).cell? ⟨w9.heap.size, 1, none⟩ = some (.int .i64 g3) := (blk_cell U9a.out 1).trans rfl
  have u2 : (w9.alloc (.cells #[.int .i64 t3, .int .i64 g3, .slice A9 l3.length c9] 38)).cell? ⟨w9.heap.size, 2, none⟩ = some (.slice A9 l3.length c9) := (blk_cell U9a.out 2).trans rfl
  have z0 : (w9.alloc (.cells #[.int .i64 t3, .int .i64 g3, .slice A9 l3.length c9] 38)).cell? ⟨w.heap.size + 1 + 1, 0, none⟩ = some (.int .i64 t3) := (blk_cell Z9a.out 0).trans rfl
  have z1 : (w9.alloc (.cells #[.int .i64 t3, .int .i64 g3, .slice A9 l3.length c9] 38)).cell? ⟨w.heap.size + 1 + 1, 1, none⟩ = some (.int .i64 g3) := (blk_cell Z9a.out 1).trans rfl
  have z2 : (w9.alloc (.cells #[.int .i64 t3, .int .i64 g3, .slice A9 l3.length c9] 38)).cell? ⟨w.heap.size + 1 + 1, 2, none⟩ = some (.slice A3 l3.length c3) := (blk_cell Z9a.out 2).trans rfl
  go_wp2_with fail
  clear z0 z1 z2 u0 u1 u2
  generalize w9.alloc (.cells #[.int .i64 t3, .int .i64 g3, .slice A9 l3.length c9] 38) = w9a at *
  refine (same16_true t3 g3 l3 A3 A9 c3 c9 w9a (Kd.C_below H38.out B9a.out) V9a.out HM3.out).mono ?_
  rintro e w10 ⟨rfl, hb⟩
  clear U9a
  clear V9a
  have B10 := Aside0.mk (below_then B9a.out B9a.out.size hb)
  have X10 := Aside0.mk (blk_below X9a.out hb)
  have Y10 := Aside0.mk (blk_below Y9a.out hb)
  have Z10 := Aside0.mk (blk_below Z9a.out hb)
  have R10 := Aside0.mk (Kd.C_below R9a.out hb)
  clear B9a X9a Y9a Z9a R9a
  clear hb
  clear X10
  clear Y10
  clear Z10
  have hL := HLN.out
  have hL0 := HPO.out
  have hA := HCA.out
  obtain ⟨k, hk, hkl⟩ : ∃ k : Nat, Int.tmod cut (b.length : Int) = (k : Int) ∧ k < b.length := ⟨(Int.tmod cut (b.length : Int)).toNat, by have := Int.tmod_nonneg (b.length : Int) (show 0 ≤ cut by omega); omega, by have := Int.tmod_lt_of_pos cut (show 0 < (b.length : Int) by omega); have := Int.tmod_nonneg (b.length : Int) (show 0 ≤ cut by omega); omega⟩
  go_wp2_with fail
  have hk' : (b.take k).length = k := by rw [List.length_take]; omega
  have hcall := commit_any A4 c4 (b.take k) w10 (Kd.C_take R10.out (Nat.le_of_lt hkl)) (by omega) (by omega) (fun x hx => HBY.out x (List.mem_of_mem_take hx))
  rw [hk'] at hcall
  refine hcall.mono ?_
  rintro e w11 ⟨v11, rfl, ho, hb⟩
  have hne := HCU.out k hkl
  generalize takeCR (b.take k) = rk at *
  obtain ⟨⟨tk, lk⟩, pk, ek⟩ := rk
  obtain ⟨A11, c11, rfl⟩ := Kd.R_slice ho
  dsimp only at hne ⊢
  generalize List.length lk = Lk at *
  clear ho hcall
  have B11 := Aside0.mk (below_then B10.out B10.out.size hb)
  have R11 := Aside0.mk (Kd.C_below R10.out hb)
  clear B10 R10
  clear hb
  have B12 := Aside0.mk (below_alloc B11.out (.cells #[.int .i64 tk, .slice A11 Lk c11] 24))
  have R12 := Aside0.mk (Kd.C_alloc R11.out (.cells #[.int .i64 tk, .slice A11 Lk c11] 24))
  clear B11 R11
  have HNE := Aside0.mk hne
  have HLB := Aside0.mk hL
  clear hne hk hk'
  have HSZ := Aside0.mk (show w11.heap.size + 1 = (w11.alloc (.cells #[.int .i64 tk, .slice A11 Lk c11] 24)).heap.size from (size_alloc _ _).symm)
  go_wp2_with (at_builtin; first | (refine Kd.R_append_rows (Kd.int .u8) (w0 := (w11.alloc (.cells #[.int .i64 tk, .slice A11 Lk c11] 24))) (w11.alloc (.cells #[.int .i64 tk, .slice A11 Lk c11] 24)).heap.size rfl (.tmp 129) (.tmp 130) 28 5 (.int .u8 0) 1 rfl Try.underlying28 info5 rfl (by decide) (by omega) _ ([] : List Int) b _ _ _ (fun _ => True) (fun _ => False) rfl rfl (R_new8 (w11.alloc (.cells #[.int .i64 tk, .slice A11 Lk c11] 24)) _ HSZ.out) (Kd.C_alloc R12.out _) (fun _ _ h => h) (fun _ h => h.elim) (fun _ _ => trivial) (below_alloc (Below.refl _ _) _) (by simp) (by have := HLB.out; simp; omega) ?_; intro va wa ho hb hg hat; have HOA := Aside0.mk ho; have HBA := Aside0.mk hb; clear ho hb hg hat) | go_must (refine app8 (w11.alloc (.cells #[.int .i64 tk, .slice A11 Lk c11] 24)).heap.size rfl (.tmp 131) (.tmp 132) rfl _ ([] ++ b) _ (fun _ => True) rfl rfl (fun _ _ => trivial) HOA.out HBA.out HBA.out.size (by have := HLB.out; simp; omega) ?_; intro vb wb ho hb hg; have HOB := Aside0.mk ho; have HBB := Aside0.mk hb; clear ho hb hg))
  clear HOA HBA
  have hb := HBB.out
  have ho := HOB.out
  clear HOB HBB
  obtain ⟨A12, c12, rfl⟩ := Kd.R_slice ho
  obtain ⟨_, hq, hr⟩ := Kd.R_reads' ho
  have B13 := Aside0.mk (below_then B12.out B12.out.size hb)
  have R13 := Aside0.mk (Kd.C_below R12.out hb)
  clear B12 R12
  clear hb
  have T13 := Aside0.mk (hr)
  have hll : ([] ++ b ++ [(0 : Int)]).length = (b ++ [0]).length := rfl
  have hcall := commit_any A12 c12 (b ++ [0]) wb T13.out (by simpa using hq) (by simp; omega) (Bytes.app HBY.out (by decide))
  clear ho hq hr
  clear T13
  refine hcall.mono ?_
  rintro e w14 ⟨v14, rfl, ho, hb⟩
  have hmo := HMO.out
  generalize takeCR (b ++ [0]) = rk at *
  obtain ⟨⟨tm, lm⟩, pm, em⟩ := rk
  dsimp only at hmo
  subst hmo
  obtain ⟨A14, c14, rfl⟩ := Kd.R_slice ho
  dsimp only
  generalize List.length lm = Lm at *
  clear ho hcall
  have B14 := Aside0.mk (below_then B13.out B13.out.size hb)
  have R14 := Aside0.mk (Kd.C_below R13.out hb)
  clear B13 R13
  clear hb
  have B15 := Aside0.mk (below_alloc B14.out (.cells #[.int .i64 tm, .slice A14 Lm c14] 24))
  have R15 := Aside0.mk (Kd.C_alloc R14.out (.cells #[.int .i64 tm, .slice A14 Lm c14] 24))
  clear B14 R14
  go_wp2_with fail
  generalize w14.alloc (.cells #[.int .i64 tm, .slice A14 Lm c14] 24) = w15 at *
  refine (row_any A4 c4 b w15 R15.out HCA.out (by omega) HBY.out).mono ?_
  rintro e w16 ⟨rfl, hb⟩
  have hro := HRO.out
  generalize takeRR b = rk at *
  obtain ⟨⟨kr, vr, tr⟩, pr, er⟩ := rk
  dsimp only at hro
  subst hro
  dsimp only
  have B16 := Aside0.mk (below_then B15.out B15.out.size hb)
  have R16 := Aside0.mk (Kd.C_below R15.out hb)
  clear B15 R15
  clear hb
  have B17 := Aside0.mk (below_alloc B16.out (.cells #[.string kr, .string vr, .int .i64 tr] 45))
  have R17 := Aside0.mk (Kd.C_alloc R16.out (.cells #[.string kr, .string vr, .int .i64 tr] 45))
  clear B16 R16
  have hne := HNE.out
  have hne' : (ek != 0) = true := bne_iff_ne.mpr hne
  go_wp2_with fail
  go_ret
  exact ⟨rfl, B17.out⟩

set_option maxRecDepth 100000 in
set_option maxHeartbeats 3200000 in
theorem recordBack_CRNn (t : Int) (l : List W27) (A : Option Addr) (c : Nat) (key val : ByteArray) (t2 : Int) (t3 g3 : Int) (l3 : List P43) (A3 : Option Addr) (c3 : Nat) (cut : Int) (w : World)
    (h24 : k27.C w A l.length l) (h38 : k43.C w A3 l3.length l3) (hwf : ∀ x ∈ l3, (Lit.int .i64 x.num).wf = true) (hC : rightC t l = true) (hR : rightR key val t2 = true) (hM : rightM t3 g3 l3 = false) (hcut : cut < 0) (hmin : -9223372036854775808 ≤ cut) :
    Calls Try.prog 6 #[.agg #[.int .i64 t, .slice A l.length c], .agg #[.string key, .string val, .int .i64 t2], .agg #[.int .i64 t3, .int .i64 g3, .slice A3 l3.length c3], .int .i64 cut] w fun e w' => e = .returned (.bool true) ∧ Below w.heap.size w w' := by
  have hu24 := Try.underlying24
  have hu45 := Try.underlying45
  have H24 := Aside0.mk h24
  have H38 := Aside0.mk h38
  have HWF := Aside0.mk hwf
  have HBY := Aside0.mk (commitB_bytes t l)
  have HLN := Aside0.mk (commitB_len t l hC)
  have HPC := Aside0.mk (show putC t l = (commitB t l, 0) by unfold putC; rw [if_pos hC])
  have HBK := Aside0.mk (back_C t l hC)
  have HCU := Aside0.mk (cut_C t l hC (commitB_bytes t l))
  have HMO := Aside0.mk (more_C t l hC)
  have HRO := Aside0.mk (row_C t l)
  have HPO := Aside0.mk (show 0 < (commitB t l).length by unfold commitB; simp)
  have HSM := Aside0.mk (show l.length < 9223372036854775807 by have := (rightC_small t l hC).1; omega)
  have HRP := Aside0.mk (show putR key val t2 = (rowB key val t2, 0) by unfold putR; rw [if_pos hR])
  have HRB := Aside0.mk (rowB_bytes key val t2)
  have HRL := Aside0.mk (rowB_len key val t2 hR)
  have HRK := Aside0.mk (back_R key val t2 hR)
  have HMP := Aside0.mk (show putM t3 g3 l3 = ([], 60) by unfold putM; rw [hM]; rfl)
  clear h24 h38 hwf hC hR hM
  have hy := blk_new (w.alloc (.cells #[.int .i64 t, .slice A l.length c] 24)) (.cells #[.string key, .string val, .int .i64 t2] 45)
  rw [size_alloc] at hy
  have hz := blk_new ((w.alloc (.cells #[.int .i64 t, .slice A l.length c] 24)).alloc (.cells #[.string key, .string val, .int .i64 t2] 45)) (.cells #[.int .i64 t3, .int .i64 g3, .slice A3 l3.length c3] 38)
  rw [size_alloc, size_alloc] at hz
  have B1 := Aside0.mk (below_alloc (below_alloc (below_alloc (Below.refl w.heap.size w) (.cells #[.int .i64 t, .slice A l.length c] 24)) (.cells #[.string key, .string val, .int .i64 t2] 45)) (.cells #[.int .i64 t3, .int .i64 g3, .slice A3 l3.length c3] 38))
  have X1 := Aside0.mk (blk_alloc (blk_alloc (blk_new w (.cells #[.int .i64 t, .slice A l.length c] 24)) (.cells #[.string key, .string val, .int .i64 t2] 45)) (.cells #[.int .i64 t3, .int .i64 g3, .slice A3 l3.length c3] 38))
  have Y1 := Aside0.mk (blk_alloc hy (.cells #[.int .i64 t3, .int .i64 g3, .slice A3 l3.length c3] 38))
  have Z1 := Aside0.mk (hz)
  clear hy hz
  go_enter Try.func6, Try.ntmps6
  go_wp2_with fail
  generalize ((w.alloc (.cells #[.int .i64 t, .slice A l.length c] 24)).alloc (.cells #[.string key, .string val, .int .i64 t2] 45)).alloc (.cells #[.int .i64 t3, .int .i64 g3, .slice A3 l3.length c3] 38) = w1 at *
  refine (shown_any w1).mono ?_
  rintro e w2 ⟨rfl, hb⟩
  have B2 := Aside0.mk (below_then B1.out B1.out.size hb)
  have X2 := Aside0.mk (blk_below X1.out hb)
  have Y2 := Aside0.mk (blk_below Y1.out hb)
  have Z2 := Aside0.mk (blk_below Z1.out hb)
  clear B1 X1 Y1 Z1
  clear hb
  have x0 : (w2).cell? ⟨w.heap.size, 0, none⟩ = some (.int .i64 t) := (blk_cell X2.out 0).trans rfl
  have x1 : (w2).cell? ⟨w.heap.size, 1, none⟩ = some (.slice A l.length c) := (blk_cell X2.out 1).trans rfl
  go_wp2_with fail
  refine (putCommit_any t l A c w2 (Kd.C_below H24.out B2.out)).mono ?_
  rintro e w3 ⟨v3, rfl, ho, hb⟩
  clear x0 x1
  rw [HPC.out] at ho ⊢
  generalize commitB t l = b at *
  obtain ⟨A4, c4, rfl⟩ := Kd.R_slice ho
  obtain ⟨_, hq, hr⟩ := Kd.R_reads' ho
  have B3 := Aside0.mk (below_then B2.out B2.out.size hb)
  have X3 := Aside0.mk (blk_below X2.out hb)
  have Y3 := Aside0.mk (blk_below Y2.out hb)
  have Z3 := Aside0.mk (blk_below Z2.out hb)
  clear B2 X2 Y2 Z2
  clear hb
  have R3 := Aside0.mk (hr)
  have HCA := Aside0.mk hq
  clear ho hq hr
  dsimp only
  go_wp2_with fail
  refine (commit_any A4 c4 b w3 R3.out HCA.out (by have := HLN.out; omega) HBY.out).mono ?_
  rintro e w4 ⟨v4, rfl, ho, hb⟩
  rw [HBK.out] at ho ⊢
  obtain ⟨A5, c5, rfl⟩ := Kd.R_slice ho
  have hr := (Kd.R_reads' ho).2.2
  have B4 := Aside0.mk (below_then B3.out B3.out.size hb)
  have X4 := Aside0.mk (blk_below X3.out hb)
  have Y4 := Aside0.mk (blk_below Y3.out hb)
  have Z4 := Aside0.mk (blk_below Z3.out hb)
  have R4 := Aside0.mk (Kd.C_below R3.out hb)
  clear B3 X3 Y3 Z3 R3
  clear hb
  have V4 := Aside0.mk (hr)
  clear ho hr
  dsimp only
  have B4a := Aside0.mk (below_alloc B4.out (.cells #[.int .i64 t, .slice A5 l.length c5] 24))
  have X4a := Aside0.mk (blk_alloc X4.out (.cells #[.int .i64 t, .slice A5 l.length c5] 24))
  have Y4a := Aside0.mk (blk_alloc Y4.out (.cells #[.int .i64 t, .slice A5 l.length c5] 24))
  have Z4a := Aside0.mk (blk_alloc Z4.out (.cells #[.int .i64 t, .slice A5 l.length c5] 24))
  have R4a := Aside0.mk (Kd.C_alloc R4.out (.cells #[.int .i64 t, .slice A5 l.length c5] 24))
  have V4a := Aside0.mk (Kd.C_alloc V4.out (.cells #[.int .i64 t, .slice A5 l.length c5] 24))
  clear B4 X4 Y4 Z4 R4 V4
  have U4a := Aside0.mk (blk_new w4 (.cells #[.int .i64 t, .slice A5 l.length c5] 24))
  have x0 : (w4.alloc (.cells #[.int .i64 t, .slice A5 l.length c5] 24)).cell? ⟨w.heap.size, 0, none⟩ = some (.int .i64 t) := (blk_cell X4a.out 0).trans rfl
  have x1 : (w4.alloc (.cells #[.int .i64 t, .slice A5 l.length c5] 24)).cell? ⟨w.heap.size, 1, none⟩ = some (.slice A l.length c) := (blk_cell X4a.out 1).trans rfl
  have u0 : (w4.alloc (.cells #[.int .i64 t, .slice A5 l.length c5] 24)).cell? ⟨w4.heap.size, 0, none⟩ = some (.int .i64 t) := (blk_cell U4a.out 0).trans rfl
  have u1 : (w4.alloc (.cells #[.int .i64 t, .slice A5 l.length c5] 24)).cell? ⟨w4.heap.size, 1, none⟩ = some (.slice A5 l.length c5) := (blk_cell U4a.out 1).trans rfl
  go_wp2_with fail
  clear x0 x1 u0 u1
  generalize w4.alloc (.cells #[.int .i64 t, .slice A5 l.length c5] 24) = w4a at *
  refine (same11_true t l A A5 c c5 w4a (Kd.C_below H24.out B4a.out) V4a.out HSM.out).mono ?_
  rintro e w5 ⟨rfl, hb⟩
  clear U4a
  clear V4a
  have B5 := Aside0.mk (below_then B4a.out B4a.out.size hb)
  have X5 := Aside0.mk (blk_below X4a.out hb)
  have Y5 := Aside0.mk (blk_below Y4a.out hb)
  have Z5 := Aside0.mk (blk_below Z4a.out hb)
  have R5 := Aside0.mk (Kd.C_below R4a.out hb)
  clear B4a X4a Y4a Z4a R4a
  clear hb
  have y0 : (w5).cell? ⟨w.heap.size + 1, 0, none⟩ = some (.string key) := (blk_cell Y5.out 0).trans rfl
  have y1 : (w5).cell? ⟨w.heap.size + 1, 1, none⟩ = some (.string val) := (blk_cell Y5.out 1).trans rfl
  have y2 : (w5).cell? ⟨w.heap.size + 1, 2, none⟩ = some (.int .i64 t2) := (blk_cell Y5.out 2).trans rfl
  go_wp2_with fail
  refine (putRow_any key val t2 w5).mono ?_
  rintro e w6 ⟨v6, rfl, ho, hb⟩
  clear y0 y1 y2
  rw [HRP.out] at ho ⊢
  generalize rowB key val t2 = b6 at *
  obtain ⟨A6, c6, rfl⟩ := Kd.R_slice ho
  obtain ⟨_, hq, hr⟩ := Kd.R_reads' ho
  have B6 := Aside0.mk (below_then B5.out B5.out.size hb)
  have X6 := Aside0.mk (blk_below X5.out hb)
  have Y6 := Aside0.mk (blk_below Y5.out hb)
  have Z6 := Aside0.mk (blk_below Z5.out hb)
  have R6 := Aside0.mk (Kd.C_below R5.out hb)
  clear B5 X5 Y5 Z5 R5
  clear hb
  have S6 := Aside0.mk (hr)
  have HCB := Aside0.mk hq
  clear ho hq hr
  dsimp only
  go_wp2_with fail
  refine (row_any A6 c6 b6 w6 S6.out HCB.out (by have := HRL.out; omega) HRB.out).mono ?_
  rintro e w7 ⟨rfl, hb⟩
  rw [HRK.out]
  clear S6
  have B7 := Aside0.mk (below_then B6.out B6.out.size hb)
  have X7 := Aside0.mk (blk_below X6.out hb)
  have Y7 := Aside0.mk (blk_below Y6.out hb)
  have Z7 := Aside0.mk (blk_below Z6.out hb)
  have R7 := Aside0.mk (Kd.C_below R6.out hb)
  clear B6 X6 Y6 Z6 R6
  clear hb
  dsimp only
  have B7a := Aside0.mk (below_alloc B7.out (.cells #[.string key, .string val, .int .i64 t2] 45))
  have X7a := Aside0.mk (blk_alloc X7.out (.cells #[.string key, .string val, .int .i64 t2] 45))
  have Y7a := Aside0.mk (blk_alloc Y7.out (.cells #[.string key, .string val, .int .i64 t2] 45))
  have Z7a := Aside0.mk (blk_alloc Z7.out (.cells #[.string key, .string val, .int .i64 t2] 45))
  have R7a := Aside0.mk (Kd.C_alloc R7.out (.cells #[.string key, .string val, .int .i64 t2] 45))
  clear B7 X7 Y7 Z7 R7
  have U7a := Aside0.mk (blk_new w7 (.cells #[.string key, .string val, .int .i64 t2] 45))
  have u0 : (w7.alloc (.cells #[.string key, .string val, .int .i64 t2] 45)).cell? ⟨w7.heap.size, 0, none⟩ = some (.string key) := (blk_cell U7a.out 0).trans rfl
  have u1 : (w7.alloc (.cells #[.string key, .string val, .int .i64 t2] 45)).cell? ⟨w7.heap.size, 1, none⟩ = some (.string val) := (blk_cell U7a.out 1).trans rfl
  have u2 : (w7.alloc (.cells #[.string key, .string val, .int .i64 t2] 45)).cell? ⟨w7.heap.size, 2, none⟩ = some (.int .i64 t2) := (blk_cell U7a.out 2).trans rfl
  have y0 : (w7.alloc (.cells #[.string key, .string val, .int .i64 t2] 45)).cell? ⟨w.heap.size + 1, 0, none⟩ = some (.string key) := (blk_cell Y7a.out 0).trans rfl
  have y1 : (w7.alloc (.cells #[.string key, .string val, .int .i64 t2] 45)).cell? ⟨w.heap.size + 1, 1, none⟩ = some (.string val) := (blk_cell Y7a.out 1).trans rfl
  have y2 : (w7.alloc (.cells #[.string key, .string val, .int .i64 t2] 45)).cell? ⟨w.heap.size + 1, 2, none⟩ = some (.int .i64 t2) := (blk_cell Y7a.out 2).trans rfl
  have z0 : (w7.alloc (.cells #[.string key, .string val, .int .i64 t2] 45)).cell? ⟨w.heap.size + 1 + 1, 0, none⟩ = some (.int .i64 t3) := (blk_cell Z7a.out 0).trans rfl
  have z1 : (w7.alloc (.cells #[.string key, .string val, .int .i64 t2] 45)).cell? ⟨w.heap.size + 1 + 1, 1, none⟩ = some (.int .i64 g3) := (blk_cell Z7a.out 1).trans rfl
  have z2 : (w7.alloc (.cells #[.string key, .string val, .int .i64 t2] 45)).cell? ⟨w.heap.size + 1 + 1, 2, none⟩ = some (.slice A3 l3.length c3) := (blk_cell Z7a.out 2).trans rfl
  go_wp2_with fail
  generalize w7.alloc (.cells #[.string key, .string val, .int .i64 t2] 45) = w7a at *
  clear z0 z1 z2 u0 u1 u2 y0 y1 y2
  clear U7a
  refine (putManifest_any t3 g3 l3 A3 c3 w7a (Kd.C_below H38.out B7a.out) HWF.out).mono ?_
  rintro e w8 ⟨v8, rfl, ho, hb⟩
  rw [HMP.out] at ho ⊢
  obtain ⟨A8, c8, rfl⟩ := Kd.R_slice ho
  obtain ⟨_, hq, hr⟩ := Kd.R_reads' ho
  have B8 := Aside0.mk (below_then B7a.out B7a.out.size hb)
  have X8 := Aside0.mk (blk_below X7a.out hb)
  have Y8 := Aside0.mk (blk_below Y7a.out hb)
  have Z8 := Aside0.mk (blk_below Z7a.out hb)
  have R8 := Aside0.mk (Kd.C_below R7a.out hb)
  clear B7a X7a Y7a Z7a R7a
  clear hb
  have S8 := Aside0.mk (hr)
  have HCM := Aside0.mk hq
  clear ho hq hr
  dsimp only
  go_wp2_with fail
  refine (manifest_any A8 c8 [] w8 S8.out (Nat.zero_le _) (by decide) (by decide)).mono ?_
  rintro e w9 ⟨v9, rfl, ho, hb⟩
  have e2 : takeMR [] = ((0, 0, []), 0, 61) := by unfold takeMR; rw [if_pos (Or.inl (show ([] : List Int).length = 0 from rfl))]
  rw [e2] at ho ⊢
  obtain ⟨A9, c9, rfl⟩ := Kd.R_slice ho
  have hr := (Kd.R_reads' ho).2.2
  clear S8
  have B9 := Aside0.mk (below_then B8.out B8.out.size hb)
  have X9 := Aside0.mk (blk_below X8.out hb)
  have Y9 := Aside0.mk (blk_below Y8.out hb)
  have Z9 := Aside0.mk (blk_below Z8.out hb)
  have R9 := Aside0.mk (Kd.C_below R8.out hb)
  clear B8 X8 Y8 Z8 R8
  clear hb
  clear ho hr
  dsimp only
  have B10 := Aside0.mk (below_alloc B9.out (.cells #[.int .i64 0, .int .i64 0, .slice A9 0 c9] 38))
  have X10 := Aside0.mk (blk_alloc X9.out (.cells #[.int .i64 0, .int .i64 0, .slice A9 0 c9] 38))
  have Y10 := Aside0.mk (blk_alloc Y9.out (.cells #[.int .i64 0, .int .i64 0, .slice A9 0 c9] 38))
  have Z10 := Aside0.mk (blk_alloc Z9.out (.cells #[.int .i64 0, .int .i64 0, .slice A9 0 c9] 38))
  have R10 := Aside0.mk (Kd.C_alloc R9.out (.cells #[.int .i64 0, .int .i64 0, .slice A9 0 c9] 38))
  clear B9 X9 Y9 Z9 R9
  clear X10
  clear Y10
  clear Z10
  have hL := HLN.out
  have hL0 := HPO.out
  have hA := HCA.out
  obtain ⟨k, hk, hkl⟩ : ∃ k : Nat, Int.tmod (-(cut + 1)) (b.length : Int) = (k : Int) ∧ k < b.length := ⟨(Int.tmod (-(cut + 1)) (b.length : Int)).toNat, by have := Int.tmod_nonneg (b.length : Int) (show 0 ≤ (-(cut + 1)) by omega); omega, by have := Int.tmod_lt_of_pos (-(cut + 1)) (show 0 < (b.length : Int) by omega); have := Int.tmod_nonneg (b.length : Int) (show 0 ≤ (-(cut + 1)) by omega); omega⟩
  go_wp2_with fail
  generalize w9.alloc (.cells #[.int .i64 0, .int .i64 0, .slice A9 0 c9] 38) = w10 at *
  have hk' : (b.take k).length = k := by rw [List.length_take]; omega
  have hcall := commit_any A4 c4 (b.take k) w10 (Kd.C_take R10.out (Nat.le_of_lt hkl)) (by omega) (by omega) (fun x hx => HBY.out x (List.mem_of_mem_take hx))
  rw [hk'] at hcall
  refine hcall.mono ?_
  rintro e w11 ⟨v11, rfl, ho, hb⟩
  have hne := HCU.out k hkl
  generalize takeCR (b.take k) = rk at *
  obtain ⟨⟨tk, lk⟩, pk, ek⟩ := rk
  obtain ⟨A11, c11, rfl⟩ := Kd.R_slice ho
  dsimp only at hne ⊢
  generalize List.length lk = Lk at *
  clear ho hcall
  have B11 := Aside0.mk (below_then B10.out B10.out.size hb)
  have R11 := Aside0.mk (Kd.C_below R10.out hb)
  clear B10 R10
  clear hb
  have B12 := Aside0.mk (below_alloc B11.out (.cells #[.int .i64 tk, .slice A11 Lk c11] 24))
  have R12 := Aside0.mk (Kd.C_alloc R11.out (.cells #[.int .i64 tk, .slice A11 Lk c11] 24))
  clear B11 R11
  have HNE := Aside0.mk hne
  have HLB := Aside0.mk hL
  clear hne hk hk'
  have HSZ := Aside0.mk (show w11.heap.size + 1 = (w11.alloc (.cells #[.int .i64 tk, .slice A11 Lk c11] 24)).heap.size from (size_alloc _ _).symm)
  go_wp2_with (at_builtin; first | (refine Kd.R_append_rows (Kd.int .u8) (w0 := (w11.alloc (.cells #[.int .i64 tk, .slice A11 Lk c11] 24))) (w11.alloc (.cells #[.int .i64 tk, .slice A11 Lk c11] 24)).heap.size rfl (.tmp 129) (.tmp 130) 28 5 (.int .u8 0) 1 rfl Try.underlying28 info5 rfl (by decide) (by omega) _ ([] : List Int) b _ _ _ (fun _ => True) (fun _ => False) rfl rfl (R_new8 (w11.alloc (.cells #[.int .i64 tk, .slice A11 Lk c11] 24)) _ HSZ.out) (Kd.C_alloc R12.out _) (fun _ _ h => h) (fun _ h => h.elim) (fun _ _ => trivial) (below_alloc (Below.refl _ _) _) (by simp) (by have := HLB.out; simp; omega) ?_; intro va wa ho hb hg hat; have HOA := Aside0.mk ho; have HBA := Aside0.mk hb; clear ho hb hg hat) | go_must (refine app8 (w11.alloc (.cells #[.int .i64 tk, .slice A11 Lk c11] 24)).heap.size rfl (.tmp 131) (.tmp 132) rfl _ ([] ++ b) _ (fun _ => True) rfl rfl (fun _ _ => trivial) HOA.out HBA.out HBA.out.size (by have := HLB.out; simp; omega) ?_; intro vb wb ho hb hg; have HOB := Aside0.mk ho; have HBB := Aside0.mk hb; clear ho hb hg))
  clear HOA HBA
  have hb := HBB.out
  have ho := HOB.out
  clear HOB HBB
  obtain ⟨A12, c12, rfl⟩ := Kd.R_slice ho
  obtain ⟨_, hq, hr⟩ := Kd.R_reads' ho
  have B13 := Aside0.mk (below_then B12.out B12.out.size hb)
  have R13 := Aside0.mk (Kd.C_below R12.out hb)
  clear B12 R12
  clear hb
  have T13 := Aside0.mk (hr)
  have hll : ([] ++ b ++ [(0 : Int)]).length = (b ++ [0]).length := rfl
  have hcall := commit_any A12 c12 (b ++ [0]) wb T13.out (by simpa using hq) (by simp; omega) (Bytes.app HBY.out (by decide))
  clear ho hq hr
  clear T13
  refine hcall.mono ?_
  rintro e w14 ⟨v14, rfl, ho, hb⟩
  have hmo := HMO.out
  generalize takeCR (b ++ [0]) = rk at *
  obtain ⟨⟨tm, lm⟩, pm, em⟩ := rk
  dsimp only at hmo
  subst hmo
  obtain ⟨A14, c14, rfl⟩ := Kd.R_slice ho
  dsimp only
  generalize List.length lm = Lm at *
  clear ho hcall
  have B14 := Aside0.mk (below_then B13.out B13.out.size hb)
  have R14 := Aside0.mk (Kd.C_below R13.out hb)
  clear B13 R13
  clear hb
  have B15 := Aside0.mk (below_alloc B14.out (.cells #[.int .i64 tm, .slice A14 Lm c14] 24))
  have R15 := Aside0.mk (Kd.C_alloc R14.out (.cells #[.int .i64 tm, .slice A14 Lm c14] 24))
  clear B14 R14
  go_wp2_with fail
  generalize w14.alloc (.cells #[.int .i64 tm, .slice A14 Lm c14] 24) = w15 at *
  refine (row_any A4 c4 b w15 R15.out HCA.out (by omega) HBY.out).mono ?_
  rintro e w16 ⟨rfl, hb⟩
  have hro := HRO.out
  generalize takeRR b = rk at *
  obtain ⟨⟨kr, vr, tr⟩, pr, er⟩ := rk
  dsimp only at hro
  subst hro
  dsimp only
  have B16 := Aside0.mk (below_then B15.out B15.out.size hb)
  have R16 := Aside0.mk (Kd.C_below R15.out hb)
  clear B15 R15
  clear hb
  have B17 := Aside0.mk (below_alloc B16.out (.cells #[.string kr, .string vr, .int .i64 tr] 45))
  have R17 := Aside0.mk (Kd.C_alloc R16.out (.cells #[.string kr, .string vr, .int .i64 tr] 45))
  clear B16 R16
  have hne := HNE.out
  have hne' : (ek != 0) = true := bne_iff_ne.mpr hne
  go_wp2_with fail
  go_ret
  exact ⟨rfl, B17.out⟩

set_option maxRecDepth 100000 in
set_option maxHeartbeats 3200000 in
theorem recordBack_CRNp (t : Int) (l : List W27) (A : Option Addr) (c : Nat) (key val : ByteArray) (t2 : Int) (t3 g3 : Int) (l3 : List P43) (A3 : Option Addr) (c3 : Nat) (cut : Int) (w : World)
    (h24 : k27.C w A l.length l) (h38 : k43.C w A3 l3.length l3) (hwf : ∀ x ∈ l3, (Lit.int .i64 x.num).wf = true) (hC : rightC t l = true) (hR : rightR key val t2 = true) (hM : rightM t3 g3 l3 = false) (hcut : 0 ≤ cut) (hmax : cut ≤ 9223372036854775807) :
    Calls Try.prog 6 #[.agg #[.int .i64 t, .slice A l.length c], .agg #[.string key, .string val, .int .i64 t2], .agg #[.int .i64 t3, .int .i64 g3, .slice A3 l3.length c3], .int .i64 cut] w fun e w' => e = .returned (.bool true) ∧ Below w.heap.size w w' := by
  have hu24 := Try.underlying24
  have hu45 := Try.underlying45
  have H24 := Aside0.mk h24
  have H38 := Aside0.mk h38
  have HWF := Aside0.mk hwf
  have HBY := Aside0.mk (commitB_bytes t l)
  have HLN := Aside0.mk (commitB_len t l hC)
  have HPC := Aside0.mk (show putC t l = (commitB t l, 0) by unfold putC; rw [if_pos hC])
  have HBK := Aside0.mk (back_C t l hC)
  have HCU := Aside0.mk (cut_C t l hC (commitB_bytes t l))
  have HMO := Aside0.mk (more_C t l hC)
  have HRO := Aside0.mk (row_C t l)
  have HPO := Aside0.mk (show 0 < (commitB t l).length by unfold commitB; simp)
  have HSM := Aside0.mk (show l.length < 9223372036854775807 by have := (rightC_small t l hC).1; omega)
  have HRP := Aside0.mk (show putR key val t2 = (rowB key val t2, 0) by unfold putR; rw [if_pos hR])
  have HRB := Aside0.mk (rowB_bytes key val t2)
  have HRL := Aside0.mk (rowB_len key val t2 hR)
  have HRK := Aside0.mk (back_R key val t2 hR)
  have HMP := Aside0.mk (show putM t3 g3 l3 = ([], 60) by unfold putM; rw [hM]; rfl)
  clear h24 h38 hwf hC hR hM
  have hy := blk_new (w.alloc (.cells #[.int .i64 t, .slice A l.length c] 24)) (.cells #[.string key, .string val, .int .i64 t2] 45)
  rw [size_alloc] at hy
  have hz := blk_new ((w.alloc (.cells #[.int .i64 t, .slice A l.length c] 24)).alloc (.cells #[.string key, .string val, .int .i64 t2] 45)) (.cells #[.int .i64 t3, .int .i64 g3, .slice A3 l3.length c3] 38)
  rw [size_alloc, size_alloc] at hz
  have B1 := Aside0.mk (below_alloc (below_alloc (below_alloc (Below.refl w.heap.size w) (.cells #[.int .i64 t, .slice A l.length c] 24)) (.cells #[.string key, .string val, .int .i64 t2] 45)) (.cells #[.int .i64 t3, .int .i64 g3, .slice A3 l3.length c3] 38))
  have X1 := Aside0.mk (blk_alloc (blk_alloc (blk_new w (.cells #[.int .i64 t, .slice A l.length c] 24)) (.cells #[.string key, .string val, .int .i64 t2] 45)) (.cells #[.int .i64 t3, .int .i64 g3, .slice A3 l3.length c3] 38))
  have Y1 := Aside0.mk (blk_alloc hy (.cells #[.int .i64 t3, .int .i64 g3, .slice A3 l3.length c3] 38))
  have Z1 := Aside0.mk (hz)
  clear hy hz
  go_enter Try.func6, Try.ntmps6
  go_wp2_with fail
  generalize ((w.alloc (.cells #[.int .i64 t, .slice A l.length c] 24)).alloc (.cells #[.string key, .string val, .int .i64 t2] 45)).alloc (.cells #[.int .i64 t3, .int .i64 g3, .slice A3 l3.length c3] 38) = w1 at *
  refine (shown_any w1).mono ?_
  rintro e w2 ⟨rfl, hb⟩
  have B2 := Aside0.mk (below_then B1.out B1.out.size hb)
  have X2 := Aside0.mk (blk_below X1.out hb)
  have Y2 := Aside0.mk (blk_below Y1.out hb)
  have Z2 := Aside0.mk (blk_below Z1.out hb)
  clear B1 X1 Y1 Z1
  clear hb
  have x0 : (w2).cell? ⟨w.heap.size, 0, none⟩ = some (.int .i64 t) := (blk_cell X2.out 0).trans rfl
  have x1 : (w2).cell? ⟨w.heap.size, 1, none⟩ = some (.slice A l.length c) := (blk_cell X2.out 1).trans rfl
  go_wp2_with fail
  refine (putCommit_any t l A c w2 (Kd.C_below H24.out B2.out)).mono ?_
  rintro e w3 ⟨v3, rfl, ho, hb⟩
  clear x0 x1
  rw [HPC.out] at ho ⊢
  generalize commitB t l = b at *
  obtain ⟨A4, c4, rfl⟩ := Kd.R_slice ho
  obtain ⟨_, hq, hr⟩ := Kd.R_reads' ho
  have B3 := Aside0.mk (below_then B2.out B2.out.size hb)
  have X3 := Aside0.mk (blk_below X2.out hb)
  have Y3 := Aside0.mk (blk_below Y2.out hb)
  have Z3 := Aside0.mk (blk_below Z2.out hb)
  clear B2 X2 Y2 Z2
  clear hb
  have R3 := Aside0.mk (hr)
  have HCA := Aside0.mk hq
  clear ho hq hr
  dsimp only
  go_wp2_with fail
  refine (commit_any A4 c4 b w3 R3.out HCA.out (by have := HLN.out; omega) HBY.out).mono ?_
  rintro e w4 ⟨v4, rfl, ho, hb⟩
  rw [HBK.out] at ho ⊢
  obtain ⟨A5, c5, rfl⟩ := Kd.R_slice ho
  have hr := (Kd.R_reads' ho).2.2
  have B4 := Aside0.mk (below_then B3.out B3.out.size hb)
  have X4 := Aside0.mk (blk_below X3.out hb)
  have Y4 := Aside0.mk (blk_below Y3.out hb)
  have Z4 := Aside0.mk (blk_below Z3.out hb)
  have R4 := Aside0.mk (Kd.C_below R3.out hb)
  clear B3 X3 Y3 Z3 R3
  clear hb
  have V4 := Aside0.mk (hr)
  clear ho hr
  dsimp only
  have B4a := Aside0.mk (below_alloc B4.out (.cells #[.int .i64 t, .slice A5 l.length c5] 24))
  have X4a := Aside0.mk (blk_alloc X4.out (.cells #[.int .i64 t, .slice A5 l.length c5] 24))
  have Y4a := Aside0.mk (blk_alloc Y4.out (.cells #[.int .i64 t, .slice A5 l.length c5] 24))
  have Z4a := Aside0.mk (blk_alloc Z4.out (.cells #[.int .i64 t, .slice A5 l.length c5] 24))
  have R4a := Aside0.mk (Kd.C_alloc R4.out (.cells #[.int .i64 t, .slice A5 l.length c5] 24))
  have V4a := Aside0.mk (Kd.C_alloc V4.out (.cells #[.int .i64 t, .slice A5 l.length c5] 24))
  clear B4 X4 Y4 Z4 R4 V4
  have U4a := Aside0.mk (blk_new w4 (.cells #[.int .i64 t, .slice A5 l.length c5] 24))
  have x0 : (w4.alloc (.cells #[.int .i64 t, .slice A5 l.length c5] 24)).cell? ⟨w.heap.size, 0, none⟩ = some (.int .i64 t) := (blk_cell X4a.out 0).trans rfl
  have x1 : (w4.alloc (.cells #[.int .i64 t, .slice A5 l.length c5] 24)).cell? ⟨w.heap.size, 1, none⟩ = some (.slice A l.length c) := (blk_cell X4a.out 1).trans rfl
  have u0 : (w4.alloc (.cells #[.int .i64 t, .slice A5 l.length c5] 24)).cell? ⟨w4.heap.size, 0, none⟩ = some (.int .i64 t) := (blk_cell U4a.out 0).trans rfl
  have u1 : (w4.alloc (.cells #[.int .i64 t, .slice A5 l.length c5] 24)).cell? ⟨w4.heap.size, 1, none⟩ = some (.slice A5 l.length c5) := (blk_cell U4a.out 1).trans rfl
  go_wp2_with fail
  clear x0 x1 u0 u1
  generalize w4.alloc (.cells #[.int .i64 t, .slice A5 l.length c5] 24) = w4a at *
  refine (same11_true t l A A5 c c5 w4a (Kd.C_below H24.out B4a.out) V4a.out HSM.out).mono ?_
  rintro e w5 ⟨rfl, hb⟩
  clear U4a
  clear V4a
  have B5 := Aside0.mk (below_then B4a.out B4a.out.size hb)
  have X5 := Aside0.mk (blk_below X4a.out hb)
  have Y5 := Aside0.mk (blk_below Y4a.out hb)
  have Z5 := Aside0.mk (blk_below Z4a.out hb)
  have R5 := Aside0.mk (Kd.C_below R4a.out hb)
  clear B4a X4a Y4a Z4a R4a
  clear hb
  have y0 : (w5).cell? ⟨w.heap.size + 1, 0, none⟩ = some (.string key) := (blk_cell Y5.out 0).trans rfl
  have y1 : (w5).cell? ⟨w.heap.size + 1, 1, none⟩ = some (.string val) := (blk_cell Y5.out 1).trans rfl
  have y2 : (w5).cell? ⟨w.heap.size + 1, 2, none⟩ = some (.int .i64 t2) := (blk_cell Y5.out 2).trans rfl
  go_wp2_with fail
  refine (putRow_any key val t2 w5).mono ?_
  rintro e w6 ⟨v6, rfl, ho, hb⟩
  clear y0 y1 y2
  rw [HRP.out] at ho ⊢
  generalize rowB key val t2 = b6 at *
  obtain ⟨A6, c6, rfl⟩ := Kd.R_slice ho
  obtain ⟨_, hq, hr⟩ := Kd.R_reads' ho
  have B6 := Aside0.mk (below_then B5.out B5.out.size hb)
  have X6 := Aside0.mk (blk_below X5.out hb)
  have Y6 := Aside0.mk (blk_below Y5.out hb)
  have Z6 := Aside0.mk (blk_below Z5.out hb)
  have R6 := Aside0.mk (Kd.C_below R5.out hb)
  clear B5 X5 Y5 Z5 R5
  clear hb
  have S6 := Aside0.mk (hr)
  have HCB := Aside0.mk hq
  clear ho hq hr
  dsimp only
  go_wp2_with fail
  refine (row_any A6 c6 b6 w6 S6.out HCB.out (by have := HRL.out; omega) HRB.out).mono ?_
  rintro e w7 ⟨rfl, hb⟩
  rw [HRK.out]
  clear S6
  have B7 := Aside0.mk (below_then B6.out B6.out.size hb)
  have X7 := Aside0.mk (blk_below X6.out hb)
  have Y7 := Aside0.mk (blk_below Y6.out hb)
  have Z7 := Aside0.mk (blk_below Z6.out hb)
  have R7 := Aside0.mk (Kd.C_below R6.out hb)
  clear B6 X6 Y6 Z6 R6
  clear hb
  dsimp only
  have B7a := Aside0.mk (below_alloc B7.out (.cells #[.string key, .string val, .int .i64 t2] 45))
  have X7a := Aside0.mk (blk_alloc X7.out (.cells #[.string key, .string val, .int .i64 t2] 45))
  have Y7a := Aside0.mk (blk_alloc Y7.out (.cells #[.string key, .string val, .int .i64 t2] 45))
  have Z7a := Aside0.mk (blk_alloc Z7.out (.cells #[.string key, .string val, .int .i64 t2] 45))
  have R7a := Aside0.mk (Kd.C_alloc R7.out (.cells #[.string key, .string val, .int .i64 t2] 45))
  clear B7 X7 Y7 Z7 R7
  have U7a := Aside0.mk (blk_new w7 (.cells #[.string key, .string val, .int .i64 t2] 45))
  have u0 : (w7.alloc (.cells #[.string key, .string val, .int .i64 t2] 45)).cell? ⟨w7.heap.size, 0, none⟩ = some (.string key) := (blk_cell U7a.out 0).trans rfl
  have u1 : (w7.alloc (.cells #[.string key, .string val, .int .i64 t2] 45)).cell? ⟨w7.heap.size, 1, none⟩ = some (.string val) := (blk_cell U7a.out 1).trans rfl
  have u2 : (w7.alloc (.cells #[.string key, .string val, .int .i64 t2] 45)).cell? ⟨w7.heap.size, 2, none⟩ = some (.int .i64 t2) := (blk_cell U7a.out 2).trans rfl
  have y0 : (w7.alloc (.cells #[.string key, .string val, .int .i64 t2] 45)).cell? ⟨w.heap.size + 1, 0, none⟩ = some (.string key) := (blk_cell Y7a.out 0).trans rfl
  have y1 : (w7.alloc (.cells #[.string key, .string val, .int .i64 t2] 45)).cell? ⟨w.heap.size + 1, 1, none⟩ = some (.string val) := (blk_cell Y7a.out 1).trans rfl
  have y2 : (w7.alloc (.cells #[.string key, .string val, .int .i64 t2] 45)).cell? ⟨w.heap.size + 1, 2, none⟩ = some (.int .i64 t2) := (blk_cell Y7a.out 2).trans rfl
  have z0 : (w7.alloc (.cells #[.string key, .string val, .int .i64 t2] 45)).cell? ⟨w.heap.size + 1 + 1, 0, none⟩ = some (.int .i64 t3) := (blk_cell Z7a.out 0).trans rfl
  have z1 : (w7.alloc (.cells #[.string key, .string val, .int .i64 t2] 45)).cell? ⟨w.heap.size + 1 + 1, 1, none⟩ = some (.int .i64 g3) := (blk_cell Z7a.out 1).trans rfl
  have z2 : (w7.alloc (.cells #[.string key, .string val, .int .i64 t2] 45)).cell? ⟨w.heap.size + 1 + 1, 2, none⟩ = some (.slice A3 l3.length c3) := (blk_cell Z7a.out 2).trans rfl
  go_wp2_with fail
  generalize w7.alloc (.cells #[.string key, .string val, .int .i64 t2] 45) = w7a at *
  clear z0 z1 z2 u0 u1 u2 y0 y1 y2
  clear U7a
  refine (putManifest_any t3 g3 l3 A3 c3 w7a (Kd.C_below H38.out B7a.out) HWF.out).mono ?_
  rintro e w8 ⟨v8, rfl, ho, hb⟩
  rw [HMP.out] at ho ⊢
  obtain ⟨A8, c8, rfl⟩ := Kd.R_slice ho
  obtain ⟨_, hq, hr⟩ := Kd.R_reads' ho
  have B8 := Aside0.mk (below_then B7a.out B7a.out.size hb)
  have X8 := Aside0.mk (blk_below X7a.out hb)
  have Y8 := Aside0.mk (blk_below Y7a.out hb)
  have Z8 := Aside0.mk (blk_below Z7a.out hb)
  have R8 := Aside0.mk (Kd.C_below R7a.out hb)
  clear B7a X7a Y7a Z7a R7a
  clear hb
  have S8 := Aside0.mk (hr)
  have HCM := Aside0.mk hq
  clear ho hq hr
  dsimp only
  go_wp2_with fail
  refine (manifest_any A8 c8 [] w8 S8.out (Nat.zero_le _) (by decide) (by decide)).mono ?_
  rintro e w9 ⟨v9, rfl, ho, hb⟩
  have e2 : takeMR [] = ((0, 0, []), 0, 61) := by unfold takeMR; rw [if_pos (Or.inl (show ([] : List Int).length = 0 from rfl))]
  rw [e2] at ho ⊢
  obtain ⟨A9, c9, rfl⟩ := Kd.R_slice ho
  have hr := (Kd.R_reads' ho).2.2
  clear S8
  have B9 := Aside0.mk (below_then B8.out B8.out.size hb)
  have X9 := Aside0.mk (blk_below X8.out hb)
  have Y9 := Aside0.mk (blk_below Y8.out hb)
  have Z9 := Aside0.mk (blk_below Z8.out hb)
  have R9 := Aside0.mk (Kd.C_below R8.out hb)
  clear B8 X8 Y8 Z8 R8
  clear hb
  clear ho hr
  dsimp only
  have B10 := Aside0.mk (below_alloc B9.out (.cells #[.int .i64 0, .int .i64 0, .slice A9 0 c9] 38))
  have X10 := Aside0.mk (blk_alloc X9.out (.cells #[.int .i64 0, .int .i64 0, .slice A9 0 c9] 38))
  have Y10 := Aside0.mk (blk_alloc Y9.out (.cells #[.int .i64 0, .int .i64 0, .slice A9 0 c9] 38))
  have Z10 := Aside0.mk (blk_alloc Z9.out (.cells #[.int .i64 0, .int .i64 0, .slice A9 0 c9] 38))
  have R10 := Aside0.mk (Kd.C_alloc R9.out (.cells #[.int .i64 0, .int .i64 0, .slice A9 0 c9] 38))
  clear B9 X9 Y9 Z9 R9
  clear X10
  clear Y10
  clear Z10
  have hL := HLN.out
  have hL0 := HPO.out
  have hA := HCA.out
  obtain ⟨k, hk, hkl⟩ : ∃ k : Nat, Int.tmod cut (b.length : Int) = (k : Int) ∧ k < b.length := ⟨(Int.tmod cut (b.length : Int)).toNat, by have := Int.tmod_nonneg (b.length : Int) (show 0 ≤ cut by omega); omega, by have := Int.tmod_lt_of_pos cut (show 0 < (b.length : Int) by omega); have := Int.tmod_nonneg (b.length : Int) (show 0 ≤ cut by omega); omega⟩
  go_wp2_with fail
  generalize w9.alloc (.cells #[.int .i64 0, .int .i64 0, .slice A9 0 c9] 38) = w10 at *
  have hk' : (b.take k).length = k := by rw [List.length_take]; omega
  have hcall := commit_any A4 c4 (b.take k) w10 (Kd.C_take R10.out (Nat.le_of_lt hkl)) (by omega) (by omega) (fun x hx => HBY.out x (List.mem_of_mem_take hx))
  rw [hk'] at hcall
  refine hcall.mono ?_
  rintro e w11 ⟨v11, rfl, ho, hb⟩
  have hne := HCU.out k hkl
  generalize takeCR (b.take k) = rk at *
  obtain ⟨⟨tk, lk⟩, pk, ek⟩ := rk
  obtain ⟨A11, c11, rfl⟩ := Kd.R_slice ho
  dsimp only at hne ⊢
  generalize List.length lk = Lk at *
  clear ho hcall
  have B11 := Aside0.mk (below_then B10.out B10.out.size hb)
  have R11 := Aside0.mk (Kd.C_below R10.out hb)
  clear B10 R10
  clear hb
  have B12 := Aside0.mk (below_alloc B11.out (.cells #[.int .i64 tk, .slice A11 Lk c11] 24))
  have R12 := Aside0.mk (Kd.C_alloc R11.out (.cells #[.int .i64 tk, .slice A11 Lk c11] 24))
  clear B11 R11
  have HNE := Aside0.mk hne
  have HLB := Aside0.mk hL
  clear hne hk hk'
  have HSZ := Aside0.mk (show w11.heap.size + 1 = (w11.alloc (.cells #[.int .i64 tk, .slice A11 Lk c11] 24)).heap.size from (size_alloc _ _).symm)
  go_wp2_with (at_builtin; first | (refine Kd.R_append_rows (Kd.int .u8) (w0 := (w11.alloc (.cells #[.int .i64 tk, .slice A11 Lk c11] 24))) (w11.alloc (.cells #[.int .i64 tk, .slice A11 Lk c11] 24)).heap.size rfl (.tmp 129) (.tmp 130) 28 5 (.int .u8 0) 1 rfl Try.underlying28 info5 rfl (by decide) (by omega) _ ([] : List Int) b _ _ _ (fun _ => True) (fun _ => False) rfl rfl (R_new8 (w11.alloc (.cells #[.int .i64 tk, .slice A11 Lk c11] 24)) _ HSZ.out) (Kd.C_alloc R12.out _) (fun _ _ h => h) (fun _ h => h.elim) (fun _ _ => trivial) (below_alloc (Below.refl _ _) _) (by simp) (by have := HLB.out; simp; omega) ?_; intro va wa ho hb hg hat; have HOA := Aside0.mk ho; have HBA := Aside0.mk hb; clear ho hb hg hat) | go_must (refine app8 (w11.alloc (.cells #[.int .i64 tk, .slice A11 Lk c11] 24)).heap.size rfl (.tmp 131) (.tmp 132) rfl _ ([] ++ b) _ (fun _ => True) rfl rfl (fun _ _ => trivial) HOA.out HBA.out HBA.out.size (by have := HLB.out; simp; omega) ?_; intro vb wb ho hb hg; have HOB := Aside0.mk ho; have HBB := Aside0.mk hb; clear ho hb hg))
  clear HOA HBA
  have hb := HBB.out
  have ho := HOB.out
  clear HOB HBB
  obtain ⟨A12, c12, rfl⟩ := Kd.R_slice ho
  obtain ⟨_, hq, hr⟩ := Kd.R_reads' ho
  have B13 := Aside0.mk (below_then B12.out B12.out.size hb)
  have R13 := Aside0.mk (Kd.C_below R12.out hb)
  clear B12 R12
  clear hb
  have T13 := Aside0.mk (hr)
  have hll : ([] ++ b ++ [(0 : Int)]).length = (b ++ [0]).length := rfl
  have hcall := commit_any A12 c12 (b ++ [0]) wb T13.out (by simpa using hq) (by simp; omega) (Bytes.app HBY.out (by decide))
  clear ho hq hr
  clear T13
  refine hcall.mono ?_
  rintro e w14 ⟨v14, rfl, ho, hb⟩
  have hmo := HMO.out
  generalize takeCR (b ++ [0]) = rk at *
  obtain ⟨⟨tm, lm⟩, pm, em⟩ := rk
  dsimp only at hmo
  subst hmo
  obtain ⟨A14, c14, rfl⟩ := Kd.R_slice ho
  dsimp only
  generalize List.length lm = Lm at *
  clear ho hcall
  have B14 := Aside0.mk (below_then B13.out B13.out.size hb)
  have R14 := Aside0.mk (Kd.C_below R13.out hb)
  clear B13 R13
  clear hb
  have B15 := Aside0.mk (below_alloc B14.out (.cells #[.int .i64 tm, .slice A14 Lm c14] 24))
  have R15 := Aside0.mk (Kd.C_alloc R14.out (.cells #[.int .i64 tm, .slice A14 Lm c14] 24))
  clear B14 R14
  go_wp2_with fail
  generalize w14.alloc (.cells #[.int .i64 tm, .slice A14 Lm c14] 24) = w15 at *
  refine (row_any A4 c4 b w15 R15.out HCA.out (by omega) HBY.out).mono ?_
  rintro e w16 ⟨rfl, hb⟩
  have hro := HRO.out
  generalize takeRR b = rk at *
  obtain ⟨⟨kr, vr, tr⟩, pr, er⟩ := rk
  dsimp only at hro
  subst hro
  dsimp only
  have B16 := Aside0.mk (below_then B15.out B15.out.size hb)
  have R16 := Aside0.mk (Kd.C_below R15.out hb)
  clear B15 R15
  clear hb
  have B17 := Aside0.mk (below_alloc B16.out (.cells #[.string kr, .string vr, .int .i64 tr] 45))
  have R17 := Aside0.mk (Kd.C_alloc R16.out (.cells #[.string kr, .string vr, .int .i64 tr] 45))
  clear B16 R16
  have hne := HNE.out
  have hne' : (ek != 0) = true := bne_iff_ne.mpr hne
  go_wp2_with fail
  go_ret
  exact ⟨rfl, B17.out⟩

set_option maxRecDepth 100000 in
set_option maxHeartbeats 3200000 in
theorem recordBack_CNMn (t : Int) (l : List W27) (A : Option Addr) (c : Nat) (key val : ByteArray) (t2 : Int) (t3 g3 : Int) (l3 : List P43) (A3 : Option Addr) (c3 : Nat) (cut : Int) (w : World)
    (h24 : k27.C w A l.length l) (h38 : k43.C w A3 l3.length l3) (hwf : ∀ x ∈ l3, (Lit.int .i64 x.num).wf = true) (hC : rightC t l = true) (hR : rightR key val t2 = false) (hM : rightM t3 g3 l3 = true) (hcut : cut < 0) (hmin : -9223372036854775808 ≤ cut) :
    Calls Try.prog 6 #[.agg #[.int .i64 t, .slice A l.length c], .agg #[.string key, .string val, .int .i64 t2], .agg #[.int .i64 t3, .int .i64 g3, .slice A3 l3.length c3], .int .i64 cut] w fun e w' => e = .returned (.bool true) ∧ Below w.heap.size w w' := by
  have hu24 := Try.underlying24
  have hu45 := Try.underlying45
  have H24 := Aside0.mk h24
  have H38 := Aside0.mk h38
  have HWF := Aside0.mk hwf
  have HBY := Aside0.mk (commitB_bytes t l)
  have HLN := Aside0.mk (commitB_len t l hC)
  have HPC := Aside0.mk (show putC t l = (commitB t l, 0) by unfold putC; rw [if_pos hC])
  have HBK := Aside0.mk (back_C t l hC)
  have HCU := Aside0.mk (cut_C t l hC (commitB_bytes t l))
  have HMO := Aside0.mk (more_C t l hC)
  have HRO := Aside0.mk (row_C t l)
  have HPO := Aside0.mk (show 0 < (commitB t l).length by unfold commitB; simp)
  have HSM := Aside0.mk (show l.length < 9223372036854775807 by have := (rightC_small t l hC).1; omega)
  have HRP := Aside0.mk (show putR key val t2 = ([], 60) by unfold putR; rw [hR]; rfl)
  have HMP := Aside0.mk (show putM t3 g3 l3 = (manifestB t3 g3 l3, 0) by unfold putM; rw [if_pos hM])
  have HMB := Aside0.mk (manifestB_bytes t3 g3 l3)
  have HML := Aside0.mk (manifestB_len t3 g3 l3 hM)
  have HMK := Aside0.mk (back_M t3 g3 l3 hM)
  have HM3 := Aside0.mk (show l3.length < 9223372036854775807 by have := rightM_len t3 g3 l3 hM; omega)
  clear h24 h38 hwf hC hR hM
  have hy := blk_new (w.alloc (.cells #[.int .i64 t, .slice A l.length c] 24)) (.cells #[.string key, .string val, .int .i64 t2] 45)
  rw [size_alloc] at hy
  have hz := blk_new ((w.alloc (.cells #[.int .i64 t, .slice A l.length c] 24)).alloc (.cells #[.string key, .string val, .int .i64 t2] 45)) (.cells #[.int .i64 t3, .int .i64 g3, .slice A3 l3.length c3] 38)
  rw [size_alloc, size_alloc] at hz
  have B1 := Aside0.mk (below_alloc (below_alloc (below_alloc (Below.refl w.heap.size w) (.cells #[.int .i64 t, .slice A l.length c] 24)) (.cells #[.string key, .string val, .int .i64 t2] 45)) (.cells #[.int .i64 t3, .int .i64 g3, .slice A3 l3.length c3] 38))
  have X1 := Aside0.mk (blk_alloc (blk_alloc (blk_new w (.cells #[.int .i64 t, .slice A l.length c] 24)) (.cells #[.string key, .string val, .int .i64 t2] 45)) (.cells #[.int .i64 t3, .int .i64 g3, .slice A3 l3.length c3] 38))
  have Y1 := Aside0.mk (blk_alloc hy (.cells #[.int .i64 t3, .int .i64 g3, .slice A3 l3.length c3] 38))
  have Z1 := Aside0.mk (hz)
  clear hy hz
  go_enter Try.func6, Try.ntmps6
  go_wp2_with fail
  generalize ((w.alloc (.cells #[.int .i64 t, .slice A l.length c] 24)).alloc (.cells #[.string key, .string val, .int .i64 t2] 45)).alloc (.cells #[.int .i64 t3, .int .i64 g3, .slice A3 l3.length c3] 38) = w1 at *
  refine (shown_any w1).mono ?_
  rintro e w2 ⟨rfl, hb⟩
  have B2 := Aside0.mk (below_then B1.out B1.out.size hb)
  have X2 := Aside0.mk (blk_below X1.out hb)
  have Y2 := Aside0.mk (blk_below Y1.out hb)
  have Z2 := Aside0.mk (blk_below Z1.out hb)
  clear B1 X1 Y1 Z1
  clear hb
  have x0 : (w2).cell? ⟨w.heap.size, 0, none⟩ = some (.int .i64 t) := (blk_cell X2.out 0).trans rfl
  have x1 : (w2).cell? ⟨w.heap.size, 1, none⟩ = some (.slice A l.length c) := (blk_cell X2.out 1).trans rfl
  go_wp2_with fail
  refine (putCommit_any t l A c w2 (Kd.C_below H24.out B2.out)).mono ?_
  rintro e w3 ⟨v3, rfl, ho, hb⟩
  clear x0 x1
  rw [HPC.out] at ho ⊢
  generalize commitB t l = b at *
  obtain ⟨A4, c4, rfl⟩ := Kd.R_slice ho
  obtain ⟨_, hq, hr⟩ := Kd.R_reads' ho
  have B3 := Aside0.mk (below_then B2.out B2.out.size hb)
  have X3 := Aside0.mk (blk_below X2.out hb)
  have Y3 := Aside0.mk (blk_below Y2.out hb)
  have Z3 := Aside0.mk (blk_below Z2.out hb)
  clear B2 X2 Y2 Z2
  clear hb
  have R3 := Aside0.mk (hr)
  have HCA := Aside0.mk hq
  clear ho hq hr
  dsimp only
  go_wp2_with fail
  refine (commit_any A4 c4 b w3 R3.out HCA.out (by have := HLN.out; omega) HBY.out).mono ?_
  rintro e w4 ⟨v4, rfl, ho, hb⟩
  rw [HBK.out] at ho ⊢
  obtain ⟨A5, c5, rfl⟩ := Kd.R_slice ho
  have hr := (Kd.R_reads' ho).2.2
  have B4 := Aside0.mk (below_then B3.out B3.out.size hb)
  have X4 := Aside0.mk (blk_below X3.out hb)
  have Y4 := Aside0.mk (blk_below Y3.out hb)
  have Z4 := Aside0.mk (blk_below Z3.out hb)
  have R4 := Aside0.mk (Kd.C_below R3.out hb)
  clear B3 X3 Y3 Z3 R3
  clear hb
  have V4 := Aside0.mk (hr)
  clear ho hr
  dsimp only
  have B4a := Aside0.mk (below_alloc B4.out (.cells #[.int .i64 t, .slice A5 l.length c5] 24))
  have X4a := Aside0.mk (blk_alloc X4.out (.cells #[.int .i64 t, .slice A5 l.length c5] 24))
  have Y4a := Aside0.mk (blk_alloc Y4.out (.cells #[.int .i64 t, .slice A5 l.length c5] 24))
  have Z4a := Aside0.mk (blk_alloc Z4.out (.cells #[.int .i64 t, .slice A5 l.length c5] 24))
  have R4a := Aside0.mk (Kd.C_alloc R4.out (.cells #[.int .i64 t, .slice A5 l.length c5] 24))
  have V4a := Aside0.mk (Kd.C_alloc V4.out (.cells #[.int .i64 t, .slice A5 l.length c5] 24))
  clear B4 X4 Y4 Z4 R4 V4
  have U4a := Aside0.mk (blk_new w4 (.cells #[.int .i64 t, .slice A5 l.length c5] 24))
  have x0 : (w4.alloc (.cells #[.int .i64 t, .slice A5 l.length c5] 24)).cell? ⟨w.heap.size, 0, none⟩ = some (.int .i64 t) := (blk_cell X4a.out 0).trans rfl
  have x1 : (w4.alloc (.cells #[.int .i64 t, .slice A5 l.length c5] 24)).cell? ⟨w.heap.size, 1, none⟩ = some (.slice A l.length c) := (blk_cell X4a.out 1).trans rfl
  have u0 : (w4.alloc (.cells #[.int .i64 t, .slice A5 l.length c5] 24)).cell? ⟨w4.heap.size, 0, none⟩ = some (.int .i64 t) := (blk_cell U4a.out 0).trans rfl
  have u1 : (w4.alloc (.cells #[.int .i64 t, .slice A5 l.length c5] 24)).cell? ⟨w4.heap.size, 1, none⟩ = some (.slice A5 l.length c5) := (blk_cell U4a.out 1).trans rfl
  go_wp2_with fail
  clear x0 x1 u0 u1
  generalize w4.alloc (.cells #[.int .i64 t, .slice A5 l.length c5] 24) = w4a at *
  refine (same11_true t l A A5 c c5 w4a (Kd.C_below H24.out B4a.out) V4a.out HSM.out).mono ?_
  rintro e w5 ⟨rfl, hb⟩
  clear U4a
  clear V4a
  have B5 := Aside0.mk (below_then B4a.out B4a.out.size hb)
  have X5 := Aside0.mk (blk_below X4a.out hb)
  have Y5 := Aside0.mk (blk_below Y4a.out hb)
  have Z5 := Aside0.mk (blk_below Z4a.out hb)
  have R5 := Aside0.mk (Kd.C_below R4a.out hb)
  clear B4a X4a Y4a Z4a R4a
  clear hb
  have y0 : (w5).cell? ⟨w.heap.size + 1, 0, none⟩ = some (.string key) := (blk_cell Y5.out 0).trans rfl
  have y1 : (w5).cell? ⟨w.heap.size + 1, 1, none⟩ = some (.string val) := (blk_cell Y5.out 1).trans rfl
  have y2 : (w5).cell? ⟨w.heap.size + 1, 2, none⟩ = some (.int .i64 t2) := (blk_cell Y5.out 2).trans rfl
  go_wp2_with fail
  refine (putRow_any key val t2 w5).mono ?_
  rintro e w6 ⟨v6, rfl, ho, hb⟩
  clear y0 y1 y2
  rw [HRP.out] at ho ⊢
  obtain ⟨A6, c6, rfl⟩ := Kd.R_slice ho
  obtain ⟨_, hq, hr⟩ := Kd.R_reads' ho
  have B6 := Aside0.mk (below_then B5.out B5.out.size hb)
  have X6 := Aside0.mk (blk_below X5.out hb)
  have Y6 := Aside0.mk (blk_below Y5.out hb)
  have Z6 := Aside0.mk (blk_below Z5.out hb)
  have R6 := Aside0.mk (Kd.C_below R5.out hb)
  clear B5 X5 Y5 Z5 R5
  clear hb
  have S6 := Aside0.mk (hr)
  have HCB := Aside0.mk hq
  clear ho hq hr
  dsimp only
  go_wp2_with fail
  refine (row_any A6 c6 [] w6 S6.out (Nat.zero_le _) (by decide) (by decide)).mono ?_
  rintro e w7 ⟨rfl, hb⟩
  have e1 : takeRR [] = ((⟨#[]⟩, ⟨#[]⟩, 0), 0, 61) := by unfold takeRR; rw [if_pos (Or.inl (show ([] : List Int).length = 0 from rfl))]
  rw [e1]
  clear S6
  have B7 := Aside0.mk (below_then B6.out B6.out.size hb)
  have X7 := Aside0.mk (blk_below X6.out hb)
  have Y7 := Aside0.mk (blk_below Y6.out hb)
  have Z7 := Aside0.mk (blk_below Z6.out hb)
  have R7 := Aside0.mk (Kd.C_below R6.out hb)
  clear B6 X6 Y6 Z6 R6
  clear hb
  dsimp only
  have B7a := Aside0.mk (below_alloc B7.out (.cells #[.string ⟨#[]⟩, .string ⟨#[]⟩, .int .i64 0] 45))
  have X7a := Aside0.mk (blk_alloc X7.out (.cells #[.string ⟨#[]⟩, .string ⟨#[]⟩, .int .i64 0] 45))
  have Y7a := Aside0.mk (blk_alloc Y7.out (.cells #[.string ⟨#[]⟩, .string ⟨#[]⟩, .int .i64 0] 45))
  have Z7a := Aside0.mk (blk_alloc Z7.out (.cells #[.string ⟨#[]⟩, .string ⟨#[]⟩, .int .i64 0] 45))
  have R7a := Aside0.mk (Kd.C_alloc R7.out (.cells #[.string ⟨#[]⟩, .string ⟨#[]⟩, .int .i64 0] 45))
  clear B7 X7 Y7 Z7 R7
  have z0 : (w7.alloc (.cells #[.string ⟨#[]⟩, .string ⟨#[]⟩, .int .i64 0] 45)).cell? ⟨w.heap.size + 1 + 1, 0, none⟩ = some (.int .i64 t3) := (blk_cell Z7a.out 0).trans rfl
  have z1 : (w7.alloc (.cells #[.string ⟨#[]⟩, .string ⟨#[]⟩, .int .i64 0] 45)).cell? ⟨w.heap.size + 1 + 1, 1, none⟩ = some (.int .i64 g3) := (blk_cell Z7a.out 1).trans rfl
  have z2 : (w7.alloc (.cells #[.string ⟨#[]⟩, .string ⟨#[]⟩, .int .i64 0] 45)).cell? ⟨w.heap.size + 1 + 1, 2, none⟩ = some (.slice A3 l3.length c3) := (blk_cell Z7a.out 2).trans rfl
  go_wp2_with fail
  generalize w7.alloc (.cells #[.string ⟨#[]⟩, .string ⟨#[]⟩, .int .i64 0] 45) = w7a at *
  clear z0 z1 z2
  refine (putManifest_any t3 g3 l3 A3 c3 w7a (Kd.C_below H38.out B7a.out) HWF.out).mono ?_
  rintro e w8 ⟨v8, rfl, ho, hb⟩
  rw [HMP.out] at ho ⊢
  generalize manifestB t3 g3 l3 = b8 at *
  obtain ⟨A8, c8, rfl⟩ := Kd.R_slice ho
  obtain ⟨_, hq, hr⟩ := Kd.R_reads' ho
  have B8 := Aside0.mk (below_then B7a.out B7a.out.size hb)
  have X8 := Aside0.mk (blk_below X7a.out hb)
  have Y8 := Aside0.mk (blk_below Y7a.out hb)
  have Z8 := Aside0.mk (blk_below Z7a.out hb)
  have R8 := Aside0.mk (Kd.C_below R7a.out hb)
  clear B7a X7a Y7a Z7a R7a
  clear hb
  have S8 := Aside0.mk (hr)
  have HCM := Aside0.mk hq
  clear ho hq hr
  dsimp only
  go_wp2_with fail
  refine (manifest_any A8 c8 b8 w8 S8.out HCM.out (by have := HML.out; omega) HMB.out).mono ?_
  rintro e w9 ⟨v9, rfl, ho, hb⟩
  rw [HMK.out] at ho ⊢
  obtain ⟨A9, c9, rfl⟩ := Kd.R_slice ho
  have hr := (Kd.R_reads' ho).2.2
  clear S8
  have B9 := Aside0.mk (below_then B8.out B8.out.size hb)
  have X9 := Aside0.mk (blk_below X8.out hb)
  have Y9 := Aside0.mk (blk_below Y8.out hb)
  have Z9 := Aside0.mk (blk_below Z8.out hb)
  have R9 := Aside0.mk (Kd.C_below R8.out hb)
  clear B8 X8 Y8 Z8 R8
  clear hb
  have V9 := Aside0.mk (hr)
  clear ho hr
  dsimp only
  have B9a := Aside0.mk (below_alloc B9.out (.cells #[.int .i64 t3, .int .i64 g3, .slice A9 l3.length c9] 38))
  have X9a := Aside0.mk (blk_alloc X9.out (.cells #[.int .i64 t3, .int .i64 g3, .slice A9 l3.length c9] 38))
  have Y9a := Aside0.mk (blk_alloc Y9.out (.cells #[.int .i64 t3, .int .i64 g3, .slice A9 l3.length c9] 38))
  have Z9a := Aside0.mk (blk_alloc Z9.out (.cells #[.int .i64 t3, .int .i64 g3, .slice A9 l3.length c9] 38))
  have R9a := Aside0.mk (Kd.C_alloc R9.out (.cells #[.int .i64 t3, .int .i64 g3, .slice A9 l3.length c9] 38))
  have V9a := Aside0.mk (Kd.C_alloc V9.out (.cells #[.int .i64 t3, .int .i64 g3, .slice A9 l3.length c9] 38))
  clear B9 X9 Y9 Z9 R9 V9
  have U9a := Aside0.mk (blk_new w9 (.cells #[.int .i64 t3, .int .i64 g3, .slice A9 l3.length c9] 38))
  have u0 : (w9.alloc (.cells #[.int .i64 t3, .int .i64 g3, .slice A9 l3.length c9] 38)).cell? ⟨w9.heap.size, 0, none⟩ = some (.int .i64 t3) := (blk_cell U9a.out 0).trans rfl
  have u1 : (w9.alloc (.cells #[.int .i64 t3, .int .i64 g3, .slice A9 l3.length c9] 38)).cell? ⟨w9.heap.size, 1, none⟩ = some (.int .i64 g3) := (blk_cell U9a.out 1).trans rfl
  have u2 : (w9.alloc (.cells #[.int .i64 t3, .int .i64 g3, .slice A9 l3.length c9] 38)).cell? ⟨w9.heap.size, 2, none⟩ = some (.slice A9 l3.length c9) := (blk_cell U9a.out 2).trans rfl
  have z0 : (w9.alloc (.cells #[.int .i64 t3, .int .i64 g3, .slice A9 l3.length c9] 38)).cell? ⟨w.heap.size + 1 + 1, 0, none⟩ = some (.int .i64 t3) := (blk_cell Z9a.out 0).trans rfl
  have z1 : (w9.alloc (.cells #[.int .i64 t3, .int .i64 g3, .slice A9 l3.length c9] 38)).cell? ⟨w.heap.size + 1 + 1, 1, none⟩ = some (.int .i64 g3) := (blk_cell Z9a.out 1).trans rfl
  have z2 : (w9.alloc (.cells #[.int .i64 t3, .int .i64 g3, .slice A9 l3.length c9] 38)).cell? ⟨w.heap.size + 1 + 1, 2, none⟩ = some (.slice A3 l3.length c3) := (blk_cell Z9a.out 2).trans rfl
  go_wp2_with fail
  clear z0 z1 z2 u0 u1 u2
  generalize w9.alloc (.cells #[.int .i64 t3, .int .i64 g3, .slice A9 l3.length c9] 38) = w9a at *
  refine (same16_true t3 g3 l3 A3 A9 c3 c9 w9a (Kd.C_below H38.out B9a.out) V9a.out HM3.out).mono ?_
  rintro e w10 ⟨rfl, hb⟩
  clear U9a
  clear V9a
  have B10 := Aside0.mk (below_then B9a.out B9a.out.size hb)
  have X10 := Aside0.mk (blk_below X9a.out hb)
  have Y10 := Aside0.mk (blk_below Y9a.out hb)
  have Z10 := Aside0.mk (blk_below Z9a.out hb)
  have R10 := Aside0.mk (Kd.C_below R9a.out hb)
  clear B9a X9a Y9a Z9a R9a
  clear hb
  clear X10
  clear Y10
  clear Z10
  have hL := HLN.out
  have hL0 := HPO.out
  have hA := HCA.out
  obtain ⟨k, hk, hkl⟩ : ∃ k : Nat, Int.tmod (-(cut + 1)) (b.length : Int) = (k : Int) ∧ k < b.length := ⟨(Int.tmod (-(cut + 1)) (b.length : Int)).toNat, by have := Int.tmod_nonneg (b.length : Int) (show 0 ≤ (-(cut + 1)) by omega); omega, by have := Int.tmod_lt_of_pos (-(cut + 1)) (show 0 < (b.length : Int) by omega); have := Int.tmod_nonneg (b.length : Int) (show 0 ≤ (-(cut + 1)) by omega); omega⟩
  go_wp2_with fail
  have hk' : (b.take k).length = k := by rw [List.length_take]; omega
  have hcall := commit_any A4 c4 (b.take k) w10 (Kd.C_take R10.out (Nat.le_of_lt hkl)) (by omega) (by omega) (fun x hx => HBY.out x (List.mem_of_mem_take hx))
  rw [hk'] at hcall
  refine hcall.mono ?_
  rintro e w11 ⟨v11, rfl, ho, hb⟩
  have hne := HCU.out k hkl
  generalize takeCR (b.take k) = rk at *
  obtain ⟨⟨tk, lk⟩, pk, ek⟩ := rk
  obtain ⟨A11, c11, rfl⟩ := Kd.R_slice ho
  dsimp only at hne ⊢
  generalize List.length lk = Lk at *
  clear ho hcall
  have B11 := Aside0.mk (below_then B10.out B10.out.size hb)
  have R11 := Aside0.mk (Kd.C_below R10.out hb)
  clear B10 R10
  clear hb
  have B12 := Aside0.mk (below_alloc B11.out (.cells #[.int .i64 tk, .slice A11 Lk c11] 24))
  have R12 := Aside0.mk (Kd.C_alloc R11.out (.cells #[.int .i64 tk, .slice A11 Lk c11] 24))
  clear B11 R11
  have HNE := Aside0.mk hne
  have HLB := Aside0.mk hL
  clear hne hk hk'
  have HSZ := Aside0.mk (show w11.heap.size + 1 = (w11.alloc (.cells #[.int .i64 tk, .slice A11 Lk c11] 24)).heap.size from (size_alloc _ _).symm)
  go_wp2_with (at_builtin; first | (refine Kd.R_append_rows (Kd.int .u8) (w0 := (w11.alloc (.cells #[.int .i64 tk, .slice A11 Lk c11] 24))) (w11.alloc (.cells #[.int .i64 tk, .slice A11 Lk c11] 24)).heap.size rfl (.tmp 129) (.tmp 130) 28 5 (.int .u8 0) 1 rfl Try.underlying28 info5 rfl (by decide) (by omega) _ ([] : List Int) b _ _ _ (fun _ => True) (fun _ => False) rfl rfl (R_new8 (w11.alloc (.cells #[.int .i64 tk, .slice A11 Lk c11] 24)) _ HSZ.out) (Kd.C_alloc R12.out _) (fun _ _ h => h) (fun _ h => h.elim) (fun _ _ => trivial) (below_alloc (Below.refl _ _) _) (by simp) (by have := HLB.out; simp; omega) ?_; intro va wa ho hb hg hat; have HOA := Aside0.mk ho; have HBA := Aside0.mk hb; clear ho hb hg hat) | go_must (refine app8 (w11.alloc (.cells #[.int .i64 tk, .slice A11 Lk c11] 24)).heap.size rfl (.tmp 131) (.tmp 132) rfl _ ([] ++ b) _ (fun _ => True) rfl rfl (fun _ _ => trivial) HOA.out HBA.out HBA.out.size (by have := HLB.out; simp; omega) ?_; intro vb wb ho hb hg; have HOB := Aside0.mk ho; have HBB := Aside0.mk hb; clear ho hb hg))
  clear HOA HBA
  have hb := HBB.out
  have ho := HOB.out
  clear HOB HBB
  obtain ⟨A12, c12, rfl⟩ := Kd.R_slice ho
  obtain ⟨_, hq, hr⟩ := Kd.R_reads' ho
  have B13 := Aside0.mk (below_then B12.out B12.out.size hb)
  have R13 := Aside0.mk (Kd.C_below R12.out hb)
  clear B12 R12
  clear hb
  have T13 := Aside0.mk (hr)
  have hll : ([] ++ b ++ [(0 : Int)]).length = (b ++ [0]).length := rfl
  have hcall := commit_any A12 c12 (b ++ [0]) wb T13.out (by simpa using hq) (by simp; omega) (Bytes.app HBY.out (by decide))
  clear ho hq hr
  clear T13
  refine hcall.mono ?_
  rintro e w14 ⟨v14, rfl, ho, hb⟩
  have hmo := HMO.out
  generalize takeCR (b ++ [0]) = rk at *
  obtain ⟨⟨tm, lm⟩, pm, em⟩ := rk
  dsimp only at hmo
  subst hmo
  obtain ⟨A14, c14, rfl⟩ := Kd.R_slice ho
  dsimp only
  generalize List.length lm = Lm at *
  clear ho hcall
  have B14 := Aside0.mk (below_then B13.out B13.out.size hb)
  have R14 := Aside0.mk (Kd.C_below R13.out hb)
  clear B13 R13
  clear hb
  have B15 := Aside0.mk (below_alloc B14.out (.cells #[.int .i64 tm, .slice A14 Lm c14] 24))
  have R15 := Aside0.mk (Kd.C_alloc R14.out (.cells #[.int .i64 tm, .slice A14 Lm c14] 24))
  clear B14 R14
  go_wp2_with fail
  generalize w14.alloc (.cells #[.int .i64 tm, .slice A14 Lm c14] 24) = w15 at *
  refine (row_any A4 c4 b w15 R15.out HCA.out (by omega) HBY.out).mono ?_
  rintro e w16 ⟨rfl, hb⟩
  have hro := HRO.out
  generalize takeRR b = rk at *
  obtain ⟨⟨kr, vr, tr⟩, pr, er⟩ := rk
  dsimp only at hro
  subst hro
  dsimp only
  have B16 := Aside0.mk (below_then B15.out B15.out.size hb)
  have R16 := Aside0.mk (Kd.C_below R15.out hb)
  clear B15 R15
  clear hb
  have B17 := Aside0.mk (below_alloc B16.out (.cells #[.string kr, .string vr, .int .i64 tr] 45))
  have R17 := Aside0.mk (Kd.C_alloc R16.out (.cells #[.string kr, .string vr, .int .i64 tr] 45))
  clear B16 R16
  have hne := HNE.out
  have hne' : (ek != 0) = true := bne_iff_ne.mpr hne
  go_wp2_with fail
  go_ret
  exact ⟨rfl, B17.out⟩

set_option maxRecDepth 100000 in
set_option maxHeartbeats 3200000 in
theorem recordBack_CNMp (t : Int) (l : List W27) (A : Option Addr) (c : Nat) (key val : ByteArray) (t2 : Int) (t3 g3 : Int) (l3 : List P43) (A3 : Option Addr) (c3 : Nat) (cut : Int) (w : World)
    (h24 : k27.C w A l.length l) (h38 : k43.C w A3 l3.length l3) (hwf : ∀ x ∈ l3, (Lit.int .i64 x.num).wf = true) (hC : rightC t l = true) (hR : rightR key val t2 = false) (hM : rightM t3 g3 l3 = true) (hcut : 0 ≤ cut) (hmax : cut ≤ 9223372036854775807) :
    Calls Try.prog 6 #[.agg #[.int .i64 t, .slice A l.length c], .agg #[.string key, .string val, .int .i64 t2], .agg #[.int .i64 t3, .int .i64 g3, .slice A3 l3.length c3], .int .i64 cut] w fun e w' => e = .returned (.bool true) ∧ Below w.heap.size w w' := by
  have hu24 := Try.underlying24
  have hu45 := Try.underlying45
  have H24 := Aside0.mk h24
  have H38 := Aside0.mk h38
  have HWF := Aside0.mk hwf
  have HBY := Aside0.mk (commitB_bytes t l)
  have HLN := Aside0.mk (commitB_len t l hC)
  have HPC := Aside0.mk (show putC t l = (commitB t l, 0) by unfold putC; rw [if_pos hC])
  have HBK := Aside0.mk (back_C t l hC)
  have HCU := Aside0.mk (cut_C t l hC (commitB_bytes t l))
  have HMO := Aside0.mk (more_C t l hC)
  have HRO := Aside0.mk (row_C t l)
  have HPO := Aside0.mk (show 0 < (commitB t l).length by unfold commitB; simp)
  have HSM := Aside0.mk (show l.length < 9223372036854775807 by have := (rightC_small t l hC).1; omega)
  have HRP := Aside0.mk (show putR key val t2 = ([], 60) by unfold putR; rw [hR]; rfl)
  have HMP := Aside0.mk (show putM t3 g3 l3 = (manifestB t3 g3 l3, 0) by unfold putM; rw [if_pos hM])
  have HMB := Aside0.mk (manifestB_bytes t3 g3 l3)
  have HML := Aside0.mk (manifestB_len t3 g3 l3 hM)
  have HMK := Aside0.mk (back_M t3 g3 l3 hM)
  have HM3 := Aside0.mk (show l3.length < 9223372036854775807 by have := rightM_len t3 g3 l3 hM; omega)
  clear h24 h38 hwf hC hR hM
  have hy := blk_new (w.alloc (.cells #[.int .i64 t, .slice A l.length c] 24)) (.cells #[.string key, .string val, .int .i64 t2] 45)
  rw [size_alloc] at hy
  have hz := blk_new ((w.alloc (.cells #[.int .i64 t, .slice A l.length c] 24)).alloc (.cells #[.string key, .string val, .int .i64 t2] 45)) (.cells #[.int .i64 t3, .int .i64 g3, .slice A3 l3.length c3] 38)
  rw [size_alloc, size_alloc] at hz
  have B1 := Aside0.mk (below_alloc (below_alloc (below_alloc (Below.refl w.heap.size w) (.cells #[.int .i64 t, .slice A l.length c] 24)) (.cells #[.string key, .string val, .int .i64 t2] 45)) (.cells #[.int .i64 t3, .int .i64 g3, .slice A3 l3.length c3] 38))
  have X1 := Aside0.mk (blk_alloc (blk_alloc (blk_new w (.cells #[.int .i64 t, .slice A l.length c] 24)) (.cells #[.string key, .string val, .int .i64 t2] 45)) (.cells #[.int .i64 t3, .int .i64 g3, .slice A3 l3.length c3] 38))
  have Y1 := Aside0.mk (blk_alloc hy (.cells #[.int .i64 t3, .int .i64 g3, .slice A3 l3.length c3] 38))
  have Z1 := Aside0.mk (hz)
  clear hy hz
  go_enter Try.func6, Try.ntmps6
  go_wp2_with fail
  generalize ((w.alloc (.cells #[.int .i64 t, .slice A l.length c] 24)).alloc (.cells #[.string key, .string val, .int .i64 t2] 45)).alloc (.cells #[.int .i64 t3, .int .i64 g3, .slice A3 l3.length c3] 38) = w1 at *
  refine (shown_any w1).mono ?_
  rintro e w2 ⟨rfl, hb⟩
  have B2 := Aside0.mk (below_then B1.out B1.out.size hb)
  have X2 := Aside0.mk (blk_below X1.out hb)
  have Y2 := Aside0.mk (blk_below Y1.out hb)
  have Z2 := Aside0.mk (blk_below Z1.out hb)
  clear B1 X1 Y1 Z1
  clear hb
  have x0 : (w2).cell? ⟨w.heap.size, 0, none⟩ = some (.int .i64 t) := (blk_cell X2.out 0).trans rfl
  have x1 : (w2).cell? ⟨w.heap.size, 1, none⟩ = some (.slice A l.length c) := (blk_cell X2.out 1).trans rfl
  go_wp2_with fail
  refine (putCommit_any t l A c w2 (Kd.C_below H24.out B2.out)).mono ?_
  rintro e w3 ⟨v3, rfl, ho, hb⟩
  clear x0 x1
  rw [HPC.out] at ho ⊢
  generalize commitB t l = b at *
  obtain ⟨A4, c4, rfl⟩ := Kd.R_slice ho
  obtain ⟨_, hq, hr⟩ := Kd.R_reads' ho
  have B3 := Aside0.mk (below_then B2.out B2.out.size hb)
  have X3 := Aside0.mk (blk_below X2.out hb)
  have Y3 := Aside0.mk (blk_below Y2.out hb)
  have Z3 := Aside0.mk (blk_below Z2.out hb)
  clear B2 X2 Y2 Z2
  clear hb
  have R3 := Aside0.mk (hr)
  have HCA := Aside0.mk hq
  clear ho hq hr
  dsimp only
  go_wp2_with fail
  refine (commit_any A4 c4 b w3 R3.out HCA.out (by have := HLN.out; omega) HBY.out).mono ?_
  rintro e w4 ⟨v4, rfl, ho, hb⟩
  rw [HBK.out] at ho ⊢
  obtain ⟨A5, c5, rfl⟩ := Kd.R_slice ho
  have hr := (Kd.R_reads' ho).2.2
  have B4 := Aside0.mk (below_then B3.out B3.out.size hb)
  have X4 := Aside0.mk (blk_below X3.out hb)
  have Y4 := Aside0.mk (blk_below Y3.out hb)
  have Z4 := Aside0.mk (blk_below Z3.out hb)
  have R4 := Aside0.mk (Kd.C_below R3.out hb)
  clear B3 X3 Y3 Z3 R3
  clear hb
  have V4 := Aside0.mk (hr)
  clear ho hr
  dsimp only
  have B4a := Aside0.mk (below_alloc B4.out (.cells #[.int .i64 t, .slice A5 l.length c5] 24))
  have X4a := Aside0.mk (blk_alloc X4.out (.cells #[.int .i64 t, .slice A5 l.length c5] 24))
  have Y4a := Aside0.mk (blk_alloc Y4.out (.cells #[.int .i64 t, .slice A5 l.length c5] 24))
  have Z4a := Aside0.mk (blk_alloc Z4.out (.cells #[.int .i64 t, .slice A5 l.length c5] 24))
  have R4a := Aside0.mk (Kd.C_alloc R4.out (.cells #[.int .i64 t, .slice A5 l.length c5] 24))
  have V4a := Aside0.mk (Kd.C_alloc V4.out (.cells #[.int .i64 t, .slice A5 l.length c5] 24))
  clear B4 X4 Y4 Z4 R4 V4
  have U4a := Aside0.mk (blk_new w4 (.cells #[.int .i64 t, .slice A5 l.length c5] 24))
  have x0 : (w4.alloc (.cells #[.int .i64 t, .slice A5 l.length c5] 24)).cell? ⟨w.heap.size, 0, none⟩ = some (.int .i64 t) := (blk_cell X4a.out 0).trans rfl
  have x1 : (w4.alloc (.cells #[.int .i64 t, .slice A5 l.length c5] 24)).cell? ⟨w.heap.size, 1, none⟩ = some (.slice A l.length c) := (blk_cell X4a.out 1).trans rfl
  have u0 : (w4.alloc (.cells #[.int .i64 t, .slice A5 l.length c5] 24)).cell? ⟨w4.heap.size, 0, none⟩ = some (.int .i64 t) := (blk_cell U4a.out 0).trans rfl
  have u1 : (w4.alloc (.cells #[.int .i64 t, .slice A5 l.length c5] 24)).cell? ⟨w4.heap.size, 1, none⟩ = some (.slice A5 l.length c5) := (blk_cell U4a.out 1).trans rfl
  go_wp2_with fail
  clear x0 x1 u0 u1
  generalize w4.alloc (.cells #[.int .i64 t, .slice A5 l.length c5] 24) = w4a at *
  refine (same11_true t l A A5 c c5 w4a (Kd.C_below H24.out B4a.out) V4a.out HSM.out).mono ?_
  rintro e w5 ⟨rfl, hb⟩
  clear U4a
  clear V4a
  have B5 := Aside0.mk (below_then B4a.out B4a.out.size hb)
  have X5 := Aside0.mk (blk_below X4a.out hb)
  have Y5 := Aside0.mk (blk_below Y4a.out hb)
  have Z5 := Aside0.mk (blk_below Z4a.out hb)
  have R5 := Aside0.mk (Kd.C_below R4a.out hb)
  clear B4a X4a Y4a Z4a R4a
  clear hb
  have y0 : (w5).cell? ⟨w.heap.size + 1, 0, none⟩ = some (.string key) := (blk_cell Y5.out 0).trans rfl
  have y1 : (w5).cell? ⟨w.heap.size + 1, 1, none⟩ = some (.string val) := (blk_cell Y5.out 1).trans rfl
  have y2 : (w5).cell? ⟨w.heap.size + 1, 2, none⟩ = some (.int .i64 t2) := (blk_cell Y5.out 2).trans rfl
  go_wp2_with fail
  refine (putRow_any key val t2 w5).mono ?_
  rintro e w6 ⟨v6, rfl, ho, hb⟩
  clear y0 y1 y2
  rw [HRP.out] at ho ⊢
  obtain ⟨A6, c6, rfl⟩ := Kd.R_slice ho
  obtain ⟨_, hq, hr⟩ := Kd.R_reads' ho
  have B6 := Aside0.mk (below_then B5.out B5.out.size hb)
  have X6 := Aside0.mk (blk_below X5.out hb)
  have Y6 := Aside0.mk (blk_below Y5.out hb)
  have Z6 := Aside0.mk (blk_below Z5.out hb)
  have R6 := Aside0.mk (Kd.C_below R5.out hb)
  clear B5 X5 Y5 Z5 R5
  clear hb
  have S6 := Aside0.mk (hr)
  have HCB := Aside0.mk hq
  clear ho hq hr
  dsimp only
  go_wp2_with fail
  refine (row_any A6 c6 [] w6 S6.out (Nat.zero_le _) (by decide) (by decide)).mono ?_
  rintro e w7 ⟨rfl, hb⟩
  have e1 : takeRR [] = ((⟨#[]⟩, ⟨#[]⟩, 0), 0, 61) := by unfold takeRR; rw [if_pos (Or.inl (show ([] : List Int).length = 0 from rfl))]
  rw [e1]
  clear S6
  have B7 := Aside0.mk (below_then B6.out B6.out.size hb)
  have X7 := Aside0.mk (blk_below X6.out hb)
  have Y7 := Aside0.mk (blk_below Y6.out hb)
  have Z7 := Aside0.mk (blk_below Z6.out hb)
  have R7 := Aside0.mk (Kd.C_below R6.out hb)
  clear B6 X6 Y6 Z6 R6
  clear hb
  dsimp only
  have B7a := Aside0.mk (below_alloc B7.out (.cells #[.string ⟨#[]⟩, .string ⟨#[]⟩, .int .i64 0] 45))
  have X7a := Aside0.mk (blk_alloc X7.out (.cells #[.string ⟨#[]⟩, .string ⟨#[]⟩, .int .i64 0] 45))
  have Y7a := Aside0.mk (blk_alloc Y7.out (.cells #[.string ⟨#[]⟩, .string ⟨#[]⟩, .int .i64 0] 45))
  have Z7a := Aside0.mk (blk_alloc Z7.out (.cells #[.string ⟨#[]⟩, .string ⟨#[]⟩, .int .i64 0] 45))
  have R7a := Aside0.mk (Kd.C_alloc R7.out (.cells #[.string ⟨#[]⟩, .string ⟨#[]⟩, .int .i64 0] 45))
  clear B7 X7 Y7 Z7 R7
  have z0 : (w7.alloc (.cells #[.string ⟨#[]⟩, .string ⟨#[]⟩, .int .i64 0] 45)).cell? ⟨w.heap.size + 1 + 1, 0, none⟩ = some (.int .i64 t3) := (blk_cell Z7a.out 0).trans rfl
  have z1 : (w7.alloc (.cells #[.string ⟨#[]⟩, .string ⟨#[]⟩, .int .i64 0] 45)).cell? ⟨w.heap.size + 1 + 1, 1, none⟩ = some (.int .i64 g3) := (blk_cell Z7a.out 1).trans rfl
  have z2 : (w7.alloc (.cells #[.string ⟨#[]⟩, .string ⟨#[]⟩, .int .i64 0] 45)).cell? ⟨w.heap.size + 1 + 1, 2, none⟩ = some (.slice A3 l3.length c3) := (blk_cell Z7a.out 2).trans rfl
  go_wp2_with fail
  generalize w7.alloc (.cells #[.string ⟨#[]⟩, .string ⟨#[]⟩, .int .i64 0] 45) = w7a at *
  clear z0 z1 z2
  refine (putManifest_any t3 g3 l3 A3 c3 w7a (Kd.C_below H38.out B7a.out) HWF.out).mono ?_
  rintro e w8 ⟨v8, rfl, ho, hb⟩
  rw [HMP.out] at ho ⊢
  generalize manifestB t3 g3 l3 = b8 at *
  obtain ⟨A8, c8, rfl⟩ := Kd.R_slice ho
  obtain ⟨_, hq, hr⟩ := Kd.R_reads' ho
  have B8 := Aside0.mk (below_then B7a.out B7a.out.size hb)
  have X8 := Aside0.mk (blk_below X7a.out hb)
  have Y8 := Aside0.mk (blk_below Y7a.out hb)
  have Z8 := Aside0.mk (blk_below Z7a.out hb)
  have R8 := Aside0.mk (Kd.C_below R7a.out hb)
  clear B7a X7a Y7a Z7a R7a
  clear hb
  have S8 := Aside0.mk (hr)
  have HCM := Aside0.mk hq
  clear ho hq hr
  dsimp only
  go_wp2_with fail
  refine (manifest_any A8 c8 b8 w8 S8.out HCM.out (by have := HML.out; omega) HMB.out).mono ?_
  rintro e w9 ⟨v9, rfl, ho, hb⟩
  rw [HMK.out] at ho ⊢
  obtain ⟨A9, c9, rfl⟩ := Kd.R_slice ho
  have hr := (Kd.R_reads' ho).2.2
  clear S8
  have B9 := Aside0.mk (below_then B8.out B8.out.size hb)
  have X9 := Aside0.mk (blk_below X8.out hb)
  have Y9 := Aside0.mk (blk_below Y8.out hb)
  have Z9 := Aside0.mk (blk_below Z8.out hb)
  have R9 := Aside0.mk (Kd.C_below R8.out hb)
  clear B8 X8 Y8 Z8 R8
  clear hb
  have V9 := Aside0.mk (hr)
  clear ho hr
  dsimp only
  have B9a := Aside0.mk (below_alloc B9.out (.cells #[.int .i64 t3, .int .i64 g3, .slice A9 l3.length c9] 38))
  have X9a := Aside0.mk (blk_alloc X9.out (.cells #[.int .i64 t3, .int .i64 g3, .slice A9 l3.length c9] 38))
  have Y9a := Aside0.mk (blk_alloc Y9.out (.cells #[.int .i64 t3, .int .i64 g3, .slice A9 l3.length c9] 38))
  have Z9a := Aside0.mk (blk_alloc Z9.out (.cells #[.int .i64 t3, .int .i64 g3, .slice A9 l3.length c9] 38))
  have R9a := Aside0.mk (Kd.C_alloc R9.out (.cells #[.int .i64 t3, .int .i64 g3, .slice A9 l3.length c9] 38))
  have V9a := Aside0.mk (Kd.C_alloc V9.out (.cells #[.int .i64 t3, .int .i64 g3, .slice A9 l3.length c9] 38))
  clear B9 X9 Y9 Z9 R9 V9
  have U9a := Aside0.mk (blk_new w9 (.cells #[.int .i64 t3, .int .i64 g3, .slice A9 l3.length c9] 38))
  have u0 : (w9.alloc (.cells #[.int .i64 t3, .int .i64 g3, .slice A9 l3.length c9] 38)).cell? ⟨w9.heap.size, 0, none⟩ = some (.int .i64 t3) := (blk_cell U9a.out 0).trans rfl
  have u1 : (w9.alloc (.cells #[.int .i64 t3, .int .i64 g3, .slice A9 l3.length c9] 38)).cell? ⟨w9.heap.size, 1, none⟩ = some (.int .i64 g3) := (blk_cell U9a.out 1).trans rfl
  have u2 : (w9.alloc (.cells #[.int .i64 t3, .int .i64 g3, .slice A9 l3.length c9] 38)).cell? ⟨w9.heap.size, 2, none⟩ = some (.slice A9 l3.length c9) := (blk_cell U9a.out 2).trans rfl
  have z0 : (w9.alloc (.cells #[.int .i64 t3, .int .i64 g3, .slice A9 l3.length c9] 38)).cell? ⟨w.heap.size + 1 + 1, 0, none⟩ = some (.int .i64 t3) := (blk_cell Z9a.out 0).trans rfl
  have z1 : (w9.alloc (.cells #[.int .i64 t3, .int .i64 g3, .slice A9 l3.length c9] 38)).cell? ⟨w.heap.size + 1 + 1, 1, none⟩ = some (.int .i64 g3) := (blk_cell Z9a.out 1).trans rfl
  have z2 : (w9.alloc (.cells #[.int .i64 t3, .int .i64 g3, .slice A9 l3.length c9] 38)).cell? ⟨w.heap.size + 1 + 1, 2, none⟩ = some (.slice A3 l3.length c3) := (blk_cell Z9a.out 2).trans rfl
  go_wp2_with fail
  clear z0 z1 z2 u0 u1 u2
  generalize w9.alloc (.cells #[.int .i64 t3, .int .i64 g3, .slice A9 l3.length c9] 38) = w9a at *
  refine (same16_true t3 g3 l3 A3 A9 c3 c9 w9a (Kd.C_below H38.out B9a.out) V9a.out HM3.out).mono ?_
  rintro e w10 ⟨rfl, hb⟩
  clear U9a
  clear V9a
  have B10 := Aside0.mk (below_then B9a.out B9a.out.size hb)
  have X10 := Aside0.mk (blk_below X9a.out hb)
  have Y10 := Aside0.mk (blk_below Y9a.out hb)
  have Z10 := Aside0.mk (blk_below Z9a.out hb)
  have R10 := Aside0.mk (Kd.C_below R9a.out hb)
  clear B9a X9a Y9a Z9a R9a
  clear hb
  clear X10
  clear Y10
  clear Z10
  have hL := HLN.out
  have hL0 := HPO.out
  have hA := HCA.out
  obtain ⟨k, hk, hkl⟩ : ∃ k : Nat, Int.tmod cut (b.length : Int) = (k : Int) ∧ k < b.length := ⟨(Int.tmod cut (b.length : Int)).toNat, by have := Int.tmod_nonneg (b.length : Int) (show 0 ≤ cut by omega); omega, by have := Int.tmod_lt_of_pos cut (show 0 < (b.length : Int) by omega); have := Int.tmod_nonneg (b.length : Int) (show 0 ≤ cut by omega); omega⟩
  go_wp2_with fail
  have hk' : (b.take k).length = k := by rw [List.length_take]; omega
  have hcall := commit_any A4 c4 (b.take k) w10 (Kd.C_take R10.out (Nat.le_of_lt hkl)) (by omega) (by omega) (fun x hx => HBY.out x (List.mem_of_mem_take hx))
  rw [hk'] at hcall
  refine hcall.mono ?_
  rintro e w11 ⟨v11, rfl, ho, hb⟩
  have hne := HCU.out k hkl
  generalize takeCR (b.take k) = rk at *
  obtain ⟨⟨tk, lk⟩, pk, ek⟩ := rk
  obtain ⟨A11, c11, rfl⟩ := Kd.R_slice ho
  dsimp only at hne ⊢
  generalize List.length lk = Lk at *
  clear ho hcall
  have B11 := Aside0.mk (below_then B10.out B10.out.size hb)
  have R11 := Aside0.mk (Kd.C_below R10.out hb)
  clear B10 R10
  clear hb
  have B12 := Aside0.mk (below_alloc B11.out (.cells #[.int .i64 tk, .slice A11 Lk c11] 24))
  have R12 := Aside0.mk (Kd.C_alloc R11.out (.cells #[.int .i64 tk, .slice A11 Lk c11] 24))
  clear B11 R11
  have HNE := Aside0.mk hne
  have HLB := Aside0.mk hL
  clear hne hk hk'
  have HSZ := Aside0.mk (show w11.heap.size + 1 = (w11.alloc (.cells #[.int .i64 tk, .slice A11 Lk c11] 24)).heap.size from (size_alloc _ _).symm)
  go_wp2_with (at_builtin; first | (refine Kd.R_append_rows (Kd.int .u8) (w0 := (w11.alloc (.cells #[.int .i64 tk, .slice A11 Lk c11] 24))) (w11.alloc (.cells #[.int .i64 tk, .slice A11 Lk c11] 24)).heap.size rfl (.tmp 129) (.tmp 130) 28 5 (.int .u8 0) 1 rfl Try.underlying28 info5 rfl (by decide) (by omega) _ ([] : List Int) b _ _ _ (fun _ => True) (fun _ => False) rfl rfl (R_new8 (w11.alloc (.cells #[.int .i64 tk, .slice A11 Lk c11] 24)) _ HSZ.out) (Kd.C_alloc R12.out _) (fun _ _ h => h) (fun _ h => h.elim) (fun _ _ => trivial) (below_alloc (Below.refl _ _) _) (by simp) (by have := HLB.out; simp; omega) ?_; intro va wa ho hb hg hat; have HOA := Aside0.mk ho; have HBA := Aside0.mk hb; clear ho hb hg hat) | go_must (refine app8 (w11.alloc (.cells #[.int .i64 tk, .slice A11 Lk c11] 24)).heap.size rfl (.tmp 131) (.tmp 132) rfl _ ([] ++ b) _ (fun _ => True) rfl rfl (fun _ _ => trivial) HOA.out HBA.out HBA.out.size (by have := HLB.out; simp; omega) ?_; intro vb wb ho hb hg; have HOB := Aside0.mk ho; have HBB := Aside0.mk hb; clear ho hb hg))
  clear HOA HBA
  have hb := HBB.out
  have ho := HOB.out
  clear HOB HBB
  obtain ⟨A12, c12, rfl⟩ := Kd.R_slice ho
  obtain ⟨_, hq, hr⟩ := Kd.R_reads' ho
  have B13 := Aside0.mk (below_then B12.out B12.out.size hb)
  have R13 := Aside0.mk (Kd.C_below R12.out hb)
  clear B12 R12
  clear hb
  have T13 := Aside0.mk (hr)
  have hll : ([] ++ b ++ [(0 : Int)]).length = (b ++ [0]).length := rfl
  have hcall := commit_any A12 c12 (b ++ [0]) wb T13.out (by simpa using hq) (by simp; omega) (Bytes.app HBY.out (by decide))
  clear ho hq hr
  clear T13
  refine hcall.mono ?_
  rintro e w14 ⟨v14, rfl, ho, hb⟩
  have hmo := HMO.out
  generalize takeCR (b ++ [0]) = rk at *
  obtain ⟨⟨tm, lm⟩, pm, em⟩ := rk
  dsimp only at hmo
  subst hmo
  obtain ⟨A14, c14, rfl⟩ := Kd.R_slice ho
  dsimp only
  generalize List.length lm = Lm at *
  clear ho hcall
  have B14 := Aside0.mk (below_then B13.out B13.out.size hb)
  have R14 := Aside0.mk (Kd.C_below R13.out hb)
  clear B13 R13
  clear hb
  have B15 := Aside0.mk (below_alloc B14.out (.cells #[.int .i64 tm, .slice A14 Lm c14] 24))
  have R15 := Aside0.mk (Kd.C_alloc R14.out (.cells #[.int .i64 tm, .slice A14 Lm c14] 24))
  clear B14 R14
  go_wp2_with fail
  generalize w14.alloc (.cells #[.int .i64 tm, .slice A14 Lm c14] 24) = w15 at *
  refine (row_any A4 c4 b w15 R15.out HCA.out (by omega) HBY.out).mono ?_
  rintro e w16 ⟨rfl, hb⟩
  have hro := HRO.out
  generalize takeRR b = rk at *
  obtain ⟨⟨kr, vr, tr⟩, pr, er⟩ := rk
  dsimp only at hro
  subst hro
  dsimp only
  have B16 := Aside0.mk (below_then B15.out B15.out.size hb)
  have R16 := Aside0.mk (Kd.C_below R15.out hb)
  clear B15 R15
  clear hb
  have B17 := Aside0.mk (below_alloc B16.out (.cells #[.string kr, .string vr, .int .i64 tr] 45))
  have R17 := Aside0.mk (Kd.C_alloc R16.out (.cells #[.string kr, .string vr, .int .i64 tr] 45))
  clear B16 R16
  have hne := HNE.out
  have hne' : (ek != 0) = true := bne_iff_ne.mpr hne
  go_wp2_with fail
  go_ret
  exact ⟨rfl, B17.out⟩

set_option maxRecDepth 100000 in
set_option maxHeartbeats 3200000 in
theorem recordBack_CNNn (t : Int) (l : List W27) (A : Option Addr) (c : Nat) (key val : ByteArray) (t2 : Int) (t3 g3 : Int) (l3 : List P43) (A3 : Option Addr) (c3 : Nat) (cut : Int) (w : World)
    (h24 : k27.C w A l.length l) (h38 : k43.C w A3 l3.length l3) (hwf : ∀ x ∈ l3, (Lit.int .i64 x.num).wf = true) (hC : rightC t l = true) (hR : rightR key val t2 = false) (hM : rightM t3 g3 l3 = false) (hcut : cut < 0) (hmin : -9223372036854775808 ≤ cut) :
    Calls Try.prog 6 #[.agg #[.int .i64 t, .slice A l.length c], .agg #[.string key, .string val, .int .i64 t2], .agg #[.int .i64 t3, .int .i64 g3, .slice A3 l3.length c3], .int .i64 cut] w fun e w' => e = .returned (.bool true) ∧ Below w.heap.size w w' := by
  have hu24 := Try.underlying24
  have hu45 := Try.underlying45
  have H24 := Aside0.mk h24
  have H38 := Aside0.mk h38
  have HWF := Aside0.mk hwf
  have HBY := Aside0.mk (commitB_bytes t l)
  have HLN := Aside0.mk (commitB_len t l hC)
  have HPC := Aside0.mk (show putC t l = (commitB t l, 0) by unfold putC; rw [if_pos hC])
  have HBK := Aside0.mk (back_C t l hC)
  have HCU := Aside0.mk (cut_C t l hC (commitB_bytes t l))
  have HMO := Aside0.mk (more_C t l hC)
  have HRO := Aside0.mk (row_C t l)
  have HPO := Aside0.mk (show 0 < (commitB t l).length by unfold commitB; simp)
  have HSM := Aside0.mk (show l.length < 9223372036854775807 by have := (rightC_small t l hC).1; omega)
  have HRP := Aside0.mk (show putR key val t2 = ([], 60) by unfold putR; rw [hR]; rfl)
  have HMP := Aside0.mk (show putM t3 g3 l3 = ([], 60) by unfold putM; rw [hM]; rfl)
  clear h24 h38 hwf hC hR hM
  have hy := blk_new (w.alloc (.cells #[.int .i64 t, .slice A l.length c] 24)) (.cells #[.string key, .string val, .int .i64 t2] 45)
  rw [size_alloc] at hy
  have hz := blk_new ((w.alloc (.cells #[.int .i64 t, .slice A l.length c] 24)).alloc (.cells #[.string key, .string val, .int .i64 t2] 45)) (.cells #[.int .i64 t3, .int .i64 g3, .slice A3 l3.length c3] 38)
  rw [size_alloc, size_alloc] at hz
  have B1 := Aside0.mk (below_alloc (below_alloc (below_alloc (Below.refl w.heap.size w) (.cells #[.int .i64 t, .slice A l.length c] 24)) (.cells #[.string key, .string val, .int .i64 t2] 45)) (.cells #[.int .i64 t3, .int .i64 g3, .slice A3 l3.length c3] 38))
  have X1 := Aside0.mk (blk_alloc (blk_alloc (blk_new w (.cells #[.int .i64 t, .slice A l.length c] 24)) (.cells #[.string key, .string val, .int .i64 t2] 45)) (.cells #[.int .i64 t3, .int .i64 g3, .slice A3 l3.length c3] 38))
  have Y1 := Aside0.mk (blk_alloc hy (.cells #[.int .i64 t3, .int .i64 g3, .slice A3 l3.length c3] 38))
  have Z1 := Aside0.mk (hz)
  clear hy hz
  go_enter Try.func6, Try.ntmps6
  go_wp2_with fail
  generalize ((w.alloc (.cells #[.int .i64 t, .slice A l.length c] 24)).alloc (.cells #[.string key, .string val, .int .i64 t2] 45)).alloc (.cells #[.int .i64 t3, .int .i64 g3, .slice A3 l3.length c3] 38) = w1 at *
  refine (shown_any w1).mono ?_
  rintro e w2 ⟨rfl, hb⟩
  have B2 := Aside0.mk (below_then B1.out B1.out.size hb)
  have X2 := Aside0.mk (blk_below X1.out hb)
  have Y2 := Aside0.mk (blk_below Y1.out hb)
  have Z2 := Aside0.mk (blk_below Z1.out hb)
  clear B1 X1 Y1 Z1
  clear hb
  have x0 : (w2).cell? ⟨w.heap.size, 0, none⟩ = some (.int .i64 t) := (blk_cell X2.out 0).trans rfl
  have x1 : (w2).cell? ⟨w.heap.size, 1, none⟩ = some (.slice A l.length c) := (blk_cell X2.out 1).trans rfl
  go_wp2_with fail
  refine (putCommit_any t l A c w2 (Kd.C_below H24.out B2.out)).mono ?_
  rintro e w3 ⟨v3, rfl, ho, hb⟩
  clear x0 x1
  rw [HPC.out] at ho ⊢
  generalize commitB t l = b at *
  obtain ⟨A4, c4, rfl⟩ := Kd.R_slice ho
  obtain ⟨_, hq, hr⟩ := Kd.R_reads' ho
  have B3 := Aside0.mk (below_then B2.out B2.out.size hb)
  have X3 := Aside0.mk (blk_below X2.out hb)
  have Y3 := Aside0.mk (blk_below Y2.out hb)
  have Z3 := Aside0.mk (blk_below Z2.out hb)
  clear B2 X2 Y2 Z2
  clear hb
  have R3 := Aside0.mk (hr)
  have HCA := Aside0.mk hq
  clear ho hq hr
  dsimp only
  go_wp2_with fail
  refine (commit_any A4 c4 b w3 R3.out HCA.out (by have := HLN.out; omega) HBY.out).mono ?_
  rintro e w4 ⟨v4, rfl, ho, hb⟩
  rw [HBK.out] at ho ⊢
  obtain ⟨A5, c5, rfl⟩ := Kd.R_slice ho
  have hr := (Kd.R_reads' ho).2.2
  have B4 := Aside0.mk (below_then B3.out B3.out.size hb)
  have X4 := Aside0.mk (blk_below X3.out hb)
  have Y4 := Aside0.mk (blk_below Y3.out hb)
  have Z4 := Aside0.mk (blk_below Z3.out hb)
  have R4 := Aside0.mk (Kd.C_below R3.out hb)
  clear B3 X3 Y3 Z3 R3
  clear hb
  have V4 := Aside0.mk (hr)
  clear ho hr
  dsimp only
  have B4a := Aside0.mk (below_alloc B4.out (.cells #[.int .i64 t, .slice A5 l.length c5] 24))
  have X4a := Aside0.mk (blk_alloc X4.out (.cells #[.int .i64 t, .slice A5 l.length c5] 24))
  have Y4a := Aside0.mk (blk_alloc Y4.out (.cells #[.int .i64 t, .slice A5 l.length c5] 24))
  have Z4a := Aside0.mk (blk_alloc Z4.out (.cells #[.int .i64 t, .slice A5 l.length c5] 24))
  have R4a := Aside0.mk (Kd.C_alloc R4.out (.cells #[.int .i64 t, .slice A5 l.length c5] 24))
  have V4a := Aside0.mk (Kd.C_alloc V4.out (.cells #[.int .i64 t, .slice A5 l.length c5] 24))
  clear B4 X4 Y4 Z4 R4 V4
  have U4a := Aside0.mk (blk_new w4 (.cells #[.int .i64 t, .slice A5 l.length c5] 24))
  have x0 : (w4.alloc (.cells #[.int .i64 t, .slice A5 l.length c5] 24)).cell? ⟨w.heap.size, 0, none⟩ = some (.int .i64 t) := (blk_cell X4a.out 0).trans rfl
  have x1 : (w4.alloc (.cells #[.int .i64 t, .slice A5 l.length c5] 24)).cell? ⟨w.heap.size, 1, none⟩ = some (.slice A l.length c) := (blk_cell X4a.out 1).trans rfl
  have u0 : (w4.alloc (.cells #[.int .i64 t, .slice A5 l.length c5] 24)).cell? ⟨w4.heap.size, 0, none⟩ = some (.int .i64 t) := (blk_cell U4a.out 0).trans rfl
  have u1 : (w4.alloc (.cells #[.int .i64 t, .slice A5 l.length c5] 24)).cell? ⟨w4.heap.size, 1, none⟩ = some (.slice A5 l.length c5) := (blk_cell U4a.out 1).trans rfl
  go_wp2_with fail
  clear x0 x1 u0 u1
  generalize w4.alloc (.cells #[.int .i64 t, .slice A5 l.length c5] 24) = w4a at *
  refine (same11_true t l A A5 c c5 w4a (Kd.C_below H24.out B4a.out) V4a.out HSM.out).mono ?_
  rintro e w5 ⟨rfl, hb⟩
  clear U4a
  clear V4a
  have B5 := Aside0.mk (below_then B4a.out B4a.out.size hb)
  have X5 := Aside0.mk (blk_below X4a.out hb)
  have Y5 := Aside0.mk (blk_below Y4a.out hb)
  have Z5 := Aside0.mk (blk_below Z4a.out hb)
  have R5 := Aside0.mk (Kd.C_below R4a.out hb)
  clear B4a X4a Y4a Z4a R4a
  clear hb
  have y0 : (w5).cell? ⟨w.heap.size + 1, 0, none⟩ = some (.string key) := (blk_cell Y5.out 0).trans rfl
  have y1 : (w5).cell? ⟨w.heap.size + 1, 1, none⟩ = some (.string val) := (blk_cell Y5.out 1).trans rfl
  have y2 : (w5).cell? ⟨w.heap.size + 1, 2, none⟩ = some (.int .i64 t2) := (blk_cell Y5.out 2).trans rfl
  go_wp2_with fail
  refine (putRow_any key val t2 w5).mono ?_
  rintro e w6 ⟨v6, rfl, ho, hb⟩
  clear y0 y1 y2
  rw [HRP.out] at ho ⊢
  obtain ⟨A6, c6, rfl⟩ := Kd.R_slice ho
  obtain ⟨_, hq, hr⟩ := Kd.R_reads' ho
  have B6 := Aside0.mk (below_then B5.out B5.out.size hb)
  have X6 := Aside0.mk (blk_below X5.out hb)
  have Y6 := Aside0.mk (blk_below Y5.out hb)
  have Z6 := Aside0.mk (blk_below Z5.out hb)
  have R6 := Aside0.mk (Kd.C_below R5.out hb)
  clear B5 X5 Y5 Z5 R5
  clear hb
  have S6 := Aside0.mk (hr)
  have HCB := Aside0.mk hq
  clear ho hq hr
  dsimp only
  go_wp2_with fail
  refine (row_any A6 c6 [] w6 S6.out (Nat.zero_le _) (by decide) (by decide)).mono ?_
  rintro e w7 ⟨rfl, hb⟩
  have e1 : takeRR [] = ((⟨#[]⟩, ⟨#[]⟩, 0), 0, 61) := by unfold takeRR; rw [if_pos (Or.inl (show ([] : List Int).length = 0 from rfl))]
  rw [e1]
  clear S6
  have B7 := Aside0.mk (below_then B6.out B6.out.size hb)
  have X7 := Aside0.mk (blk_below X6.out hb)
  have Y7 := Aside0.mk (blk_below Y6.out hb)
  have Z7 := Aside0.mk (blk_below Z6.out hb)
  have R7 := Aside0.mk (Kd.C_below R6.out hb)
  clear B6 X6 Y6 Z6 R6
  clear hb
  dsimp only
  have B7a := Aside0.mk (below_alloc B7.out (.cells #[.string ⟨#[]⟩, .string ⟨#[]⟩, .int .i64 0] 45))
  have X7a := Aside0.mk (blk_alloc X7.out (.cells #[.string ⟨#[]⟩, .string ⟨#[]⟩, .int .i64 0] 45))
  have Y7a := Aside0.mk (blk_alloc Y7.out (.cells #[.string ⟨#[]⟩, .string ⟨#[]⟩, .int .i64 0] 45))
  have Z7a := Aside0.mk (blk_alloc Z7.out (.cells #[.string ⟨#[]⟩, .string ⟨#[]⟩, .int .i64 0] 45))
  have R7a := Aside0.mk (Kd.C_alloc R7.out (.cells #[.string ⟨#[]⟩, .string ⟨#[]⟩, .int .i64 0] 45))
  clear B7 X7 Y7 Z7 R7
  have z0 : (w7.alloc (.cells #[.string ⟨#[]⟩, .string ⟨#[]⟩, .int .i64 0] 45)).cell? ⟨w.heap.size + 1 + 1, 0, none⟩ = some (.int .i64 t3) := (blk_cell Z7a.out 0).trans rfl
  have z1 : (w7.alloc (.cells #[.string ⟨#[]⟩, .string ⟨#[]⟩, .int .i64 0] 45)).cell? ⟨w.heap.size + 1 + 1, 1, none⟩ = some (.int .i64 g3) := (blk_cell Z7a.out 1).trans rfl
  have z2 : (w7.alloc (.cells #[.string ⟨#[]⟩, .string ⟨#[]⟩, .int .i64 0] 45)).cell? ⟨w.heap.size + 1 + 1, 2, none⟩ = some (.slice A3 l3.length c3) := (blk_cell Z7a.out 2).trans rfl
  go_wp2_with fail
  generalize w7.alloc (.cells #[.string ⟨#[]⟩, .string ⟨#[]⟩, .int .i64 0] 45) = w7a at *
  clear z0 z1 z2
  refine (putManifest_any t3 g3 l3 A3 c3 w7a (Kd.C_below H38.out B7a.out) HWF.out).mono ?_
  rintro e w8 ⟨v8, rfl, ho, hb⟩
  rw [HMP.out] at ho ⊢
  obtain ⟨A8, c8, rfl⟩ := Kd.R_slice ho
  obtain ⟨_, hq, hr⟩ := Kd.R_reads' ho
  have B8 := Aside0.mk (below_then B7a.out B7a.out.size hb)
  have X8 := Aside0.mk (blk_below X7a.out hb)
  have Y8 := Aside0.mk (blk_below Y7a.out hb)
  have Z8 := Aside0.mk (blk_below Z7a.out hb)
  have R8 := Aside0.mk (Kd.C_below R7a.out hb)
  clear B7a X7a Y7a Z7a R7a
  clear hb
  have S8 := Aside0.mk (hr)
  have HCM := Aside0.mk hq
  clear ho hq hr
  dsimp only
  go_wp2_with fail
  refine (manifest_any A8 c8 [] w8 S8.out (Nat.zero_le _) (by decide) (by decide)).mono ?_
  rintro e w9 ⟨v9, rfl, ho, hb⟩
  have e2 : takeMR [] = ((0, 0, []), 0, 61) := by unfold takeMR; rw [if_pos (Or.inl (show ([] : List Int).length = 0 from rfl))]
  rw [e2] at ho ⊢
  obtain ⟨A9, c9, rfl⟩ := Kd.R_slice ho
  have hr := (Kd.R_reads' ho).2.2
  clear S8
  have B9 := Aside0.mk (below_then B8.out B8.out.size hb)
  have X9 := Aside0.mk (blk_below X8.out hb)
  have Y9 := Aside0.mk (blk_below Y8.out hb)
  have Z9 := Aside0.mk (blk_below Z8.out hb)
  have R9 := Aside0.mk (Kd.C_below R8.out hb)
  clear B8 X8 Y8 Z8 R8
  clear hb
  clear ho hr
  dsimp only
  have B10 := Aside0.mk (below_alloc B9.out (.cells #[.int .i64 0, .int .i64 0, .slice A9 0 c9] 38))
  have X10 := Aside0.mk (blk_alloc X9.out (.cells #[.int .i64 0, .int .i64 0, .slice A9 0 c9] 38))
  have Y10 := Aside0.mk (blk_alloc Y9.out (.cells #[.int .i64 0, .int .i64 0, .slice A9 0 c9] 38))
  have Z10 := Aside0.mk (blk_alloc Z9.out (.cells #[.int .i64 0, .int .i64 0, .slice A9 0 c9] 38))
  have R10 := Aside0.mk (Kd.C_alloc R9.out (.cells #[.int .i64 0, .int .i64 0, .slice A9 0 c9] 38))
  clear B9 X9 Y9 Z9 R9
  clear X10
  clear Y10
  clear Z10
  have hL := HLN.out
  have hL0 := HPO.out
  have hA := HCA.out
  obtain ⟨k, hk, hkl⟩ : ∃ k : Nat, Int.tmod (-(cut + 1)) (b.length : Int) = (k : Int) ∧ k < b.length := ⟨(Int.tmod (-(cut + 1)) (b.length : Int)).toNat, by have := Int.tmod_nonneg (b.length : Int) (show 0 ≤ (-(cut + 1)) by omega); omega, by have := Int.tmod_lt_of_pos (-(cut + 1)) (show 0 < (b.length : Int) by omega); have := Int.tmod_nonneg (b.length : Int) (show 0 ≤ (-(cut + 1)) by omega); omega⟩
  go_wp2_with fail
  generalize w9.alloc (.cells #[.int .i64 0, .int .i64 0, .slice A9 0 c9] 38) = w10 at *
  have hk' : (b.take k).length = k := by rw [List.length_take]; omega
  have hcall := commit_any A4 c4 (b.take k) w10 (Kd.C_take R10.out (Nat.le_of_lt hkl)) (by omega) (by omega) (fun x hx => HBY.out x (List.mem_of_mem_take hx))
  rw [hk'] at hcall
  refine hcall.mono ?_
  rintro e w11 ⟨v11, rfl, ho, hb⟩
  have hne := HCU.out k hkl
  generalize takeCR (b.take k) = rk at *
  obtain ⟨⟨tk, lk⟩, pk, ek⟩ := rk
  obtain ⟨A11, c11, rfl⟩ := Kd.R_slice ho
  dsimp only at hne ⊢
  generalize List.length lk = Lk at *
  clear ho hcall
  have B11 := Aside0.mk (below_then B10.out B10.out.size hb)
  have R11 := Aside0.mk (Kd.C_below R10.out hb)
  clear B10 R10
  clear hb
  have B12 := Aside0.mk (below_alloc B11.out (.cells #[.int .i64 tk, .slice A11 Lk c11] 24))
  have R12 := Aside0.mk (Kd.C_alloc R11.out (.cells #[.int .i64 tk, .slice A11 Lk c11] 24))
  clear B11 R11
  have HNE := Aside0.mk hne
  have HLB := Aside0.mk hL
  clear hne hk hk'
  have HSZ := Aside0.mk (show w11.heap.size + 1 = (w11.alloc (.cells #[.int .i64 tk, .slice A11 Lk c11] 24)).heap.size from (size_alloc _ _).symm)
  go_wp2_with (at_builtin; first | (refine Kd.R_append_rows (Kd.int .u8) (w0 := (w11.alloc (.cells #[.int .i64 tk, .slice A11 Lk c11] 24))) (w11.alloc (.cells #[.int .i64 tk, .slice A11 Lk c11] 24)).heap.size rfl (.tmp 129) (.tmp 130) 28 5 (.int .u8 0) 1 rfl Try.underlying28 info5 rfl (by decide) (by omega) _ ([] : List Int) b _ _ _ (fun _ => True) (fun _ => False) rfl rfl (R_new8 (w11.alloc (.cells #[.int .i64 tk, .slice A11 Lk c11] 24)) _ HSZ.out) (Kd.C_alloc R12.out _) (fun _ _ h => h) (fun _ h => h.elim) (fun _ _ => trivial) (below_alloc (Below.refl _ _) _) (by simp) (by have := HLB.out; simp; omega) ?_; intro va wa ho hb hg hat; have HOA := Aside0.mk ho; have HBA := Aside0.mk hb; clear ho hb hg hat) | go_must (refine app8 (w11.alloc (.cells #[.int .i64 tk, .slice A11 Lk c11] 24)).heap.size rfl (.tmp 131) (.tmp 132) rfl _ ([] ++ b) _ (fun _ => True) rfl rfl (fun _ _ => trivial) HOA.out HBA.out HBA.out.size (by have := HLB.out; simp; omega) ?_; intro vb wb ho hb hg; have HOB := Aside0.mk ho; have HBB := Aside0.mk hb; clear ho hb hg))
  clear HOA HBA
  have hb := HBB.out
  have ho := HOB.out
  clear HOB HBB
  obtain ⟨A12, c12, rfl⟩ := Kd.R_slice ho
  obtain ⟨_, hq, hr⟩ := Kd.R_reads' ho
  have B13 := Aside0.mk (below_then B12.out B12.out.size hb)
  have R13 := Aside0.mk (Kd.C_below R12.out hb)
  clear B12 R12
  clear hb
  have T13 := Aside0.mk (hr)
  have hll : ([] ++ b ++ [(0 : Int)]).length = (b ++ [0]).length := rfl
  have hcall := commit_any A12 c12 (b ++ [0]) wb T13.out (by simpa using hq) (by simp; omega) (Bytes.app HBY.out (by decide))
  clear ho hq hr
  clear T13
  refine hcall.mono ?_
  rintro e w14 ⟨v14, rfl, ho, hb⟩
  have hmo := HMO.out
  generalize takeCR (b ++ [0]) = rk at *
  obtain ⟨⟨tm, lm⟩, pm, em⟩ := rk
  dsimp only at hmo
  subst hmo
  obtain ⟨A14, c14, rfl⟩ := Kd.R_slice ho
  dsimp only
  generalize List.length lm = Lm at *
  clear ho hcall
  have B14 := Aside0.mk (below_then B13.out B13.out.size hb)
  have R14 := Aside0.mk (Kd.C_below R13.out hb)
  clear B13 R13
  clear hb
  have B15 := Aside0.mk (below_alloc B14.out (.cells #[.int .i64 tm, .slice A14 Lm c14] 24))
  have R15 := Aside0.mk (Kd.C_alloc R14.out (.cells #[.int .i64 tm, .slice A14 Lm c14] 24))
  clear B14 R14
  go_wp2_with fail
  generalize w14.alloc (.cells #[.int .i64 tm, .slice A14 Lm c14] 24) = w15 at *
  refine (row_any A4 c4 b w15 R15.out HCA.out (by omega) HBY.out).mono ?_
  rintro e w16 ⟨rfl, hb⟩
  have hro := HRO.out
  generalize takeRR b = rk at *
  obtain ⟨⟨kr, vr, tr⟩, pr, er⟩ := rk
  dsimp only at hro
  subst hro
  dsimp only
  have B16 := Aside0.mk (below_then B15.out B15.out.size hb)
  have R16 := Aside0.mk (Kd.C_below R15.out hb)
  clear B15 R15
  clear hb
  have B17 := Aside0.mk (below_alloc B16.out (.cells #[.string kr, .string vr, .int .i64 tr] 45))
  have R17 := Aside0.mk (Kd.C_alloc R16.out (.cells #[.string kr, .string vr, .int .i64 tr] 45))
  clear B16 R16
  have hne := HNE.out
  have hne' : (ek != 0) = true := bne_iff_ne.mpr hne
  go_wp2_with fail
  go_ret
  exact ⟨rfl, B17.out⟩

set_option maxRecDepth 100000 in
set_option maxHeartbeats 3200000 in
theorem recordBack_CNNp (t : Int) (l : List W27) (A : Option Addr) (c : Nat) (key val : ByteArray) (t2 : Int) (t3 g3 : Int) (l3 : List P43) (A3 : Option Addr) (c3 : Nat) (cut : Int) (w : World)
    (h24 : k27.C w A l.length l) (h38 : k43.C w A3 l3.length l3) (hwf : ∀ x ∈ l3, (Lit.int .i64 x.num).wf = true) (hC : rightC t l = true) (hR : rightR key val t2 = false) (hM : rightM t3 g3 l3 = false) (hcut : 0 ≤ cut) (hmax : cut ≤ 9223372036854775807) :
    Calls Try.prog 6 #[.agg #[.int .i64 t, .slice A l.length c], .agg #[.string key, .string val, .int .i64 t2], .agg #[.int .i64 t3, .int .i64 g3, .slice A3 l3.length c3], .int .i64 cut] w fun e w' => e = .returned (.bool true) ∧ Below w.heap.size w w' := by
  have hu24 := Try.underlying24
  have hu45 := Try.underlying45
  have H24 := Aside0.mk h24
  have H38 := Aside0.mk h38
  have HWF := Aside0.mk hwf
  have HBY := Aside0.mk (commitB_bytes t l)
  have HLN := Aside0.mk (commitB_len t l hC)
  have HPC := Aside0.mk (show putC t l = (commitB t l, 0) by unfold putC; rw [if_pos hC])
  have HBK := Aside0.mk (back_C t l hC)
  have HCU := Aside0.mk (cut_C t l hC (commitB_bytes t l))
  have HMO := Aside0.mk (more_C t l hC)
  have HRO := Aside0.mk (row_C t l)
  have HPO := Aside0.mk (show 0 < (commitB t l).length by unfold commitB; simp)
  have HSM := Aside0.mk (show l.length < 9223372036854775807 by have := (rightC_small t l hC).1; omega)
  have HRP := Aside0.mk (show putR key val t2 = ([], 60) by unfold putR; rw [hR]; rfl)
  have HMP := Aside0.mk (show putM t3 g3 l3 = ([], 60) by unfold putM; rw [hM]; rfl)
  clear h24 h38 hwf hC hR hM
  have hy := blk_new (w.alloc (.cells #[.int .i64 t, .slice A l.length c] 24)) (.cells #[.string key, .string val, .int .i64 t2] 45)
  rw [size_alloc] at hy
  have hz := blk_new ((w.alloc (.cells #[.int .i64 t, .slice A l.length c] 24)).alloc (.cells #[.string key, .string val, .int .i64 t2] 45)) (.cells #[.int .i64 t3, .int .i64 g3, .slice A3 l3.length c3] 38)
  rw [size_alloc, size_alloc] at hz
  have B1 := Aside0.mk (below_alloc (below_alloc (below_alloc (Below.refl w.heap.size w) (.cells #[.int .i64 t, .slice A l.length c] 24)) (.cells #[.string key, .string val, .int .i64 t2] 45)) (.cells #[.int .i64 t3, .int .i64 g3, .slice A3 l3.length c3] 38))
  have X1 := Aside0.mk (blk_alloc (blk_alloc (blk_new w (.cells #[.int .i64 t, .slice A l.length c] 24)) (.cells #[.string key, .string val, .int .i64 t2] 45)) (.cells #[.int .i64 t3, .int .i64 g3, .slice A3 l3.length c3] 38))
  have Y1 := Aside0.mk (blk_alloc hy (.cells #[.int .i64 t3, .int .i64 g3, .slice A3 l3.length c3] 38))
  have Z1 := Aside0.mk (hz)
  clear hy hz
  go_enter Try.func6, Try.ntmps6
  go_wp2_with fail
  generalize ((w.alloc (.cells #[.int .i64 t, .slice A l.length c] 24)).alloc (.cells #[.string key, .string val, .int .i64 t2] 45)).alloc (.cells #[.int .i64 t3, .int .i64 g3, .slice A3 l3.length c3] 38) = w1 at *
  refine (shown_any w1).mono ?_
  rintro e w2 ⟨rfl, hb⟩
  have B2 := Aside0.mk (below_then B1.out B1.out.size hb)
  have X2 := Aside0.mk (blk_below X1.out hb)
  have Y2 := Aside0.mk (blk_below Y1.out hb)
  have Z2 := Aside0.mk (blk_below Z1.out hb)
  clear B1 X1 Y1 Z1
  clear hb
  have x0 : (w2).cell? ⟨w.heap.size, 0, none⟩ = some (.int .i64 t) := (blk_cell X2.out 0).trans rfl
  have x1 : (w2).cell? ⟨w.heap.size, 1, none⟩ = some (.slice A l.length c) := (blk_cell X2.out 1).trans rfl
  go_wp2_with fail
  refine (putCommit_any t l A c w2 (Kd.C_below H24.out B2.out)).mono ?_
  rintro e w3 ⟨v3, rfl, ho, hb⟩
  clear x0 x1
  rw [HPC.out] at ho ⊢
  generalize commitB t l = b at *
  obtain ⟨A4, c4, rfl⟩ := Kd.R_slice ho
  obtain ⟨_, hq, hr⟩ := Kd.R_reads' ho
  have B3 := Aside0.mk (below_then B2.out B2.out.size hb)
  have X3 := Aside0.mk (blk_below X2.out hb)
  have Y3 := Aside0.mk (blk_below Y2.out hb)
  have Z3 := Aside0.mk (blk_below Z2.out hb)
  clear B2 X2 Y2 Z2
  clear hb
  have R3 := Aside0.mk (hr)
  have HCA := Aside0.mk hq
  clear ho hq hr
  dsimp only
  go_wp2_with fail
  refine (commit_any A4 c4 b w3 R3.out HCA.out (by have := HLN.out; omega) HBY.out).mono ?_
  rintro e w4 ⟨v4, rfl, ho, hb⟩
  rw [HBK.out] at ho ⊢
  obtain ⟨A5, c5, rfl⟩ := Kd.R_slice ho
  have hr := (Kd.R_reads' ho).2.2
  have B4 := Aside0.mk (below_then B3.out B3.out.size hb)
  have X4 := Aside0.mk (blk_below X3.out hb)
  have Y4 := Aside0.mk (blk_below Y3.out hb)
  have Z4 := Aside0.mk (blk_below Z3.out hb)
  have R4 := Aside0.mk (Kd.C_below R3.out hb)
  clear B3 X3 Y3 Z3 R3
  clear hb
  have V4 := Aside0.mk (hr)
  clear ho hr
  dsimp only
  have B4a := Aside0.mk (below_alloc B4.out (.cells #[.int .i64 t, .slice A5 l.length c5] 24))
  have X4a := Aside0.mk (blk_alloc X4.out (.cells #[.int .i64 t, .slice A5 l.length c5] 24))
  have Y4a := Aside0.mk (blk_alloc Y4.out (.cells #[.int .i64 t, .slice A5 l.length c5] 24))
  have Z4a := Aside0.mk (blk_alloc Z4.out (.cells #[.int .i64 t, .slice A5 l.length c5] 24))
  have R4a := Aside0.mk (Kd.C_alloc R4.out (.cells #[.int .i64 t, .slice A5 l.length c5] 24))
  have V4a := Aside0.mk (Kd.C_alloc V4.out (.cells #[.int .i64 t, .slice A5 l.length c5] 24))
  clear B4 X4 Y4 Z4 R4 V4
  have U4a := Aside0.mk (blk_new w4 (.cells #[.int .i64 t, .slice A5 l.length c5] 24))
  have x0 : (w4.alloc (.cells #[.int .i64 t, .slice A5 l.length c5] 24)).cell? ⟨w.heap.size, 0, none⟩ = some (.int .i64 t) := (blk_cell X4a.out 0).trans rfl
  have x1 : (w4.alloc (.cells #[.int .i64 t, .slice A5 l.length c5] 24)).cell? ⟨w.heap.size, 1, none⟩ = some (.slice A l.length c) := (blk_cell X4a.out 1).trans rfl
  have u0 : (w4.alloc (.cells #[.int .i64 t, .slice A5 l.length c5] 24)).cell? ⟨w4.heap.size, 0, none⟩ = some (.int .i64 t) := (blk_cell U4a.out 0).trans rfl
  have u1 : (w4.alloc (.cells #[.int .i64 t, .slice A5 l.length c5] 24)).cell? ⟨w4.heap.size, 1, none⟩ = some (.slice A5 l.length c5) := (blk_cell U4a.out 1).trans rfl
  go_wp2_with fail
  clear x0 x1 u0 u1
  generalize w4.alloc (.cells #[.int .i64 t, .slice A5 l.length c5] 24) = w4a at *
  refine (same11_true t l A A5 c c5 w4a (Kd.C_below H24.out B4a.out) V4a.out HSM.out).mono ?_
  rintro e w5 ⟨rfl, hb⟩
  clear U4a
  clear V4a
  have B5 := Aside0.mk (below_then B4a.out B4a.out.size hb)
  have X5 := Aside0.mk (blk_below X4a.out hb)
  have Y5 := Aside0.mk (blk_below Y4a.out hb)
  have Z5 := Aside0.mk (blk_below Z4a.out hb)
  have R5 := Aside0.mk (Kd.C_below R4a.out hb)
  clear B4a X4a Y4a Z4a R4a
  clear hb
  have y0 : (w5).cell? ⟨w.heap.size + 1, 0, none⟩ = some (.string key) := (blk_cell Y5.out 0).trans rfl
  have y1 : (w5).cell? ⟨w.heap.size + 1, 1, none⟩ = some (.string val) := (blk_cell Y5.out 1).trans rfl
  have y2 : (w5).cell? ⟨w.heap.size + 1, 2, none⟩ = some (.int .i64 t2) := (blk_cell Y5.out 2).trans rfl
  go_wp2_with fail
  refine (putRow_any key val t2 w5).mono ?_
  rintro e w6 ⟨v6, rfl, ho, hb⟩
  clear y0 y1 y2
  rw [HRP.out] at ho ⊢
  obtain ⟨A6, c6, rfl⟩ := Kd.R_slice ho
  obtain ⟨_, hq, hr⟩ := Kd.R_reads' ho
  have B6 := Aside0.mk (below_then B5.out B5.out.size hb)
  have X6 := Aside0.mk (blk_below X5.out hb)
  have Y6 := Aside0.mk (blk_below Y5.out hb)
  have Z6 := Aside0.mk (blk_below Z5.out hb)
  have R6 := Aside0.mk (Kd.C_below R5.out hb)
  clear B5 X5 Y5 Z5 R5
  clear hb
  have S6 := Aside0.mk (hr)
  have HCB := Aside0.mk hq
  clear ho hq hr
  dsimp only
  go_wp2_with fail
  refine (row_any A6 c6 [] w6 S6.out (Nat.zero_le _) (by decide) (by decide)).mono ?_
  rintro e w7 ⟨rfl, hb⟩
  have e1 : takeRR [] = ((⟨#[]⟩, ⟨#[]⟩, 0), 0, 61) := by unfold takeRR; rw [if_pos (Or.inl (show ([] : List Int).length = 0 from rfl))]
  rw [e1]
  clear S6
  have B7 := Aside0.mk (below_then B6.out B6.out.size hb)
  have X7 := Aside0.mk (blk_below X6.out hb)
  have Y7 := Aside0.mk (blk_below Y6.out hb)
  have Z7 := Aside0.mk (blk_below Z6.out hb)
  have R7 := Aside0.mk (Kd.C_below R6.out hb)
  clear B6 X6 Y6 Z6 R6
  clear hb
  dsimp only
  have B7a := Aside0.mk (below_alloc B7.out (.cells #[.string ⟨#[]⟩, .string ⟨#[]⟩, .int .i64 0] 45))
  have X7a := Aside0.mk (blk_alloc X7.out (.cells #[.string ⟨#[]⟩, .string ⟨#[]⟩, .int .i64 0] 45))
  have Y7a := Aside0.mk (blk_alloc Y7.out (.cells #[.string ⟨#[]⟩, .string ⟨#[]⟩, .int .i64 0] 45))
  have Z7a := Aside0.mk (blk_alloc Z7.out (.cells #[.string ⟨#[]⟩, .string ⟨#[]⟩, .int .i64 0] 45))
  have R7a := Aside0.mk (Kd.C_alloc R7.out (.cells #[.string ⟨#[]⟩, .string ⟨#[]⟩, .int .i64 0] 45))
  clear B7 X7 Y7 Z7 R7
  have z0 : (w7.alloc (.cells #[.string ⟨#[]⟩, .string ⟨#[]⟩, .int .i64 0] 45)).cell? ⟨w.heap.size + 1 + 1, 0, none⟩ = some (.int .i64 t3) := (blk_cell Z7a.out 0).trans rfl
  have z1 : (w7.alloc (.cells #[.string ⟨#[]⟩, .string ⟨#[]⟩, .int .i64 0] 45)).cell? ⟨w.heap.size + 1 + 1, 1, none⟩ = some (.int .i64 g3) := (blk_cell Z7a.out 1).trans rfl
  have z2 : (w7.alloc (.cells #[.string ⟨#[]⟩, .string ⟨#[]⟩, .int .i64 0] 45)).cell? ⟨w.heap.size + 1 + 1, 2, none⟩ = some (.slice A3 l3.length c3) := (blk_cell Z7a.out 2).trans rfl
  go_wp2_with fail
  generalize w7.alloc (.cells #[.string ⟨#[]⟩, .string ⟨#[]⟩, .int .i64 0] 45) = w7a at *
  clear z0 z1 z2
  refine (putManifest_any t3 g3 l3 A3 c3 w7a (Kd.C_below H38.out B7a.out) HWF.out).mono ?_
  rintro e w8 ⟨v8, rfl, ho, hb⟩
  rw [HMP.out] at ho ⊢
  obtain ⟨A8, c8, rfl⟩ := Kd.R_slice ho
  obtain ⟨_, hq, hr⟩ := Kd.R_reads' ho
  have B8 := Aside0.mk (below_then B7a.out B7a.out.size hb)
  have X8 := Aside0.mk (blk_below X7a.out hb)
  have Y8 := Aside0.mk (blk_below Y7a.out hb)
  have Z8 := Aside0.mk (blk_below Z7a.out hb)
  have R8 := Aside0.mk (Kd.C_below R7a.out hb)
  clear B7a X7a Y7a Z7a R7a
  clear hb
  have S8 := Aside0.mk (hr)
  have HCM := Aside0.mk hq
  clear ho hq hr
  dsimp only
  go_wp2_with fail
  refine (manifest_any A8 c8 [] w8 S8.out (Nat.zero_le _) (by decide) (by decide)).mono ?_
  rintro e w9 ⟨v9, rfl, ho, hb⟩
  have e2 : takeMR [] = ((0, 0, []), 0, 61) := by unfold takeMR; rw [if_pos (Or.inl (show ([] : List Int).length = 0 from rfl))]
  rw [e2] at ho ⊢
  obtain ⟨A9, c9, rfl⟩ := Kd.R_slice ho
  have hr := (Kd.R_reads' ho).2.2
  clear S8
  have B9 := Aside0.mk (below_then B8.out B8.out.size hb)
  have X9 := Aside0.mk (blk_below X8.out hb)
  have Y9 := Aside0.mk (blk_below Y8.out hb)
  have Z9 := Aside0.mk (blk_below Z8.out hb)
  have R9 := Aside0.mk (Kd.C_below R8.out hb)
  clear B8 X8 Y8 Z8 R8
  clear hb
  clear ho hr
  dsimp only
  have B10 := Aside0.mk (below_alloc B9.out (.cells #[.int .i64 0, .int .i64 0, .slice A9 0 c9] 38))
  have X10 := Aside0.mk (blk_alloc X9.out (.cells #[.int .i64 0, .int .i64 0, .slice A9 0 c9] 38))
  have Y10 := Aside0.mk (blk_alloc Y9.out (.cells #[.int .i64 0, .int .i64 0, .slice A9 0 c9] 38))
  have Z10 := Aside0.mk (blk_alloc Z9.out (.cells #[.int .i64 0, .int .i64 0, .slice A9 0 c9] 38))
  have R10 := Aside0.mk (Kd.C_alloc R9.out (.cells #[.int .i64 0, .int .i64 0, .slice A9 0 c9] 38))
  clear B9 X9 Y9 Z9 R9
  clear X10
  clear Y10
  clear Z10
  have hL := HLN.out
  have hL0 := HPO.out
  have hA := HCA.out
  obtain ⟨k, hk, hkl⟩ : ∃ k : Nat, Int.tmod cut (b.length : Int) = (k : Int) ∧ k < b.length := ⟨(Int.tmod cut (b.length : Int)).toNat, by have := Int.tmod_nonneg (b.length : Int) (show 0 ≤ cut by omega); omega, by have := Int.tmod_lt_of_pos cut (show 0 < (b.length : Int) by omega); have := Int.tmod_nonneg (b.length : Int) (show 0 ≤ cut by omega); omega⟩
  go_wp2_with fail
  generalize w9.alloc (.cells #[.int .i64 0, .int .i64 0, .slice A9 0 c9] 38) = w10 at *
  have hk' : (b.take k).length = k := by rw [List.length_take]; omega
  have hcall := commit_any A4 c4 (b.take k) w10 (Kd.C_take R10.out (Nat.le_of_lt hkl)) (by omega) (by omega) (fun x hx => HBY.out x (List.mem_of_mem_take hx))
  rw [hk'] at hcall
  refine hcall.mono ?_
  rintro e w11 ⟨v11, rfl, ho, hb⟩
  have hne := HCU.out k hkl
  generalize takeCR (b.take k) = rk at *
  obtain ⟨⟨tk, lk⟩, pk, ek⟩ := rk
  obtain ⟨A11, c11, rfl⟩ := Kd.R_slice ho
  dsimp only at hne ⊢
  generalize List.length lk = Lk at *
  clear ho hcall
  have B11 := Aside0.mk (below_then B10.out B10.out.size hb)
  have R11 := Aside0.mk (Kd.C_below R10.out hb)
  clear B10 R10
  clear hb
  have B12 := Aside0.mk (below_alloc B11.out (.cells #[.int .i64 tk, .slice A11 Lk c11] 24))
  have R12 := Aside0.mk (Kd.C_alloc R11.out (.cells #[.int .i64 tk, .slice A11 Lk c11] 24))
  clear B11 R11
  have HNE := Aside0.mk hne
  have HLB := Aside0.mk hL
  clear hne hk hk'
  have HSZ := Aside0.mk (show w11.heap.size + 1 = (w11.alloc (.cells #[.int .i64 tk, .slice A11 Lk c11] 24)).heap.size from (size_alloc _ _).symm)
  go_wp2_with (at_builtin; first | (refine Kd.R_append_rows (Kd.int .u8) (w0 := (w11.alloc (.cells #[.int .i64 tk, .slice A11 Lk c11] 24))) (w11.alloc (.cells #[.int .i64 tk, .slice A11 Lk c11] 24)).heap.size rfl (.tmp 129) (.tmp 130) 28 5 (.int .u8 0) 1 rfl Try.underlying28 info5 rfl (by decide) (by omega) _ ([] : List Int) b _ _ _ (fun _ => True) (fun _ => False) rfl rfl (R_new8 (w11.alloc (.cells #[.int .i64 tk, .slice A11 Lk c11] 24)) _ HSZ.out) (Kd.C_alloc R12.out _) (fun _ _ h => h) (fun _ h => h.elim) (fun _ _ => trivial) (below_alloc (Below.refl _ _) _) (by simp) (by have := HLB.out; simp; omega) ?_; intro va wa ho hb hg hat; have HOA := Aside0.mk ho; have HBA := Aside0.mk hb; clear ho hb hg hat) | go_must (refine app8 (w11.alloc (.cells #[.int .i64 tk, .slice A11 Lk c11] 24)).heap.size rfl (.tmp 131) (.tmp 132) rfl _ ([] ++ b) _ (fun _ => True) rfl rfl (fun _ _ => trivial) HOA.out HBA.out HBA.out.size (by have := HLB.out; simp; omega) ?_; intro vb wb ho hb hg; have HOB := Aside0.mk ho; have HBB := Aside0.mk hb; clear ho hb hg))
  clear HOA HBA
  have hb := HBB.out
  have ho := HOB.out
  clear HOB HBB
  obtain ⟨A12, c12, rfl⟩ := Kd.R_slice ho
  obtain ⟨_, hq, hr⟩ := Kd.R_reads' ho
  have B13 := Aside0.mk (below_then B12.out B12.out.size hb)
  have R13 := Aside0.mk (Kd.C_below R12.out hb)
  clear B12 R12
  clear hb
  have T13 := Aside0.mk (hr)
  have hll : ([] ++ b ++ [(0 : Int)]).length = (b ++ [0]).length := rfl
  have hcall := commit_any A12 c12 (b ++ [0]) wb T13.out (by simpa using hq) (by simp; omega) (Bytes.app HBY.out (by decide))
  clear ho hq hr
  clear T13
  refine hcall.mono ?_
  rintro e w14 ⟨v14, rfl, ho, hb⟩
  have hmo := HMO.out
  generalize takeCR (b ++ [0]) = rk at *
  obtain ⟨⟨tm, lm⟩, pm, em⟩ := rk
  dsimp only at hmo
  subst hmo
  obtain ⟨A14, c14, rfl⟩ := Kd.R_slice ho
  dsimp only
  generalize List.length lm = Lm at *
  clear ho hcall
  have B14 := Aside0.mk (below_then B13.out B13.out.size hb)
  have R14 := Aside0.mk (Kd.C_below R13.out hb)
  clear B13 R13
  clear hb
  have B15 := Aside0.mk (below_alloc B14.out (.cells #[.int .i64 tm, .slice A14 Lm c14] 24))
  have R15 := Aside0.mk (Kd.C_alloc R14.out (.cells #[.int .i64 tm, .slice A14 Lm c14] 24))
  clear B14 R14
  go_wp2_with fail
  generalize w14.alloc (.cells #[.int .i64 tm, .slice A14 Lm c14] 24) = w15 at *
  refine (row_any A4 c4 b w15 R15.out HCA.out (by omega) HBY.out).mono ?_
  rintro e w16 ⟨rfl, hb⟩
  have hro := HRO.out
  generalize takeRR b = rk at *
  obtain ⟨⟨kr, vr, tr⟩, pr, er⟩ := rk
  dsimp only at hro
  subst hro
  dsimp only
  have B16 := Aside0.mk (below_then B15.out B15.out.size hb)
  have R16 := Aside0.mk (Kd.C_below R15.out hb)
  clear B15 R15
  clear hb
  have B17 := Aside0.mk (below_alloc B16.out (.cells #[.string kr, .string vr, .int .i64 tr] 45))
  have R17 := Aside0.mk (Kd.C_alloc R16.out (.cells #[.string kr, .string vr, .int .i64 tr] 45))
  clear B16 R16
  have hne := HNE.out
  have hne' : (ek != 0) = true := bne_iff_ne.mpr hne
  go_wp2_with fail
  go_ret
  exact ⟨rfl, B17.out⟩

set_option maxRecDepth 100000 in
set_option maxHeartbeats 3200000 in
theorem recordBack_NRM (t : Int) (l : List W27) (A : Option Addr) (c : Nat) (key val : ByteArray) (t2 : Int) (t3 g3 : Int) (l3 : List P43) (A3 : Option Addr) (c3 : Nat) (cut : Int) (w : World)
    (h24 : k27.C w A l.length l) (h38 : k43.C w A3 l3.length l3) (hwf : ∀ x ∈ l3, (Lit.int .i64 x.num).wf = true) (hC : rightC t l = false) (hR : rightR key val t2 = true) (hM : rightM t3 g3 l3 = true) :
    Calls Try.prog 6 #[.agg #[.int .i64 t, .slice A l.length c], .agg #[.string key, .string val, .int .i64 t2], .agg #[.int .i64 t3, .int .i64 g3, .slice A3 l3.length c3], .int .i64 cut] w fun e w' => e = .returned (.bool true) ∧ Below w.heap.size w w' := by
  have hu24 := Try.underlying24
  have hu45 := Try.underlying45
  have H24 := Aside0.mk h24
  have H38 := Aside0.mk h38
  have HWF := Aside0.mk hwf
  have HPC := Aside0.mk (show putC t l = ([], 60) by unfold putC; rw [hC]; rfl)
  have HRP := Aside0.mk (show putR key val t2 = (rowB key val t2, 0) by unfold putR; rw [if_pos hR])
  have HRB := Aside0.mk (rowB_bytes key val t2)
  have HRL := Aside0.mk (rowB_len key val t2 hR)
  have HRK := Aside0.mk (back_R key val t2 hR)
  have HMP := Aside0.mk (show putM t3 g3 l3 = (manifestB t3 g3 l3, 0) by unfold putM; rw [if_pos hM])
  have HMB := Aside0.mk (manifestB_bytes t3 g3 l3)
  have HML := Aside0.mk (manifestB_len t3 g3 l3 hM)
  have HMK := Aside0.mk (back_M t3 g3 l3 hM)
  have HM3 := Aside0.mk (show l3.length < 9223372036854775807 by have := rightM_len t3 g3 l3 hM; omega)
  clear h24 h38 hwf hC hR hM
  have hy := blk_new (w.alloc (.cells #[.int .i64 t, .slice A l.length c] 24)) (.cells #[.string key, .string val, .int .i64 t2] 45)
  rw [size_alloc] at hy
  have hz := blk_new ((w.alloc (.cells #[.int .i64 t, .slice A l.length c] 24)).alloc (.cells #[.string key, .string val, .int .i64 t2] 45)) (.cells #[.int .i64 t3, .int .i64 g3, .slice A3 l3.length c3] 38)
  rw [size_alloc, size_alloc] at hz
  have B1 := Aside0.mk (below_alloc (below_alloc (below_alloc (Below.refl w.heap.size w) (.cells #[.int .i64 t, .slice A l.length c] 24)) (.cells #[.string key, .string val, .int .i64 t2] 45)) (.cells #[.int .i64 t3, .int .i64 g3, .slice A3 l3.length c3] 38))
  have X1 := Aside0.mk (blk_alloc (blk_alloc (blk_new w (.cells #[.int .i64 t, .slice A l.length c] 24)) (.cells #[.string key, .string val, .int .i64 t2] 45)) (.cells #[.int .i64 t3, .int .i64 g3, .slice A3 l3.length c3] 38))
  have Y1 := Aside0.mk (blk_alloc hy (.cells #[.int .i64 t3, .int .i64 g3, .slice A3 l3.length c3] 38))
  have Z1 := Aside0.mk (hz)
  clear hy hz
  go_enter Try.func6, Try.ntmps6
  go_wp2_with fail
  generalize ((w.alloc (.cells #[.int .i64 t, .slice A l.length c] 24)).alloc (.cells #[.string key, .string val, .int .i64 t2] 45)).alloc (.cells #[.int .i64 t3, .int .i64 g3, .slice A3 l3.length c3] 38) = w1 at *
  refine (shown_any w1).mono ?_
  rintro e w2 ⟨rfl, hb⟩
  have B2 := Aside0.mk (below_then B1.out B1.out.size hb)
  have X2 := Aside0.mk (blk_below X1.out hb)
  have Y2 := Aside0.mk (blk_below Y1.out hb)
  have Z2 := Aside0.mk (blk_below Z1.out hb)
  clear B1 X1 Y1 Z1
  clear hb
  have x0 : (w2).cell? ⟨w.heap.size, 0, none⟩ = some (.int .i64 t) := (blk_cell X2.out 0).trans rfl
  have x1 : (w2).cell? ⟨w.heap.size, 1, none⟩ = some (.slice A l.length c) := (blk_cell X2.out 1).trans rfl
  go_wp2_with fail
  refine (putCommit_any t l A c w2 (Kd.C_below H24.out B2.out)).mono ?_
  rintro e w3 ⟨v3, rfl, ho, hb⟩
  clear x0 x1
  rw [HPC.out] at ho ⊢
  obtain ⟨A4, c4, rfl⟩ := Kd.R_slice ho
  obtain ⟨_, hq, hr⟩ := Kd.R_reads' ho
  have B3 := Aside0.mk (below_then B2.out B2.out.size hb)
  have X3 := Aside0.mk (blk_below X2.out hb)
  have Y3 := Aside0.mk (blk_below Y2.out hb)
  have Z3 := Aside0.mk (blk_below Z2.out hb)
  clear B2 X2 Y2 Z2
  clear hb
  have R3 := Aside0.mk (hr)
  have HCA := Aside0.mk hq
  clear ho hq hr
  dsimp only
  go_wp2_with fail
  refine (commit_any A4 c4 [] w3 R3.out (Nat.zero_le _) (by decide) (by decide)).mono ?_
  rintro e w4 ⟨v4, rfl, ho, hb⟩
  have e0 : takeCR [] = ((0, []), 0, 61) := by unfold takeCR; rw [if_pos (Or.inl (show ([] : List Int).length = 0 from rfl))]
  rw [e0] at ho ⊢
  obtain ⟨A5, c5, rfl⟩ := Kd.R_slice ho
  have hr := (Kd.R_reads' ho).2.2
  have B4 := Aside0.mk (below_then B3.out B3.out.size hb)
  have X4 := Aside0.mk (blk_below X3.out hb)
  have Y4 := Aside0.mk (blk_below Y3.out hb)
  have Z4 := Aside0.mk (blk_below Z3.out hb)
  have R4 := Aside0.mk (Kd.C_below R3.out hb)
  clear B3 X3 Y3 Z3 R3
  clear hb
  clear ho hr
  dsimp only
  have B5 := Aside0.mk (below_alloc B4.out (.cells #[.int .i64 0, .slice A5 0 c5] 24))
  have X5 := Aside0.mk (blk_alloc X4.out (.cells #[.int .i64 0, .slice A5 0 c5] 24))
  have Y5 := Aside0.mk (blk_alloc Y4.out (.cells #[.int .i64 0, .slice A5 0 c5] 24))
  have Z5 := Aside0.mk (blk_alloc Z4.out (.cells #[.int .i64 0, .slice A5 0 c5] 24))
  have R5 := Aside0.mk (Kd.C_alloc R4.out (.cells #[.int .i64 0, .slice A5 0 c5] 24))
  clear B4 X4 Y4 Z4 R4
  have y0 : (w4.alloc (.cells #[.int .i64 0, .slice A5 0 c5] 24)).cell? ⟨w.heap.size + 1, 0, none⟩ = some (.string key) := (blk_cell Y5.out 0).trans rfl
  have y1 : (w4.alloc (.cells #[.int .i64 0, .slice A5 0 c5] 24)).cell? ⟨w.heap.size + 1, 1, none⟩ = some (.string val) := (blk_cell Y5.out 1).trans rfl
  have y2 : (w4.alloc (.cells #[.int .i64 0, .slice A5 0 c5] 24)).cell? ⟨w.heap.size + 1, 2, none⟩ = some (.int .i64 t2) := (blk_cell Y5.out 2).trans rfl
  go_wp2_with fail
  generalize w4.alloc (.cells #[.int .i64 0, .slice A5 0 c5] 24) = w5 at *
  refine (putRow_any key val t2 w5).mono ?_
  rintro e w6 ⟨v6, rfl, ho, hb⟩
  clear y0 y1 y2
  rw [HRP.out] at ho ⊢
  generalize rowB key val t2 = b6 at *
  obtain ⟨A6, c6, rfl⟩ := Kd.R_slice ho
  obtain ⟨_, hq, hr⟩ := Kd.R_reads' ho
  have B6 := Aside0.mk (below_then B5.out B5.out.size hb)
  have X6 := Aside0.mk (blk_below X5.out hb)
  have Y6 := Aside0.mk (blk_below Y5.out hb)
  have Z6 := Aside0.mk (blk_below Z5.out hb)
  have R6 := Aside0.mk (Kd.C_below R5.out hb)
  clear B5 X5 Y5 Z5 R5
  clear hb
  have S6 := Aside0.mk (hr)
  have HCB := Aside0.mk hq
  clear ho hq hr
  dsimp only
  go_wp2_with fail
  refine (row_any A6 c6 b6 w6 S6.out HCB.out (by have := HRL.out; omega) HRB.out).mono ?_
  rintro e w7 ⟨rfl, hb⟩
  rw [HRK.out]
  clear S6
  have B7 := Aside0.mk (below_then B6.out B6.out.size hb)
  have X7 := Aside0.mk (blk_below X6.out hb)
  have Y7 := Aside0.mk (blk_below Y6.out hb)
  have Z7 := Aside0.mk (blk_below Z6.out hb)
  have R7 := Aside0.mk (Kd.C_below R6.out hb)
  clear B6 X6 Y6 Z6 R6
  clear hb
  dsimp only
  have B7a := Aside0.mk (below_alloc B7.out (.cells #[.string key, .string val, .int .i64 t2] 45))
  have X7a := Aside0.mk (blk_alloc X7.out (.cells #[.string key, .string val, .int .i64 t2] 45))
  have Y7a := Aside0.mk (blk_alloc Y7.out (.cells #[.string key, .string val, .int .i64 t2] 45))
  have Z7a := Aside0.mk (blk_alloc Z7.out (.cells #[.string key, .string val, .int .i64 t2] 45))
  have R7a := Aside0.mk (Kd.C_alloc R7.out (.cells #[.string key, .string val, .int .i64 t2] 45))
  clear B7 X7 Y7 Z7 R7
  have U7a := Aside0.mk (blk_new w7 (.cells #[.string key, .string val, .int .i64 t2] 45))
  have u0 : (w7.alloc (.cells #[.string key, .string val, .int .i64 t2] 45)).cell? ⟨w7.heap.size, 0, none⟩ = some (.string key) := (blk_cell U7a.out 0).trans rfl
  have u1 : (w7.alloc (.cells #[.string key, .string val, .int .i64 t2] 45)).cell? ⟨w7.heap.size, 1, none⟩ = some (.string val) := (blk_cell U7a.out 1).trans rfl
  have u2 : (w7.alloc (.cells #[.string key, .string val, .int .i64 t2] 45)).cell? ⟨w7.heap.size, 2, none⟩ = some (.int .i64 t2) := (blk_cell U7a.out 2).trans rfl
  have y0 : (w7.alloc (.cells #[.string key, .string val, .int .i64 t2] 45)).cell? ⟨w.heap.size + 1, 0, none⟩ = some (.string key) := (blk_cell Y7a.out 0).trans rfl
  have y1 : (w7.alloc (.cells #[.string key, .string val, .int .i64 t2] 45)).cell? ⟨w.heap.size + 1, 1, none⟩ = some (.string val) := (blk_cell Y7a.out 1).trans rfl
  have y2 : (w7.alloc (.cells #[.string key, .string val, .int .i64 t2] 45)).cell? ⟨w.heap.size + 1, 2, none⟩ = some (.int .i64 t2) := (blk_cell Y7a.out 2).trans rfl
  have z0 : (w7.alloc (.cells #[.string key, .string val, .int .i64 t2] 45)).cell? ⟨w.heap.size + 1 + 1, 0, none⟩ = some (.int .i64 t3) := (blk_cell Z7a.out 0).trans rfl
  have z1 : (w7.alloc (.cells #[.string key, .string val, .int .i64 t2] 45)).cell? ⟨w.heap.size + 1 + 1, 1, none⟩ = some (.int .i64 g3) := (blk_cell Z7a.out 1).trans rfl
  have z2 : (w7.alloc (.cells #[.string key, .string val, .int .i64 t2] 45)).cell? ⟨w.heap.size + 1 + 1, 2, none⟩ = some (.slice A3 l3.length c3) := (blk_cell Z7a.out 2).trans rfl
  go_wp2_with fail
  generalize w7.alloc (.cells #[.string key, .string val, .int .i64 t2] 45) = w7a at *
  clear z0 z1 z2 u0 u1 u2 y0 y1 y2
  clear U7a
  refine (putManifest_any t3 g3 l3 A3 c3 w7a (Kd.C_below H38.out B7a.out) HWF.out).mono ?_
  rintro e w8 ⟨v8, rfl, ho, hb⟩
  rw [HMP.out] at ho ⊢
  generalize manifestB t3 g3 l3 = b8 at *
  obtain ⟨A8, c8, rfl⟩ := Kd.R_slice ho
  obtain ⟨_, hq, hr⟩ := Kd.R_reads' ho
  have B8 := Aside0.mk (below_then B7a.out B7a.out.size hb)
  have X8 := Aside0.mk (blk_below X7a.out hb)
  have Y8 := Aside0.mk (blk_below Y7a.out hb)
  have Z8 := Aside0.mk (blk_below Z7a.out hb)
  have R8 := Aside0.mk (Kd.C_below R7a.out hb)
  clear B7a X7a Y7a Z7a R7a
  clear hb
  have S8 := Aside0.mk (hr)
  have HCM := Aside0.mk hq
  clear ho hq hr
  dsimp only
  go_wp2_with fail
  refine (manifest_any A8 c8 b8 w8 S8.out HCM.out (by have := HML.out; omega) HMB.out).mono ?_
  rintro e w9 ⟨v9, rfl, ho, hb⟩
  rw [HMK.out] at ho ⊢
  obtain ⟨A9, c9, rfl⟩ := Kd.R_slice ho
  have hr := (Kd.R_reads' ho).2.2
  clear S8
  have B9 := Aside0.mk (below_then B8.out B8.out.size hb)
  have X9 := Aside0.mk (blk_below X8.out hb)
  have Y9 := Aside0.mk (blk_below Y8.out hb)
  have Z9 := Aside0.mk (blk_below Z8.out hb)
  have R9 := Aside0.mk (Kd.C_below R8.out hb)
  clear B8 X8 Y8 Z8 R8
  clear hb
  have V9 := Aside0.mk (hr)
  clear ho hr
  dsimp only
  have B9a := Aside0.mk (below_alloc B9.out (.cells #[.int .i64 t3, .int .i64 g3, .slice A9 l3.length c9] 38))
  have X9a := Aside0.mk (blk_alloc X9.out (.cells #[.int .i64 t3, .int .i64 g3, .slice A9 l3.length c9] 38))
  have Y9a := Aside0.mk (blk_alloc Y9.out (.cells #[.int .i64 t3, .int .i64 g3, .slice A9 l3.length c9] 38))
  have Z9a := Aside0.mk (blk_alloc Z9.out (.cells #[.int .i64 t3, .int .i64 g3, .slice A9 l3.length c9] 38))
  have R9a := Aside0.mk (Kd.C_alloc R9.out (.cells #[.int .i64 t3, .int .i64 g3, .slice A9 l3.length c9] 38))
  have V9a := Aside0.mk (Kd.C_alloc V9.out (.cells #[.int .i64 t3, .int .i64 g3, .slice A9 l3.length c9] 38))
  clear B9 X9 Y9 Z9 R9 V9
  have U9a := Aside0.mk (blk_new w9 (.cells #[.int .i64 t3, .int .i64 g3, .slice A9 l3.length c9] 38))
  have u0 : (w9.alloc (.cells #[.int .i64 t3, .int .i64 g3, .slice A9 l3.length c9] 38)).cell? ⟨w9.heap.size, 0, none⟩ = some (.int .i64 t3) := (blk_cell U9a.out 0).trans rfl
  have u1 : (w9.alloc (.cells #[.int .i64 t3, .int .i64 g3, .slice A9 l3.length c9] 38)).cell? ⟨w9.heap.size, 1, none⟩ = some (.int .i64 g3) := (blk_cell U9a.out 1).trans rfl
  have u2 : (w9.alloc (.cells #[.int .i64 t3, .int .i64 g3, .slice A9 l3.length c9] 38)).cell? ⟨w9.heap.size, 2, none⟩ = some (.slice A9 l3.length c9) := (blk_cell U9a.out 2).trans rfl
  have z0 : (w9.alloc (.cells #[.int .i64 t3, .int .i64 g3, .slice A9 l3.length c9] 38)).cell? ⟨w.heap.size + 1 + 1, 0, none⟩ = some (.int .i64 t3) := (blk_cell Z9a.out 0).trans rfl
  have z1 : (w9.alloc (.cells #[.int .i64 t3, .int .i64 g3, .slice A9 l3.length c9] 38)).cell? ⟨w.heap.size + 1 + 1, 1, none⟩ = some (.int .i64 g3) := (blk_cell Z9a.out 1).trans rfl
  have z2 : (w9.alloc (.cells #[.int .i64 t3, .int .i64 g3, .slice A9 l3.length c9] 38)).cell? ⟨w.heap.size + 1 + 1, 2, none⟩ = some (.slice A3 l3.length c3) := (blk_cell Z9a.out 2).trans rfl
  go_wp2_with fail
  clear z0 z1 z2 u0 u1 u2
  generalize w9.alloc (.cells #[.int .i64 t3, .int .i64 g3, .slice A9 l3.length c9] 38) = w9a at *
  refine (same16_true t3 g3 l3 A3 A9 c3 c9 w9a (Kd.C_below H38.out B9a.out) V9a.out HM3.out).mono ?_
  rintro e w10 ⟨rfl, hb⟩
  clear U9a
  clear V9a
  have B10 := Aside0.mk (below_then B9a.out B9a.out.size hb)
  have X10 := Aside0.mk (blk_below X9a.out hb)
  have Y10 := Aside0.mk (blk_below Y9a.out hb)
  have Z10 := Aside0.mk (blk_below Z9a.out hb)
  have R10 := Aside0.mk (Kd.C_below R9a.out hb)
  clear B9a X9a Y9a Z9a R9a
  clear hb
  clear X10
  clear Y10
  clear Z10
  go_wp2_with fail
  go_ret
  exact ⟨rfl, B10.out⟩

set_option maxRecDepth 100000 in
set_option maxHeartbeats 3200000 in
theorem recordBack_NRN (t : Int) (l : List W27) (A : Option Addr) (c : Nat) (key val : ByteArray) (t2 : Int) (t3 g3 : Int) (l3 : List P43) (A3 : Option Addr) (c3 : Nat) (cut : Int) (w : World)
    (h24 : k27.C w A l.length l) (h38 : k43.C w A3 l3.length l3) (hwf : ∀ x ∈ l3, (Lit.int .i64 x.num).wf = true) (hC : rightC t l = false) (hR : rightR key val t2 = true) (hM : rightM t3 g3 l3 = false) :
    Calls Try.prog 6 #[.agg #[.int .i64 t, .slice A l.length c], .agg #[.string key, .string val, .int .i64 t2], .agg #[.int .i64 t3, .int .i64 g3, .slice A3 l3.length c3], .int .i64 cut] w fun e w' => e = .returned (.bool true) ∧ Below w.heap.size w w' := by
  have hu24 := Try.underlying24
  have hu45 := Try.underlying45
  have H24 := Aside0.mk h24
  have H38 := Aside0.mk h38
  have HWF := Aside0.mk hwf
  have HPC := Aside0.mk (show putC t l = ([], 60) by unfold putC; rw [hC]; rfl)
  have HRP := Aside0.mk (show putR key val t2 = (rowB key val t2, 0) by unfold putR; rw [if_pos hR])
  have HRB := Aside0.mk (rowB_bytes key val t2)
  have HRL := Aside0.mk (rowB_len key val t2 hR)
  have HRK := Aside0.mk (back_R key val t2 hR)
  have HMP := Aside0.mk (show putM t3 g3 l3 = ([], 60) by unfold putM; rw [hM]; rfl)
  clear h24 h38 hwf hC hR hM
  have hy := blk_new (w.alloc (.cells #[.int .i64 t, .slice A l.length c] 24)) (.cells #[.string key, .string val, .int .i64 t2] 45)
  rw [size_alloc] at hy
  have hz := blk_new ((w.alloc (.cells #[.int .i64 t, .slice A l.length c] 24)).alloc (.cells #[.string key, .string val, .int .i64 t2] 45)) (.cells #[.int .i64 t3, .int .i64 g3, .slice A3 l3.length c3] 38)
  rw [size_alloc, size_alloc] at hz
  have B1 := Aside0.mk (below_alloc (below_alloc (below_alloc (Below.refl w.heap.size w) (.cells #[.int .i64 t, .slice A l.length c] 24)) (.cells #[.string key, .string val, .int .i64 t2] 45)) (.cells #[.int .i64 t3, .int .i64 g3, .slice A3 l3.length c3] 38))
  have X1 := Aside0.mk (blk_alloc (blk_alloc (blk_new w (.cells #[.int .i64 t, .slice A l.length c] 24)) (.cells #[.string key, .string val, .int .i64 t2] 45)) (.cells #[.int .i64 t3, .int .i64 g3, .slice A3 l3.length c3] 38))
  have Y1 := Aside0.mk (blk_alloc hy (.cells #[.int .i64 t3, .int .i64 g3, .slice A3 l3.length c3] 38))
  have Z1 := Aside0.mk (hz)
  clear hy hz
  go_enter Try.func6, Try.ntmps6
  go_wp2_with fail
  generalize ((w.alloc (.cells #[.int .i64 t, .slice A l.length c] 24)).alloc (.cells #[.string key, .string val, .int .i64 t2] 45)).alloc (.cells #[.int .i64 t3, .int .i64 g3, .slice A3 l3.length c3] 38) = w1 at *
  refine (shown_any w1).mono ?_
  rintro e w2 ⟨rfl, hb⟩
  have B2 := Aside0.mk (below_then B1.out B1.out.size hb)
  have X2 := Aside0.mk (blk_below X1.out hb)
  have Y2 := Aside0.mk (blk_below Y1.out hb)
  have Z2 := Aside0.mk (blk_below Z1.out hb)
  clear B1 X1 Y1 Z1
  clear hb
  have x0 : (w2).cell? ⟨w.heap.size, 0, none⟩ = some (.int .i64 t) := (blk_cell X2.out 0).trans rfl
  have x1 : (w2).cell? ⟨w.heap.size, 1, none⟩ = some (.slice A l.length c) := (blk_cell X2.out 1).trans rfl
  go_wp2_with fail
  refine (putCommit_any t l A c w2 (Kd.C_below H24.out B2.out)).mono ?_
  rintro e w3 ⟨v3, rfl, ho, hb⟩
  clear x0 x1
  rw [HPC.out] at ho ⊢
  obtain ⟨A4, c4, rfl⟩ := Kd.R_slice ho
  obtain ⟨_, hq, hr⟩ := Kd.R_reads' ho
  have B3 := Aside0.mk (below_then B2.out B2.out.size hb)
  have X3 := Aside0.mk (blk_below X2.out hb)
  have Y3 := Aside0.mk (blk_below Y2.out hb)
  have Z3 := Aside0.mk (blk_below Z2.out hb)
  clear B2 X2 Y2 Z2
  clear hb
  have R3 := Aside0.mk (hr)
  have HCA := Aside0.mk hq
  clear ho hq hr
  dsimp only
  go_wp2_with fail
  refine (commit_any A4 c4 [] w3 R3.out (Nat.zero_le _) (by decide) (by decide)).mono ?_
  rintro e w4 ⟨v4, rfl, ho, hb⟩
  have e0 : takeCR [] = ((0, []), 0, 61) := by unfold takeCR; rw [if_pos (Or.inl (show ([] : List Int).length = 0 from rfl))]
  rw [e0] at ho ⊢
  obtain ⟨A5, c5, rfl⟩ := Kd.R_slice ho
  have hr := (Kd.R_reads' ho).2.2
  have B4 := Aside0.mk (below_then B3.out B3.out.size hb)
  have X4 := Aside0.mk (blk_below X3.out hb)
  have Y4 := Aside0.mk (blk_below Y3.out hb)
  have Z4 := Aside0.mk (blk_below Z3.out hb)
  have R4 := Aside0.mk (Kd.C_below R3.out hb)
  clear B3 X3 Y3 Z3 R3
  clear hb
  clear ho hr
  dsimp only
  have B5 := Aside0.mk (below_alloc B4.out (.cells #[.int .i64 0, .slice A5 0 c5] 24))
  have X5 := Aside0.mk (blk_alloc X4.out (.cells #[.int .i64 0, .slice A5 0 c5] 24))
  have Y5 := Aside0.mk (blk_alloc Y4.out (.cells #[.int .i64 0, .slice A5 0 c5] 24))
  have Z5 := Aside0.mk (blk_alloc Z4.out (.cells #[.int .i64 0, .slice A5 0 c5] 24))
  have R5 := Aside0.mk (Kd.C_alloc R4.out (.cells #[.int .i64 0, .slice A5 0 c5] 24))
  clear B4 X4 Y4 Z4 R4
  have y0 : (w4.alloc (.cells #[.int .i64 0, .slice A5 0 c5] 24)).cell? ⟨w.heap.size + 1, 0, none⟩ = some (.string key) := (blk_cell Y5.out 0).trans rfl
  have y1 : (w4.alloc (.cells #[.int .i64 0, .slice A5 0 c5] 24)).cell? ⟨w.heap.size + 1, 1, none⟩ = some (.string val) := (blk_cell Y5.out 1).trans rfl
  have y2 : (w4.alloc (.cells #[.int .i64 0, .slice A5 0 c5] 24)).cell? ⟨w.heap.size + 1, 2, none⟩ = some (.int .i64 t2) := (blk_cell Y5.out 2).trans rfl
  go_wp2_with fail
  generalize w4.alloc (.cells #[.int .i64 0, .slice A5 0 c5] 24) = w5 at *
  refine (putRow_any key val t2 w5).mono ?_
  rintro e w6 ⟨v6, rfl, ho, hb⟩
  clear y0 y1 y2
  rw [HRP.out] at ho ⊢
  generalize rowB key val t2 = b6 at *
  obtain ⟨A6, c6, rfl⟩ := Kd.R_slice ho
  obtain ⟨_, hq, hr⟩ := Kd.R_reads' ho
  have B6 := Aside0.mk (below_then B5.out B5.out.size hb)
  have X6 := Aside0.mk (blk_below X5.out hb)
  have Y6 := Aside0.mk (blk_below Y5.out hb)
  have Z6 := Aside0.mk (blk_below Z5.out hb)
  have R6 := Aside0.mk (Kd.C_below R5.out hb)
  clear B5 X5 Y5 Z5 R5
  clear hb
  have S6 := Aside0.mk (hr)
  have HCB := Aside0.mk hq
  clear ho hq hr
  dsimp only
  go_wp2_with fail
  refine (row_any A6 c6 b6 w6 S6.out HCB.out (by have := HRL.out; omega) HRB.out).mono ?_
  rintro e w7 ⟨rfl, hb⟩
  rw [HRK.out]
  clear S6
  have B7 := Aside0.mk (below_then B6.out B6.out.size hb)
  have X7 := Aside0.mk (blk_below X6.out hb)
  have Y7 := Aside0.mk (blk_below Y6.out hb)
  have Z7 := Aside0.mk (blk_below Z6.out hb)
  have R7 := Aside0.mk (Kd.C_below R6.out hb)
  clear B6 X6 Y6 Z6 R6
  clear hb
  dsimp only
  have B7a := Aside0.mk (below_alloc B7.out (.cells #[.string key, .string val, .int .i64 t2] 45))
  have X7a := Aside0.mk (blk_alloc X7.out (.cells #[.string key, .string val, .int .i64 t2] 45))
  have Y7a := Aside0.mk (blk_alloc Y7.out (.cells #[.string key, .string val, .int .i64 t2] 45))
  have Z7a := Aside0.mk (blk_alloc Z7.out (.cells #[.string key, .string val, .int .i64 t2] 45))
  have R7a := Aside0.mk (Kd.C_alloc R7.out (.cells #[.string key, .string val, .int .i64 t2] 45))
  clear B7 X7 Y7 Z7 R7
  have U7a := Aside0.mk (blk_new w7 (.cells #[.string key, .string val, .int .i64 t2] 45))
  have u0 : (w7.alloc (.cells #[.string key, .string val, .int .i64 t2] 45)).cell? ⟨w7.heap.size, 0, none⟩ = some (.string key) := (blk_cell U7a.out 0).trans rfl
  have u1 : (w7.alloc (.cells #[.string key, .string val, .int .i64 t2] 45)).cell? ⟨w7.heap.size, 1, none⟩ = some (.string val) := (blk_cell U7a.out 1).trans rfl
  have u2 : (w7.alloc (.cells #[.string key, .string val, .int .i64 t2] 45)).cell? ⟨w7.heap.size, 2, none⟩ = some (.int .i64 t2) := (blk_cell U7a.out 2).trans rfl
  have y0 : (w7.alloc (.cells #[.string key, .string val, .int .i64 t2] 45)).cell? ⟨w.heap.size + 1, 0, none⟩ = some (.string key) := (blk_cell Y7a.out 0).trans rfl
  have y1 : (w7.alloc (.cells #[.string key, .string val, .int .i64 t2] 45)).cell? ⟨w.heap.size + 1, 1, none⟩ = some (.string val) := (blk_cell Y7a.out 1).trans rfl
  have y2 : (w7.alloc (.cells #[.string key, .string val, .int .i64 t2] 45)).cell? ⟨w.heap.size + 1, 2, none⟩ = some (.int .i64 t2) := (blk_cell Y7a.out 2).trans rfl
  have z0 : (w7.alloc (.cells #[.string key, .string val, .int .i64 t2] 45)).cell? ⟨w.heap.size + 1 + 1, 0, none⟩ = some (.int .i64 t3) := (blk_cell Z7a.out 0).trans rfl
  have z1 : (w7.alloc (.cells #[.string key, .string val, .int .i64 t2] 45)).cell? ⟨w.heap.size + 1 + 1, 1, none⟩ = some (.int .i64 g3) := (blk_cell Z7a.out 1).trans rfl
  have z2 : (w7.alloc (.cells #[.string key, .string val, .int .i64 t2] 45)).cell? ⟨w.heap.size + 1 + 1, 2, none⟩ = some (.slice A3 l3.length c3) := (blk_cell Z7a.out 2).trans rfl
  go_wp2_with fail
  generalize w7.alloc (.cells #[.string key, .string val, .int .i64 t2] 45) = w7a at *
  clear z0 z1 z2 u0 u1 u2 y0 y1 y2
  clear U7a
  refine (putManifest_any t3 g3 l3 A3 c3 w7a (Kd.C_below H38.out B7a.out) HWF.out).mono ?_
  rintro e w8 ⟨v8, rfl, ho, hb⟩
  rw [HMP.out] at ho ⊢
  obtain ⟨A8, c8, rfl⟩ := Kd.R_slice ho
  obtain ⟨_, hq, hr⟩ := Kd.R_reads' ho
  have B8 := Aside0.mk (below_then B7a.out B7a.out.size hb)
  have X8 := Aside0.mk (blk_below X7a.out hb)
  have Y8 := Aside0.mk (blk_below Y7a.out hb)
  have Z8 := Aside0.mk (blk_below Z7a.out hb)
  have R8 := Aside0.mk (Kd.C_below R7a.out hb)
  clear B7a X7a Y7a Z7a R7a
  clear hb
  have S8 := Aside0.mk (hr)
  have HCM := Aside0.mk hq
  clear ho hq hr
  dsimp only
  go_wp2_with fail
  refine (manifest_any A8 c8 [] w8 S8.out (Nat.zero_le _) (by decide) (by decide)).mono ?_
  rintro e w9 ⟨v9, rfl, ho, hb⟩
  have e2 : takeMR [] = ((0, 0, []), 0, 61) := by unfold takeMR; rw [if_pos (Or.inl (show ([] : List Int).length = 0 from rfl))]
  rw [e2] at ho ⊢
  obtain ⟨A9, c9, rfl⟩ := Kd.R_slice ho
  have hr := (Kd.R_reads' ho).2.2
  clear S8
  have B9 := Aside0.mk (below_then B8.out B8.out.size hb)
  have X9 := Aside0.mk (blk_below X8.out hb)
  have Y9 := Aside0.mk (blk_below Y8.out hb)
  have Z9 := Aside0.mk (blk_below Z8.out hb)
  have R9 := Aside0.mk (Kd.C_below R8.out hb)
  clear B8 X8 Y8 Z8 R8
  clear hb
  clear ho hr
  dsimp only
  have B10 := Aside0.mk (below_alloc B9.out (.cells #[.int .i64 0, .int .i64 0, .slice A9 0 c9] 38))
  have X10 := Aside0.mk (blk_alloc X9.out (.cells #[.int .i64 0, .int .i64 0, .slice A9 0 c9] 38))
  have Y10 := Aside0.mk (blk_alloc Y9.out (.cells #[.int .i64 0, .int .i64 0, .slice A9 0 c9] 38))
  have Z10 := Aside0.mk (blk_alloc Z9.out (.cells #[.int .i64 0, .int .i64 0, .slice A9 0 c9] 38))
  have R10 := Aside0.mk (Kd.C_alloc R9.out (.cells #[.int .i64 0, .int .i64 0, .slice A9 0 c9] 38))
  clear B9 X9 Y9 Z9 R9
  clear X10
  clear Y10
  clear Z10
  go_wp2_with fail
  go_ret
  exact ⟨rfl, B10.out⟩

set_option maxRecDepth 100000 in
set_option maxHeartbeats 3200000 in
theorem recordBack_NNM (t : Int) (l : List W27) (A : Option Addr) (c : Nat) (key val : ByteArray) (t2 : Int) (t3 g3 : Int) (l3 : List P43) (A3 : Option Addr) (c3 : Nat) (cut : Int) (w : World)
    (h24 : k27.C w A l.length l) (h38 : k43.C w A3 l3.length l3) (hwf : ∀ x ∈ l3, (Lit.int .i64 x.num).wf = true) (hC : rightC t l = false) (hR : rightR key val t2 = false) (hM : rightM t3 g3 l3 = true) :
    Calls Try.prog 6 #[.agg #[.int .i64 t, .slice A l.length c], .agg #[.string key, .string val, .int .i64 t2], .agg #[.int .i64 t3, .int .i64 g3, .slice A3 l3.length c3], .int .i64 cut] w fun e w' => e = .returned (.bool true) ∧ Below w.heap.size w w' := by
  have hu24 := Try.underlying24
  have hu45 := Try.underlying45
  have H24 := Aside0.mk h24
  have H38 := Aside0.mk h38
  have HWF := Aside0.mk hwf
  have HPC := Aside0.mk (show putC t l = ([], 60) by unfold putC; rw [hC]; rfl)
  have HRP := Aside0.mk (show putR key val t2 = ([], 60) by unfold putR; rw [hR]; rfl)
  have HMP := Aside0.mk (show putM t3 g3 l3 = (manifestB t3 g3 l3, 0) by unfold putM; rw [if_pos hM])
  have HMB := Aside0.mk (manifestB_bytes t3 g3 l3)
  have HML := Aside0.mk (manifestB_len t3 g3 l3 hM)
  have HMK := Aside0.mk (back_M t3 g3 l3 hM)
  have HM3 := Aside0.mk (show l3.length < 9223372036854775807 by have := rightM_len t3 g3 l3 hM; omega)
  clear h24 h38 hwf hC hR hM
  have hy := blk_new (w.alloc (.cells #[.int .i64 t, .slice A l.length c] 24)) (.cells #[.string key, .string val, .int .i64 t2] 45)
  rw [size_alloc] at hy
  have hz := blk_new ((w.alloc (.cells #[.int .i64 t, .slice A l.length c] 24)).alloc (.cells #[.string key, .string val, .int .i64 t2] 45)) (.cells #[.int .i64 t3, .int .i64 g3, .slice A3 l3.length c3] 38)
  rw [size_alloc, size_alloc] at hz
  have B1 := Aside0.mk (below_alloc (below_alloc (below_alloc (Below.refl w.heap.size w) (.cells #[.int .i64 t, .slice A l.length c] 24)) (.cells #[.string key, .string val, .int .i64 t2] 45)) (.cells #[.int .i64 t3, .int .i64 g3, .slice A3 l3.length c3] 38))
  have X1 := Aside0.mk (blk_alloc (blk_alloc (blk_new w (.cells #[.int .i64 t, .slice A l.length c] 24)) (.cells #[.string key, .string val, .int .i64 t2] 45)) (.cells #[.int .i64 t3, .int .i64 g3, .slice A3 l3.length c3] 38))
  have Y1 := Aside0.mk (blk_alloc hy (.cells #[.int .i64 t3, .int .i64 g3, .slice A3 l3.length c3] 38))
  have Z1 := Aside0.mk (hz)
  clear hy hz
  go_enter Try.func6, Try.ntmps6
  go_wp2_with fail
  generalize ((w.alloc (.cells #[.int .i64 t, .slice A l.length c] 24)).alloc (.cells #[.string key, .string val, .int .i64 t2] 45)).alloc (.cells #[.int .i64 t3, .int .i64 g3, .slice A3 l3.length c3] 38) = w1 at *
  refine (shown_any w1).mono ?_
  rintro e w2 ⟨rfl, hb⟩
  have B2 := Aside0.mk (below_then B1.out B1.out.size hb)
  have X2 := Aside0.mk (blk_below X1.out hb)
  have Y2 := Aside0.mk (blk_below Y1.out hb)
  have Z2 := Aside0.mk (blk_below Z1.out hb)
  clear B1 X1 Y1 Z1
  clear hb
  have x0 : (w2).cell? ⟨w.heap.size, 0, none⟩ = some (.int .i64 t) := (blk_cell X2.out 0).trans rfl
  have x1 : (w2).cell? ⟨w.heap.size, 1, none⟩ = some (.slice A l.length c) := (blk_cell X2.out 1).trans rfl
  go_wp2_with fail
  refine (putCommit_any t l A c w2 (Kd.C_below H24.out B2.out)).mono ?_
  rintro e w3 ⟨v3, rfl, ho, hb⟩
  clear x0 x1
  rw [HPC.out] at ho ⊢
  obtain ⟨A4, c4, rfl⟩ := Kd.R_slice ho
  obtain ⟨_, hq, hr⟩ := Kd.R_reads' ho
  have B3 := Aside0.mk (below_then B2.out B2.out.size hb)
  have X3 := Aside0.mk (blk_below X2.out hb)
  have Y3 := Aside0.mk (blk_below Y2.out hb)
  have Z3 := Aside0.mk (blk_below Z2.out hb)
  clear B2 X2 Y2 Z2
  clear hb
  have R3 := Aside0.mk (hr)
  have HCA := Aside0.mk hq
  clear ho hq hr
  dsimp only
  go_wp2_with fail
  refine (commit_any A4 c4 [] w3 R3.out (Nat.zero_le _) (by decide) (by decide)).mono ?_
  rintro e w4 ⟨v4, rfl, ho, hb⟩
  have e0 : takeCR [] = ((0, []), 0, 61) := by unfold takeCR; rw [if_pos (Or.inl (show ([] : List Int).length = 0 from rfl))]
  rw [e0] at ho ⊢
  obtain ⟨A5, c5, rfl⟩ := Kd.R_slice ho
  have hr := (Kd.R_reads' ho).2.2
  have B4 := Aside0.mk (below_then B3.out B3.out.size hb)
  have X4 := Aside0.mk (blk_below X3.out hb)
  have Y4 := Aside0.mk (blk_below Y3.out hb)
  have Z4 := Aside0.mk (blk_below Z3.out hb)
  have R4 := Aside0.mk (Kd.C_below R3.out hb)
  clear B3 X3 Y3 Z3 R3
  clear hb
  clear ho hr
  dsimp only
  have B5 := Aside0.mk (below_alloc B4.out (.cells #[.int .i64 0, .slice A5 0 c5] 24))
  have X5 := Aside0.mk (blk_alloc X4.out (.cells #[.int .i64 0, .slice A5 0 c5] 24))
  have Y5 := Aside0.mk (blk_alloc Y4.out (.cells #[.int .i64 0, .slice A5 0 c5] 24))
  have Z5 := Aside0.mk (blk_alloc Z4.out (.cells #[.int .i64 0, .slice A5 0 c5] 24))
  have R5 := Aside0.mk (Kd.C_alloc R4.out (.cells #[.int .i64 0, .slice A5 0 c5] 24))
  clear B4 X4 Y4 Z4 R4
  have y0 : (w4.alloc (.cells #[.int .i64 0, .slice A5 0 c5] 24)).cell? ⟨w.heap.size + 1, 0, none⟩ = some (.string key) := (blk_cell Y5.out 0).trans rfl
  have y1 : (w4.alloc (.cells #[.int .i64 0, .slice A5 0 c5] 24)).cell? ⟨w.heap.size + 1, 1, none⟩ = some (.string val) := (blk_cell Y5.out 1).trans rfl
  have y2 : (w4.alloc (.cells #[.int .i64 0, .slice A5 0 c5] 24)).cell? ⟨w.heap.size + 1, 2, none⟩ = some (.int .i64 t2) := (blk_cell Y5.out 2).trans rfl
  go_wp2_with fail
  generalize w4.alloc (.cells #[.int .i64 0, .slice A5 0 c5] 24) = w5 at *
  refine (putRow_any key val t2 w5).mono ?_
  rintro e w6 ⟨v6, rfl, ho, hb⟩
  clear y0 y1 y2
  rw [HRP.out] at ho ⊢
  obtain ⟨A6, c6, rfl⟩ := Kd.R_slice ho
  obtain ⟨_, hq, hr⟩ := Kd.R_reads' ho
  have B6 := Aside0.mk (below_then B5.out B5.out.size hb)
  have X6 := Aside0.mk (blk_below X5.out hb)
  have Y6 := Aside0.mk (blk_below Y5.out hb)
  have Z6 := Aside0.mk (blk_below Z5.out hb)
  have R6 := Aside0.mk (Kd.C_below R5.out hb)
  clear B5 X5 Y5 Z5 R5
  clear hb
  have S6 := Aside0.mk (hr)
  have HCB := Aside0.mk hq
  clear ho hq hr
  dsimp only
  go_wp2_with fail
  refine (row_any A6 c6 [] w6 S6.out (Nat.zero_le _) (by decide) (by decide)).mono ?_
  rintro e w7 ⟨rfl, hb⟩
  have e1 : takeRR [] = ((⟨#[]⟩, ⟨#[]⟩, 0), 0, 61) := by unfold takeRR; rw [if_pos (Or.inl (show ([] : List Int).length = 0 from rfl))]
  rw [e1]
  clear S6
  have B7 := Aside0.mk (below_then B6.out B6.out.size hb)
  have X7 := Aside0.mk (blk_below X6.out hb)
  have Y7 := Aside0.mk (blk_below Y6.out hb)
  have Z7 := Aside0.mk (blk_below Z6.out hb)
  have R7 := Aside0.mk (Kd.C_below R6.out hb)
  clear B6 X6 Y6 Z6 R6
  clear hb
  dsimp only
  have B7a := Aside0.mk (below_alloc B7.out (.cells #[.string ⟨#[]⟩, .string ⟨#[]⟩, .int .i64 0] 45))
  have X7a := Aside0.mk (blk_alloc X7.out (.cells #[.string ⟨#[]⟩, .string ⟨#[]⟩, .int .i64 0] 45))
  have Y7a := Aside0.mk (blk_alloc Y7.out (.cells #[.string ⟨#[]⟩, .string ⟨#[]⟩, .int .i64 0] 45))
  have Z7a := Aside0.mk (blk_alloc Z7.out (.cells #[.string ⟨#[]⟩, .string ⟨#[]⟩, .int .i64 0] 45))
  have R7a := Aside0.mk (Kd.C_alloc R7.out (.cells #[.string ⟨#[]⟩, .string ⟨#[]⟩, .int .i64 0] 45))
  clear B7 X7 Y7 Z7 R7
  have z0 : (w7.alloc (.cells #[.string ⟨#[]⟩, .string ⟨#[]⟩, .int .i64 0] 45)).cell? ⟨w.heap.size + 1 + 1, 0, none⟩ = some (.int .i64 t3) := (blk_cell Z7a.out 0).trans rfl
  have z1 : (w7.alloc (.cells #[.string ⟨#[]⟩, .string ⟨#[]⟩, .int .i64 0] 45)).cell? ⟨w.heap.size + 1 + 1, 1, none⟩ = some (.int .i64 g3) := (blk_cell Z7a.out 1).trans rfl
  have z2 : (w7.alloc (.cells #[.string ⟨#[]⟩, .string ⟨#[]⟩, .int .i64 0] 45)).cell? ⟨w.heap.size + 1 + 1, 2, none⟩ = some (.slice A3 l3.length c3) := (blk_cell Z7a.out 2).trans rfl
  go_wp2_with fail
  generalize w7.alloc (.cells #[.string ⟨#[]⟩, .string ⟨#[]⟩, .int .i64 0] 45) = w7a at *
  clear z0 z1 z2
  refine (putManifest_any t3 g3 l3 A3 c3 w7a (Kd.C_below H38.out B7a.out) HWF.out).mono ?_
  rintro e w8 ⟨v8, rfl, ho, hb⟩
  rw [HMP.out] at ho ⊢
  generalize manifestB t3 g3 l3 = b8 at *
  obtain ⟨A8, c8, rfl⟩ := Kd.R_slice ho
  obtain ⟨_, hq, hr⟩ := Kd.R_reads' ho
  have B8 := Aside0.mk (below_then B7a.out B7a.out.size hb)
  have X8 := Aside0.mk (blk_below X7a.out hb)
  have Y8 := Aside0.mk (blk_below Y7a.out hb)
  have Z8 := Aside0.mk (blk_below Z7a.out hb)
  have R8 := Aside0.mk (Kd.C_below R7a.out hb)
  clear B7a X7a Y7a Z7a R7a
  clear hb
  have S8 := Aside0.mk (hr)
  have HCM := Aside0.mk hq
  clear ho hq hr
  dsimp only
  go_wp2_with fail
  refine (manifest_any A8 c8 b8 w8 S8.out HCM.out (by have := HML.out; omega) HMB.out).mono ?_
  rintro e w9 ⟨v9, rfl, ho, hb⟩
  rw [HMK.out] at ho ⊢
  obtain ⟨A9, c9, rfl⟩ := Kd.R_slice ho
  have hr := (Kd.R_reads' ho).2.2
  clear S8
  have B9 := Aside0.mk (below_then B8.out B8.out.size hb)
  have X9 := Aside0.mk (blk_below X8.out hb)
  have Y9 := Aside0.mk (blk_below Y8.out hb)
  have Z9 := Aside0.mk (blk_below Z8.out hb)
  have R9 := Aside0.mk (Kd.C_below R8.out hb)
  clear B8 X8 Y8 Z8 R8
  clear hb
  have V9 := Aside0.mk (hr)
  clear ho hr
  dsimp only
  have B9a := Aside0.mk (below_alloc B9.out (.cells #[.int .i64 t3, .int .i64 g3, .slice A9 l3.length c9] 38))
  have X9a := Aside0.mk (blk_alloc X9.out (.cells #[.int .i64 t3, .int .i64 g3, .slice A9 l3.length c9] 38))
  have Y9a := Aside0.mk (blk_alloc Y9.out (.cells #[.int .i64 t3, .int .i64 g3, .slice A9 l3.length c9] 38))
  have Z9a := Aside0.mk (blk_alloc Z9.out (.cells #[.int .i64 t3, .int .i64 g3, .slice A9 l3.length c9] 38))
  have R9a := Aside0.mk (Kd.C_alloc R9.out (.cells #[.int .i64 t3, .int .i64 g3, .slice A9 l3.length c9] 38))
  have V9a := Aside0.mk (Kd.C_alloc V9.out (.cells #[.int .i64 t3, .int .i64 g3, .slice A9 l3.length c9] 38))
  clear B9 X9 Y9 Z9 R9 V9
  have U9a := Aside0.mk (blk_new w9 (.cells #[.int .i64 t3, .int .i64 g3, .slice A9 l3.length c9] 38))
  have u0 : (w9.alloc (.cells #[.int .i64 t3, .int .i64 g3, .slice A9 l3.length c9] 38)).cell? ⟨w9.heap.size, 0, none⟩ = some (.int .i64 t3) := (blk_cell U9a.out 0).trans rfl
  have u1 : (w9.alloc (.cells #[.int .i64 t3, .int .i64 g3, .slice A9 l3.length c9] 38)).cell? ⟨w9.heap.size, 1, none⟩ = some (.int .i64 g3) := (blk_cell U9a.out 1).trans rfl
  have u2 : (w9.alloc (.cells #[.int .i64 t3, .int .i64 g3, .slice A9 l3.length c9] 38)).cell? ⟨w9.heap.size, 2, none⟩ = some (.slice A9 l3.length c9) := (blk_cell U9a.out 2).trans rfl
  have z0 : (w9.alloc (.cells #[.int .i64 t3, .int .i64 g3, .slice A9 l3.length c9] 38)).cell? ⟨w.heap.size + 1 + 1, 0, none⟩ = some (.int .i64 t3) := (blk_cell Z9a.out 0).trans rfl
  have z1 : (w9.alloc (.cells #[.int .i64 t3, .int .i64 g3, .slice A9 l3.length c9] 38)).cell? ⟨w.heap.size + 1 + 1, 1, none⟩ = some (.int .i64 g3) := (blk_cell Z9a.out 1).trans rfl
  have z2 : (w9.alloc (.cells #[.int .i64 t3, .int .i64 g3, .slice A9 l3.length c9] 38)).cell? ⟨w.heap.size + 1 + 1, 2, none⟩ = some (.slice A3 l3.length c3) := (blk_cell Z9a.out 2).trans rfl
  go_wp2_with fail
  clear z0 z1 z2 u0 u1 u2
  generalize w9.alloc (.cells #[.int .i64 t3, .int .i64 g3, .slice A9 l3.length c9] 38) = w9a at *
  refine (same16_true t3 g3 l3 A3 A9 c3 c9 w9a (Kd.C_below H38.out B9a.out) V9a.out HM3.out).mono ?_
  rintro e w10 ⟨rfl, hb⟩
  clear U9a
  clear V9a
  have B10 := Aside0.mk (below_then B9a.out B9a.out.size hb)
  have X10 := Aside0.mk (blk_below X9a.out hb)
  have Y10 := Aside0.mk (blk_below Y9a.out hb)
  have Z10 := Aside0.mk (blk_below Z9a.out hb)
  have R10 := Aside0.mk (Kd.C_below R9a.out hb)
  clear B9a X9a Y9a Z9a R9a
  clear hb
  clear X10
  clear Y10
  clear Z10
  go_wp2_with fail
  go_ret
  exact ⟨rfl, B10.out⟩

set_option maxRecDepth 100000 in
set_option maxHeartbeats 3200000 in
theorem recordBack_NNN (t : Int) (l : List W27) (A : Option Addr) (c : Nat) (key val : ByteArray) (t2 : Int) (t3 g3 : Int) (l3 : List P43) (A3 : Option Addr) (c3 : Nat) (cut : Int) (w : World)
    (h24 : k27.C w A l.length l) (h38 : k43.C w A3 l3.length l3) (hwf : ∀ x ∈ l3, (Lit.int .i64 x.num).wf = true) (hC : rightC t l = false) (hR : rightR key val t2 = false) (hM : rightM t3 g3 l3 = false) :
    Calls Try.prog 6 #[.agg #[.int .i64 t, .slice A l.length c], .agg #[.string key, .string val, .int .i64 t2], .agg #[.int .i64 t3, .int .i64 g3, .slice A3 l3.length c3], .int .i64 cut] w fun e w' => e = .returned (.bool true) ∧ Below w.heap.size w w' := by
  have hu24 := Try.underlying24
  have hu45 := Try.underlying45
  have H24 := Aside0.mk h24
  have H38 := Aside0.mk h38
  have HWF := Aside0.mk hwf
  have HPC := Aside0.mk (show putC t l = ([], 60) by unfold putC; rw [hC]; rfl)
  have HRP := Aside0.mk (show putR key val t2 = ([], 60) by unfold putR; rw [hR]; rfl)
  have HMP := Aside0.mk (show putM t3 g3 l3 = ([], 60) by unfold putM; rw [hM]; rfl)
  clear h24 h38 hwf hC hR hM
  have hy := blk_new (w.alloc (.cells #[.int .i64 t, .slice A l.length c] 24)) (.cells #[.string key, .string val, .int .i64 t2] 45)
  rw [size_alloc] at hy
  have hz := blk_new ((w.alloc (.cells #[.int .i64 t, .slice A l.length c] 24)).alloc (.cells #[.string key, .string val, .int .i64 t2] 45)) (.cells #[.int .i64 t3, .int .i64 g3, .slice A3 l3.length c3] 38)
  rw [size_alloc, size_alloc] at hz
  have B1 := Aside0.mk (below_alloc (below_alloc (below_alloc (Below.refl w.heap.size w) (.cells #[.int .i64 t, .slice A l.length c] 24)) (.cells #[.string key, .string val, .int .i64 t2] 45)) (.cells #[.int .i64 t3, .int .i64 g3, .slice A3 l3.length c3] 38))
  have X1 := Aside0.mk (blk_alloc (blk_alloc (blk_new w (.cells #[.int .i64 t, .slice A l.length c] 24)) (.cells #[.string key, .string val, .int .i64 t2] 45)) (.cells #[.int .i64 t3, .int .i64 g3, .slice A3 l3.length c3] 38))
  have Y1 := Aside0.mk (blk_alloc hy (.cells #[.int .i64 t3, .int .i64 g3, .slice A3 l3.length c3] 38))
  have Z1 := Aside0.mk (hz)
  clear hy hz
  go_enter Try.func6, Try.ntmps6
  go_wp2_with fail
  generalize ((w.alloc (.cells #[.int .i64 t, .slice A l.length c] 24)).alloc (.cells #[.string key, .string val, .int .i64 t2] 45)).alloc (.cells #[.int .i64 t3, .int .i64 g3, .slice A3 l3.length c3] 38) = w1 at *
  refine (shown_any w1).mono ?_
  rintro e w2 ⟨rfl, hb⟩
  have B2 := Aside0.mk (below_then B1.out B1.out.size hb)
  have X2 := Aside0.mk (blk_below X1.out hb)
  have Y2 := Aside0.mk (blk_below Y1.out hb)
  have Z2 := Aside0.mk (blk_below Z1.out hb)
  clear B1 X1 Y1 Z1
  clear hb
  have x0 : (w2).cell? ⟨w.heap.size, 0, none⟩ = some (.int .i64 t) := (blk_cell X2.out 0).trans rfl
  have x1 : (w2).cell? ⟨w.heap.size, 1, none⟩ = some (.slice A l.length c) := (blk_cell X2.out 1).trans rfl
  go_wp2_with fail
  refine (putCommit_any t l A c w2 (Kd.C_below H24.out B2.out)).mono ?_
  rintro e w3 ⟨v3, rfl, ho, hb⟩
  clear x0 x1
  rw [HPC.out] at ho ⊢
  obtain ⟨A4, c4, rfl⟩ := Kd.R_slice ho
  obtain ⟨_, hq, hr⟩ := Kd.R_reads' ho
  have B3 := Aside0.mk (below_then B2.out B2.out.size hb)
  have X3 := Aside0.mk (blk_below X2.out hb)
  have Y3 := Aside0.mk (blk_below Y2.out hb)
  have Z3 := Aside0.mk (blk_below Z2.out hb)
  clear B2 X2 Y2 Z2
  clear hb
  have R3 := Aside0.mk (hr)
  have HCA := Aside0.mk hq
  clear ho hq hr
  dsimp only
  go_wp2_with fail
  refine (commit_any A4 c4 [] w3 R3.out (Nat.zero_le _) (by decide) (by decide)).mono ?_
  rintro e w4 ⟨v4, rfl, ho, hb⟩
  have e0 : takeCR [] = ((0, []), 0, 61) := by unfold takeCR; rw [if_pos (Or.inl (show ([] : List Int).length = 0 from rfl))]
  rw [e0] at ho ⊢
  obtain ⟨A5, c5, rfl⟩ := Kd.R_slice ho
  have hr := (Kd.R_reads' ho).2.2
  have B4 := Aside0.mk (below_then B3.out B3.out.size hb)
  have X4 := Aside0.mk (blk_below X3.out hb)
  have Y4 := Aside0.mk (blk_below Y3.out hb)
  have Z4 := Aside0.mk (blk_below Z3.out hb)
  have R4 := Aside0.mk (Kd.C_below R3.out hb)
  clear B3 X3 Y3 Z3 R3
  clear hb
  clear ho hr
  dsimp only
  have B5 := Aside0.mk (below_alloc B4.out (.cells #[.int .i64 0, .slice A5 0 c5] 24))
  have X5 := Aside0.mk (blk_alloc X4.out (.cells #[.int .i64 0, .slice A5 0 c5] 24))
  have Y5 := Aside0.mk (blk_alloc Y4.out (.cells #[.int .i64 0, .slice A5 0 c5] 24))
  have Z5 := Aside0.mk (blk_alloc Z4.out (.cells #[.int .i64 0, .slice A5 0 c5] 24))
  have R5 := Aside0.mk (Kd.C_alloc R4.out (.cells #[.int .i64 0, .slice A5 0 c5] 24))
  clear B4 X4 Y4 Z4 R4
  have y0 : (w4.alloc (.cells #[.int .i64 0, .slice A5 0 c5] 24)).cell? ⟨w.heap.size + 1, 0, none⟩ = some (.string key) := (blk_cell Y5.out 0).trans rfl
  have y1 : (w4.alloc (.cells #[.int .i64 0, .slice A5 0 c5] 24)).cell? ⟨w.heap.size + 1, 1, none⟩ = some (.string val) := (blk_cell Y5.out 1).trans rfl
  have y2 : (w4.alloc (.cells #[.int .i64 0, .slice A5 0 c5] 24)).cell? ⟨w.heap.size + 1, 2, none⟩ = some (.int .i64 t2) := (blk_cell Y5.out 2).trans rfl
  go_wp2_with fail
  generalize w4.alloc (.cells #[.int .i64 0, .slice A5 0 c5] 24) = w5 at *
  refine (putRow_any key val t2 w5).mono ?_
  rintro e w6 ⟨v6, rfl, ho, hb⟩
  clear y0 y1 y2
  rw [HRP.out] at ho ⊢
  obtain ⟨A6, c6, rfl⟩ := Kd.R_slice ho
  obtain ⟨_, hq, hr⟩ := Kd.R_reads' ho
  have B6 := Aside0.mk (below_then B5.out B5.out.size hb)
  have X6 := Aside0.mk (blk_below X5.out hb)
  have Y6 := Aside0.mk (blk_below Y5.out hb)
  have Z6 := Aside0.mk (blk_below Z5.out hb)
  have R6 := Aside0.mk (Kd.C_below R5.out hb)
  clear B5 X5 Y5 Z5 R5
  clear hb
  have S6 := Aside0.mk (hr)
  have HCB := Aside0.mk hq
  clear ho hq hr
  dsimp only
  go_wp2_with fail
  refine (row_any A6 c6 [] w6 S6.out (Nat.zero_le _) (by decide) (by decide)).mono ?_
  rintro e w7 ⟨rfl, hb⟩
  have e1 : takeRR [] = ((⟨#[]⟩, ⟨#[]⟩, 0), 0, 61) := by unfold takeRR; rw [if_pos (Or.inl (show ([] : List Int).length = 0 from rfl))]
  rw [e1]
  clear S6
  have B7 := Aside0.mk (below_then B6.out B6.out.size hb)
  have X7 := Aside0.mk (blk_below X6.out hb)
  have Y7 := Aside0.mk (blk_below Y6.out hb)
  have Z7 := Aside0.mk (blk_below Z6.out hb)
  have R7 := Aside0.mk (Kd.C_below R6.out hb)
  clear B6 X6 Y6 Z6 R6
  clear hb
  dsimp only
  have B7a := Aside0.mk (below_alloc B7.out (.cells #[.string ⟨#[]⟩, .string ⟨#[]⟩, .int .i64 0] 45))
  have X7a := Aside0.mk (blk_alloc X7.out (.cells #[.string ⟨#[]⟩, .string ⟨#[]⟩, .int .i64 0] 45))
  have Y7a := Aside0.mk (blk_alloc Y7.out (.cells #[.string ⟨#[]⟩, .string ⟨#[]⟩, .int .i64 0] 45))
  have Z7a := Aside0.mk (blk_alloc Z7.out (.cells #[.string ⟨#[]⟩, .string ⟨#[]⟩, .int .i64 0] 45))
  have R7a := Aside0.mk (Kd.C_alloc R7.out (.cells #[.string ⟨#[]⟩, .string ⟨#[]⟩, .int .i64 0] 45))
  clear B7 X7 Y7 Z7 R7
  have z0 : (w7.alloc (.cells #[.string ⟨#[]⟩, .string ⟨#[]⟩, .int .i64 0] 45)).cell? ⟨w.heap.size + 1 + 1, 0, none⟩ = some (.int .i64 t3) := (blk_cell Z7a.out 0).trans rfl
  have z1 : (w7.alloc (.cells #[.string ⟨#[]⟩, .string ⟨#[]⟩, .int .i64 0] 45)).cell? ⟨w.heap.size + 1 + 1, 1, none⟩ = some (.int .i64 g3) := (blk_cell Z7a.out 1).trans rfl
  have z2 : (w7.alloc (.cells #[.string ⟨#[]⟩, .string ⟨#[]⟩, .int .i64 0] 45)).cell? ⟨w.heap.size + 1 + 1, 2, none⟩ = some (.slice A3 l3.length c3) := (blk_cell Z7a.out 2).trans rfl
  go_wp2_with fail
  generalize w7.alloc (.cells #[.string ⟨#[]⟩, .string ⟨#[]⟩, .int .i64 0] 45) = w7a at *
  clear z0 z1 z2
  refine (putManifest_any t3 g3 l3 A3 c3 w7a (Kd.C_below H38.out B7a.out) HWF.out).mono ?_
  rintro e w8 ⟨v8, rfl, ho, hb⟩
  rw [HMP.out] at ho ⊢
  obtain ⟨A8, c8, rfl⟩ := Kd.R_slice ho
  obtain ⟨_, hq, hr⟩ := Kd.R_reads' ho
  have B8 := Aside0.mk (below_then B7a.out B7a.out.size hb)
  have X8 := Aside0.mk (blk_below X7a.out hb)
  have Y8 := Aside0.mk (blk_below Y7a.out hb)
  have Z8 := Aside0.mk (blk_below Z7a.out hb)
  have R8 := Aside0.mk (Kd.C_below R7a.out hb)
  clear B7a X7a Y7a Z7a R7a
  clear hb
  have S8 := Aside0.mk (hr)
  have HCM := Aside0.mk hq
  clear ho hq hr
  dsimp only
  go_wp2_with fail
  refine (manifest_any A8 c8 [] w8 S8.out (Nat.zero_le _) (by decide) (by decide)).mono ?_
  rintro e w9 ⟨v9, rfl, ho, hb⟩
  have e2 : takeMR [] = ((0, 0, []), 0, 61) := by unfold takeMR; rw [if_pos (Or.inl (show ([] : List Int).length = 0 from rfl))]
  rw [e2] at ho ⊢
  obtain ⟨A9, c9, rfl⟩ := Kd.R_slice ho
  have hr := (Kd.R_reads' ho).2.2
  clear S8
  have B9 := Aside0.mk (below_then B8.out B8.out.size hb)
  have X9 := Aside0.mk (blk_below X8.out hb)
  have Y9 := Aside0.mk (blk_below Y8.out hb)
  have Z9 := Aside0.mk (blk_below Z8.out hb)
  have R9 := Aside0.mk (Kd.C_below R8.out hb)
  clear B8 X8 Y8 Z8 R8
  clear hb
  clear ho hr
  dsimp only
  have B10 := Aside0.mk (below_alloc B9.out (.cells #[.int .i64 0, .int .i64 0, .slice A9 0 c9] 38))
  have X10 := Aside0.mk (blk_alloc X9.out (.cells #[.int .i64 0, .int .i64 0, .slice A9 0 c9] 38))
  have Y10 := Aside0.mk (blk_alloc Y9.out (.cells #[.int .i64 0, .int .i64 0, .slice A9 0 c9] 38))
  have Z10 := Aside0.mk (blk_alloc Z9.out (.cells #[.int .i64 0, .int .i64 0, .slice A9 0 c9] 38))
  have R10 := Aside0.mk (Kd.C_alloc R9.out (.cells #[.int .i64 0, .int .i64 0, .slice A9 0 c9] 38))
  clear B9 X9 Y9 Z9 R9
  clear X10
  clear Y10
  clear Z10
  go_wp2_with fail
  go_ret
  exact ⟨rfl, B10.out⟩

theorem recordBack_any (t : Int) (l : List W27) (A : Option Addr) (c : Nat) (key val : ByteArray) (t2 : Int) (t3 g3 : Int) (l3 : List P43) (A3 : Option Addr) (c3 : Nat) (cut : Int) (w : World)
    (h24 : k27.C w A l.length l) (h38 : k43.C w A3 l3.length l3) (hwf : ∀ x ∈ l3, (Lit.int .i64 x.num).wf = true) (hmin : -9223372036854775808 ≤ cut) (hmax : cut ≤ 9223372036854775807) :
    Calls Try.prog 6 #[.agg #[.int .i64 t, .slice A l.length c], .agg #[.string key, .string val, .int .i64 t2], .agg #[.int .i64 t3, .int .i64 g3, .slice A3 l3.length c3], .int .i64 cut] w fun e w' => e = .returned (.bool true) ∧ Below w.heap.size w w' := by
  cases hC : rightC t l with
  | true =>
    by_cases hcut : cut < 0
    · cases hR : rightR key val t2 with
      | true =>
        cases hM : rightM t3 g3 l3 with
        | true => exact recordBack_CRMn t l A c key val t2 t3 g3 l3 A3 c3 cut w h24 h38 hwf hC hR hM hcut hmin
        | false => exact recordBack_CRNn t l A c key val t2 t3 g3 l3 A3 c3 cut w h24 h38 hwf hC hR hM hcut hmin
      | false =>
        cases hM : rightM t3 g3 l3 with
        | true => exact recordBack_CNMn t l A c key val t2 t3 g3 l3 A3 c3 cut w h24 h38 hwf hC hR hM hcut hmin
        | false => exact recordBack_CNNn t l A c key val t2 t3 g3 l3 A3 c3 cut w h24 h38 hwf hC hR hM hcut hmin
    · cases hR : rightR key val t2 with
      | true =>
        cases hM : rightM t3 g3 l3 with
        | true => exact recordBack_CRMp t l A c key val t2 t3 g3 l3 A3 c3 cut w h24 h38 hwf hC hR hM (by omega) hmax
        | false => exact recordBack_CRNp t l A c key val t2 t3 g3 l3 A3 c3 cut w h24 h38 hwf hC hR hM (by omega) hmax
      | false =>
        cases hM : rightM t3 g3 l3 with
        | true => exact recordBack_CNMp t l A c key val t2 t3 g3 l3 A3 c3 cut w h24 h38 hwf hC hR hM (by omega) hmax
        | false => exact recordBack_CNNp t l A c key val t2 t3 g3 l3 A3 c3 cut w h24 h38 hwf hC hR hM (by omega) hmax
  | false =>
    cases hR : rightR key val t2 with
    | true =>
      cases hM : rightM t3 g3 l3 with
      | true => exact recordBack_NRM t l A c key val t2 t3 g3 l3 A3 c3 cut w h24 h38 hwf hC hR hM
      | false => exact recordBack_NRN t l A c key val t2 t3 g3 l3 A3 c3 cut w h24 h38 hwf hC hR hM
    | false =>
      cases hM : rightM t3 g3 l3 with
      | true => exact recordBack_NNM t l A c key val t2 t3 g3 l3 A3 c3 cut w h24 h38 hwf hC hR hM
      | false => exact recordBack_NNN t l A c key val t2 t3 g3 l3 A3 c3 cut w h24 h38 hwf hC hR hM

end Go.Proofs.Ytmemkmnnededgaa.H
