/- Contracts of the program's package record: the readers of a manifest, a row, what is gone. -/
import Derived.Test.YtmemkmnnededgaaHS
namespace Go.Proofs.Ytmemkmnnededgaa.H
open Go.RowKit Go.Proofs.YtmemkmnnededgaaW.PrintWords Go.Proofs.YtmemkmnnededgaaW.PrintLast Go.Proofs.YtmemkmnnededgaaW.PrintMore
attribute [local go_sem] max2_int min2_int max_two min_two max_three min_three max_four min_four
set_option linter.unusedVariables false
set_option linter.unusedSimpArgs false

def rdM (b : List Int) (s : St) : (Int × Int × List P43) × St :=
  (((rdNum b 1099511627775 s).1, (rdNum b 2147483647 (rdNum b 1099511627775 s).2).1, (rdPs b (rdNum b 2147483647 (rdNum b 1099511627775 s).2).2).1), (rdPs b (rdNum b 2147483647 (rdNum b 1099511627775 s).2).2).2)
def rdR (b : List Int) (s : St) : (ByteArray × ByteArray × Int) × St :=
  (((rdText b 16 s).1, (rdText b 64 (rdText b 16 s).2).1, (rdNum b 1099511627775 (rdText b 64 (rdText b 16 s).2).2).1), (rdNum b 1099511627775 (rdText b 64 (rdText b 16 s).2).2).2)
def rdG (b : List Int) (s : St) : (ByteArray × Int) × St :=
  (((rdText b 16 s).1, (rdNum b 1099511627775 (rdText b 16 s).2).1), (rdNum b 1099511627775 (rdText b 16 s).2).2)

set_option maxRecDepth 100000 in
set_option maxHeartbeats 1600000 in
theorem c46_any (w0 : World) (g : Nat) (b : List Int) (s : St) (w : World) (hr : RdAt w0 w g b s) :
    Calls Try.prog 46 #[.pointer (some ⟨g, 0, none⟩)] w fun e w' => ∃ v : Value, e = .returned (.agg #[.int .i64 (rdM b s).1.1, .int .i64 (rdM b s).1.2.1, v]) ∧ k43.R 43 w' w.heap.size (fun _ => True) v (rdM b s).1.2.2 ∧ RdAt w0 w' g b (rdM b s).2 ∧ FrT TR w0.heap.size w w' := by
  have hz := hr.old.size
  have HR0 := Aside0.mk ((hr.alloc (.cells #[.pointer (some ⟨g, 0, none⟩)] 68)).alloc (.cells #[.int .i64 0, .int .i64 0, .slice none 0 0] 38))
  have HC0 := Aside0.mk (blk_alloc (blk_new w (.cells #[.pointer (some ⟨g, 0, none⟩)] 68)) (.cells #[.int .i64 0, .int .i64 0, .slice none 0 0] 38))
  have hX0 := blk_new (w.alloc (.cells #[.pointer (some ⟨g, 0, none⟩)] 68)) (.cells #[.int .i64 0, .int .i64 0, .slice none 0 0] 38)
  rw [size_alloc] at hX0
  have HX0 := Aside0.mk hX0
  have HF0 := Aside0.mk (((FrT.refl TR w0.heap.size w).alloc hz (.cells #[.pointer (some ⟨g, 0, none⟩)] 68)).alloc (Nat.le_trans hz (by simp)) (.cells #[.int .i64 0, .int .i64 0, .slice none 0 0] 38))
  clear hX0
  unfold rdM
  clear hr
  go_enter Try.func46, Try.ntmps46
  go_wp2_with fail
  refine (rtime_any w0 g b s _ HR0.out).mono ?_
  rintro e w1 ⟨rfl, h1, f1⟩
  generalize hE1 : rdNum b 1099511627775 s = r1 at *
  have HE1 := Aside0.mk hE1
  have HX1b := Aside0.mk (blk_alloc (f1.blk HX0.out (by simp [TR])) (.cells #[.int .i64 r1.1, .int .i64 0, .slice none 0 0] 38))
  have HR1b := Aside0.mk (h1.alloc (.cells #[.int .i64 r1.1, .int .i64 0, .slice none 0 0] 38))
  have HF1b := Aside0.mk ((HF0.out.trans f1).alloc (Nat.le_trans hz (Nat.le_trans HF0.out.size f1.size)) (.cells #[.int .i64 r1.1, .int .i64 0, .slice none 0 0] 38))
  have HV1b := Aside0.mk (blk_new w1 (.cells #[.int .i64 r1.1, .int .i64 0, .slice none 0 0] 38))
  have l2 : w.heap.size + 1 < w1.heap.size := blk_lt (f1.blk HX0.out (by simp [TR]))
  have hsz : (w1.alloc (.cells #[.int .i64 r1.1, .int .i64 0, .slice none 0 0] 38)).heap.size = w1.heap.size + 1 := size_alloc _ _
  have HSZ := Aside0.mk hsz
  have HC1b := Aside0.mk (blk_alloc (f1.blk HC0.out (by simp [TR])) (.cells #[.int .i64 r1.1, .int .i64 0, .slice none 0 0] 38))
  have l0 : w.heap.size < w1.heap.size := blk_lt (f1.blk HC0.out (by simp [TR]))
  have q1 : w1.cell? ⟨w.heap.size, 0, none⟩ = some (.pointer (some ⟨g, 0, none⟩)) := (blk_cell (f1.blk HC0.out (by simp [TR])) 0).trans rfl
  clear h1 f1 hE1 hsz
  go_wp2_with fail
  generalize w1.alloc (.cells #[.int .i64 r1.1, .int .i64 0, .slice none 0 0] 38) = wa at *
  clear q1
  refine (rnum_any w0 g b 2147483647 r1.2 _ HR1b.out (by omega) (by omega)).mono ?_
  rintro e w2 ⟨rfl, h2, f2⟩
  generalize hE2 : rdNum b 2147483647 r1.2 = r2 at *
  have HE2 := Aside0.mk hE2
  have HX2 := Aside0.mk (f2.blk HX1b.out (by simp [TR]))
  have HV2 := Aside0.mk (f2.blk HV1b.out (by simp [TR]))
  have HR2 := Aside0.mk h2
  have HF2 := Aside0.mk (HF1b.out.trans f2)
  have v0 : w2.cell? ⟨w1.heap.size, 1, none⟩ = some (.int .i64 0) := (blk_cell HV2.out 1).trans rfl
  have v3 : w2.frozen? ⟨w1.heap.size, 1, none⟩ = false := blk_frozen HV2.out 1
  have HV2b := Aside0.mk (blk_put HV2.out 1 (.int .i64 r2.1) rfl)
  have HX2b := Aside0.mk (blk_far HX2.out (p := ⟨w1.heap.size, 1, none⟩) (show w.heap.size + 1 ≠ w1.heap.size from Nat.ne_of_lt l2) (.int .i64 r2.1))
  have HF2b := Aside0.mk (setNew HF2.out (show w.heap.size ≤ w1.heap.size by omega) hz 1 (.int .i64 r2.1))
  have HR2b := Aside0.mk (HR2.out.far HV2.out (by decide) 1 (.int .i64 r2.1))
  have HC2 := Aside0.mk (f2.blk HC1b.out (by simp [TR]))
  have HC2b := Aside0.mk (blk_far HC2.out (p := ⟨w1.heap.size, 1, none⟩) (blk_ne HC2.out HV2.out (by decide)) (.int .i64 r2.1))
  clear h2 f2 hE2
  have x3 : (w2.setCell ⟨w1.heap.size, 1, none⟩ (.int .i64 r2.1)).cell? ⟨w.heap.size, 0, none⟩ = some (.pointer (some ⟨g, 0, none⟩)) := (blk_cell HC2b.out 0).trans rfl
  go_wp2_with fail
  generalize w2.setCell ⟨w1.heap.size, 1, none⟩ (.int .i64 r2.1) = w2b at *
  clear v0 v3
  refine (list43_any w0 g w.heap.size b r2.2 _ HR2b.out HC2b.out).mono ?_
  rintro e w3 ⟨v, rfl, ho, h3, f3⟩
  generalize hE3 : rdPs b r2.2 = r3 at *
  have HE3 := Aside0.mk hE3
  have HOk := Aside0.mk (Kd.R_lower ho (show w.heap.size ≤ _ from HF2b.out.size))
  obtain ⟨A, c, rfl⟩ := Kd.R_slice ho
  generalize hL : r3.1.length = L at *
  clear hL ho
  have HX3 := Aside0.mk (f3.blk HX2b.out (by simp [TR]))
  have HV3 := Aside0.mk (f3.blk HV2b.out (by simp [TR]))
  have HR3 := Aside0.mk h3
  have HF3 := Aside0.mk (HF2b.out.trans f3)
  have v0 : w3.cell? ⟨w1.heap.size, 2, none⟩ = some (.slice none 0 0) := (blk_cell HV3.out 2).trans rfl
  have v3 : w3.frozen? ⟨w1.heap.size, 2, none⟩ = false := blk_frozen HV3.out 2
  have HV3b := Aside0.mk (blk_put HV3.out 2 (.slice A L c) rfl)
  have HX3b := Aside0.mk (blk_far HX3.out (p := ⟨w1.heap.size, 2, none⟩) (show w.heap.size + 1 ≠ w1.heap.size from Nat.ne_of_lt l2) (.slice A L c))
  have HF3b := Aside0.mk (setNew HF3.out (show w.heap.size ≤ w1.heap.size by omega) hz 2 (.slice A L c))
  have HR3b := Aside0.mk (HR3.out.far HV3.out (by decide) 2 (.slice A L c))
  have HC3 := Aside0.mk (f3.blk HC2b.out (by simp [TR]))
  have HC3b := Aside0.mk (blk_far HC3.out (p := ⟨w1.heap.size, 2, none⟩) (blk_ne HC3.out HV3.out (by decide)) (.slice A L c))
  have HO3b := Aside0.mk (Kd.R_set HOk.out HV3.out (by simp [k43, Kd.iso, Kd.pair, Kd.int, Kd.scalar]) 2 (.slice A L c))
  clear h3 f3 hE3
  clear x3
  have x0_ : (w3.setCell ⟨w1.heap.size, 2, none⟩ (.slice A L c)).cell? ⟨w1.heap.size, 0, none⟩ = some (.int .i64 r1.1) := (blk_cell HV3b.out 0).trans rfl
  have y0_ : (w3.setCell ⟨w1.heap.size, 2, none⟩ (.slice A L c)).cell? ⟨w.heap.size + 1, 0, none⟩ = some (.int .i64 0) := (blk_cell HX3b.out 0).trans rfl
  have z0_ : (w3.setCell ⟨w1.heap.size, 2, none⟩ (.slice A L c)).frozen? ⟨w.heap.size + 1, 0, none⟩ = false := blk_frozen HX3b.out 0
  have x1_ : (w3.setCell ⟨w1.heap.size, 2, none⟩ (.slice A L c)).cell? ⟨w1.heap.size, 1, none⟩ = some (.int .i64 r2.1) := (blk_cell HV3b.out 1).trans rfl
  have y1_ : (w3.setCell ⟨w1.heap.size, 2, none⟩ (.slice A L c)).cell? ⟨w.heap.size + 1, 1, none⟩ = some (.int .i64 0) := (blk_cell HX3b.out 1).trans rfl
  have z1_ : (w3.setCell ⟨w1.heap.size, 2, none⟩ (.slice A L c)).frozen? ⟨w.heap.size + 1, 1, none⟩ = false := blk_frozen HX3b.out 1
  have x2_ : (w3.setCell ⟨w1.heap.size, 2, none⟩ (.slice A L c)).cell? ⟨w1.heap.size, 2, none⟩ = some (.slice A L c) := (blk_cell HV3b.out 2).trans rfl
  have y2_ : (w3.setCell ⟨w1.heap.size, 2, none⟩ (.slice A L c)).cell? ⟨w.heap.size + 1, 2, none⟩ = some (.slice none 0 0) := (blk_cell HX3b.out 2).trans rfl
  have z2_ : (w3.setCell ⟨w1.heap.size, 2, none⟩ (.slice A L c)).frozen? ⟨w.heap.size + 1, 2, none⟩ = false := blk_frozen HX3b.out 2
  go_wp2_with fail
  have HX6 := Aside0.mk (st3 HX3b.out (.int .i64 r1.1) (.int .i64 r2.1) (.slice A L c))
  have HR6 := Aside0.mk (HR3b.out.far3 HX3b.out (by decide) (.int .i64 r1.1) (.int .i64 r2.1) (.slice A L c) (by omega))
  have HF6 := Aside0.mk (setNew (setNew (setNew HF3b.out (Nat.le_succ _) hz 0 (.int .i64 r1.1)) (Nat.le_succ _) hz 1 (.int .i64 r2.1)) (Nat.le_succ _) hz 2 (.slice A L c))
  have HO6 := Aside0.mk (Kd.R_set (Kd.R_set (Kd.R_set HO3b.out HX3b.out (by simp [k43, Kd.iso, Kd.pair, Kd.int, Kd.scalar]) 0 (.int .i64 r1.1)) (blk_put HX3b.out 0 (.int .i64 r1.1) rfl) (by simp [k43, Kd.iso, Kd.pair, Kd.int, Kd.scalar]) 1 (.int .i64 r2.1)) (blk_put (blk_put HX3b.out 0 (.int .i64 r1.1) rfl) 1 (.int .i64 r2.1) rfl) (by simp [k43, Kd.iso, Kd.pair, Kd.int, Kd.scalar]) 2 (.slice A L c))
  generalize (((w3.setCell ⟨w1.heap.size, 2, none⟩ (.slice A L c)).setCell ⟨w.heap.size + 1, 0, none⟩ (.int .i64 r1.1)).setCell ⟨w.heap.size + 1, 1, none⟩ (.int .i64 r2.1)).setCell ⟨w.heap.size + 1, 2, none⟩ (.slice A L c) = w6 at *
  have c0_ : w6.cell? ⟨w.heap.size + 1, 0, none⟩ = some (.int .i64 r1.1) := (blk_cell HX6.out 0).trans rfl
  have c1_ : w6.cell? ⟨w.heap.size + 1, 1, none⟩ = some (.int .i64 r2.1) := (blk_cell HX6.out 1).trans rfl
  have c2_ : w6.cell? ⟨w.heap.size + 1, 2, none⟩ = some (.slice A L c) := (blk_cell HX6.out 2).trans rfl
  exact bodyPost_ret (v := .agg #[.int .i64 r1.1, .int .i64 r2.1, .slice A L c]) (by simp [results, Try.results46, go_sem, c0_, c1_, c2_]) rfl ⟨_, by rw [HE1.out, HE2.out], by rw [HE1.out, HE2.out, HE3.out]; exact HO6.out, by rw [HE1.out, HE2.out, HE3.out]; exact HR6.out, HF6.out⟩

set_option maxRecDepth 100000 in
set_option maxHeartbeats 1600000 in
theorem c53_any (w0 : World) (g : Nat) (b : List Int) (s : St) (w : World) (hr : RdAt w0 w g b s) :
    Calls Try.prog 53 #[.pointer (some ⟨g, 0, none⟩)] w fun e w' => e = .returned (.agg #[.string (rdR b s).1.1, .string (rdR b s).1.2.1, .int .i64 (rdR b s).1.2.2]) ∧ RdAt w0 w' g b (rdR b s).2 ∧ FrT TR w0.heap.size w w' := by
  have hz := hr.old.size
  have HR0 := Aside0.mk (hr.alloc (.cells #[.string ⟨#[]⟩, .string ⟨#[]⟩, .int .i64 0] 45))
  have HX0 := Aside0.mk (blk_new w (.cells #[.string ⟨#[]⟩, .string ⟨#[]⟩, .int .i64 0] 45))
  have HF0 := Aside0.mk ((FrT.refl TR w0.heap.size w).alloc hz (.cells #[.string ⟨#[]⟩, .string ⟨#[]⟩, .int .i64 0] 45))
  unfold rdR
  clear hr
  go_enter Try.func53, Try.ntmps53
  go_wp2_with fail
  refine (rtext_any w0 g b 16 s _ HR0.out (by omega)).mono ?_
  rintro e w1 ⟨rfl, h1, f1⟩
  generalize hE1 : rdText b 16 s = r1 at *
  have HE1 := Aside0.mk hE1
  have HX1b := Aside0.mk (blk_alloc (f1.blk HX0.out (by simp [TR])) (.cells #[.string r1.1, .string ⟨#[]⟩, .int .i64 0] 45))
  have HR1b := Aside0.mk (h1.alloc (.cells #[.string r1.1, .string ⟨#[]⟩, .int .i64 0] 45))
  have HF1b := Aside0.mk ((HF0.out.trans f1).alloc (Nat.le_trans hz (Nat.le_trans HF0.out.size f1.size)) (.cells #[.string r1.1, .string ⟨#[]⟩, .int .i64 0] 45))
  have HV1b := Aside0.mk (blk_new w1 (.cells #[.string r1.1, .string ⟨#[]⟩, .int .i64 0] 45))
  have l2 : w.heap.size < w1.heap.size := blk_lt (f1.blk HX0.out (by simp [TR]))
  have hsz : (w1.alloc (.cells #[.string r1.1, .string ⟨#[]⟩, .int .i64 0] 45)).heap.size = w1.heap.size + 1 := size_alloc _ _
  have HSZ := Aside0.mk hsz
  clear h1 f1 hE1 hsz
  go_wp2_with fail
  generalize w1.alloc (.cells #[.string r1.1, .string ⟨#[]⟩, .int .i64 0] 45) = wa at *
  refine (rtext_any w0 g b 64 r1.2 _ HR1b.out (by omega)).mono ?_
  rintro e w2 ⟨rfl, h2, f2⟩
  generalize hE2 : rdText b 64 r1.2 = r2 at *
  have HE2 := Aside0.mk hE2
  have HX2 := Aside0.mk (f2.blk HX1b.out (by simp [TR]))
  have HV2 := Aside0.mk (f2.blk HV1b.out (by simp [TR]))
  have HR2 := Aside0.mk h2
  have HF2 := Aside0.mk (HF1b.out.trans f2)
  have v0 : w2.cell? ⟨w1.heap.size, 1, none⟩ = some (.string ⟨#[]⟩) := (blk_cell HV2.out 1).trans rfl
  have v3 : w2.frozen? ⟨w1.heap.size, 1, none⟩ = false := blk_frozen HV2.out 1
  have HV2b := Aside0.mk (blk_put HV2.out 1 (.string r2.1) rfl)
  have HX2b := Aside0.mk (blk_far HX2.out (p := ⟨w1.heap.size, 1, none⟩) (show w.heap.size ≠ w1.heap.size from Nat.ne_of_lt l2) (.string r2.1))
  have HF2b := Aside0.mk (setNew HF2.out (show w.heap.size ≤ w1.heap.size by omega) hz 1 (.string r2.1))
  have HR2b := Aside0.mk (HR2.out.far HV2.out (by decide) 1 (.string r2.1))
  clear h2 f2 hE2
  go_wp2_with fail
  generalize w2.setCell ⟨w1.heap.size, 1, none⟩ (.string r2.1) = w2b at *
  clear v0 v3
  refine (rtime_any w0 g b r2.2 _ HR2b.out).mono ?_
  rintro e w3 ⟨rfl, h3, f3⟩
  generalize hE3 : rdNum b 1099511627775 r2.2 = r3 at *
  have HE3 := Aside0.mk hE3
  have HX3 := Aside0.mk (f3.blk HX2b.out (by simp [TR]))
  have HV3 := Aside0.mk (f3.blk HV2b.out (by simp [TR]))
  have HR3 := Aside0.mk h3
  have HF3 := Aside0.mk (HF2b.out.trans f3)
  have v0 : w3.cell? ⟨w1.heap.size, 2, none⟩ = some (.int .i64 0) := (blk_cell HV3.out 2).trans rfl
  have v3 : w3.frozen? ⟨w1.heap.size, 2, none⟩ = false := blk_frozen HV3.out 2
  have HV3b := Aside0.mk (blk_put HV3.out 2 (.int .i64 r3.1) rfl)
  have HX3b := Aside0.mk (blk_far HX3.out (p := ⟨w1.heap.size, 2, none⟩) (show w.heap.size ≠ w1.heap.size from Nat.ne_of_lt l2) (.int .i64 r3.1))
  have HF3b := Aside0.mk (setNew HF3.out (show w.heap.size ≤ w1.heap.size by omega) hz 2 (.int .i64 r3.1))
  have HR3b := Aside0.mk (HR3.out.far HV3.out (by decide) 2 (.int .i64 r3.1))
  clear h3 f3 hE3
  have x0_ : (w3.setCell ⟨w1.heap.size, 2, none⟩ (.int .i64 r3.1)).cell? ⟨w1.heap.size, 0, none⟩ = some (.string r1.1) := (blk_cell HV3b.out 0).trans rfl
  have y0_ : (w3.setCell ⟨w1.heap.size, 2, none⟩ (.int .i64 r3.1)).cell? ⟨w.heap.size, 0, none⟩ = some (.string ⟨#[]⟩) := (blk_cell HX3b.out 0).trans rfl
  have z0_ : (w3.setCell ⟨w1.heap.size, 2, none⟩ (.int .i64 r3.1)).frozen? ⟨w.heap.size, 0, none⟩ = false := blk_frozen HX3b.out 0
  have x1_ : (w3.setCell ⟨w1.heap.size, 2, none⟩ (.int .i64 r3.1)).cell? ⟨w1.heap.size, 1, none⟩ = some (.string r2.1) := (blk_cell HV3b.out 1).trans rfl
  have y1_ : (w3.setCell ⟨w1.heap.size, 2, none⟩ (.int .i64 r3.1)).cell? ⟨w.heap.size, 1, none⟩ = some (.string ⟨#[]⟩) := (blk_cell HX3b.out 1).trans rfl
  have z1_ : (w3.setCell ⟨w1.heap.size, 2, none⟩ (.int .i64 r3.1)).frozen? ⟨w.heap.size, 1, none⟩ = false := blk_frozen HX3b.out 1
  have x2_ : (w3.setCell ⟨w1.heap.size, 2, none⟩ (.int .i64 r3.1)).cell? ⟨w1.heap.size, 2, none⟩ = some (.int .i64 r3.1) := (blk_cell HV3b.out 2).trans rfl
  have y2_ : (w3.setCell ⟨w1.heap.size, 2, none⟩ (.int .i64 r3.1)).cell? ⟨w.heap.size, 2, none⟩ = some (.int .i64 0) := (blk_cell HX3b.out 2).trans rfl
  have z2_ : (w3.setCell ⟨w1.heap.size, 2, none⟩ (.int .i64 r3.1)).frozen? ⟨w.heap.size, 2, none⟩ = false := blk_frozen HX3b.out 2
  go_wp2_with fail
  have HX6 := Aside0.mk (st3 HX3b.out (.string r1.1) (.string r2.1) (.int .i64 r3.1))
  have HR6 := Aside0.mk (HR3b.out.far3 HX3b.out (by decide) (.string r1.1) (.string r2.1) (.int .i64 r3.1) (by omega))
  have HF6 := Aside0.mk (setNew (setNew (setNew HF3b.out (Nat.le_refl _) hz 0 (.string r1.1)) (Nat.le_refl _) hz 1 (.string r2.1)) (Nat.le_refl _) hz 2 (.int .i64 r3.1))
  generalize (((w3.setCell ⟨w1.heap.size, 2, none⟩ (.int .i64 r3.1)).setCell ⟨w.heap.size, 0, none⟩ (.string r1.1)).setCell ⟨w.heap.size, 1, none⟩ (.string r2.1)).setCell ⟨w.heap.size, 2, none⟩ (.int .i64 r3.1) = w6 at *
  have c0_ : w6.cell? ⟨w.heap.size, 0, none⟩ = some (.string r1.1) := (blk_cell HX6.out 0).trans rfl
  have c1_ : w6.cell? ⟨w.heap.size, 1, none⟩ = some (.string r2.1) := (blk_cell HX6.out 1).trans rfl
  have c2_ : w6.cell? ⟨w.heap.size, 2, none⟩ = some (.int .i64 r3.1) := (blk_cell HX6.out 2).trans rfl
  exact bodyPost_ret (v := .agg #[.string r1.1, .string r2.1, .int .i64 r3.1]) (by simp [results, Try.results53, go_sem, c0_, c1_, c2_]) rfl ⟨by rw [HE1.out, HE2.out, HE3.out], by rw [HE1.out, HE2.out, HE3.out]; exact HR6.out, HF6.out⟩

set_option maxRecDepth 100000 in
set_option maxHeartbeats 1600000 in
theorem c58_any (w0 : World) (g : Nat) (b : List Int) (s : St) (w : World) (hr : RdAt w0 w g b s) :
    Calls Try.prog 58 #[.pointer (some ⟨g, 0, none⟩)] w fun e w' => e = .returned (.agg #[.string (rdG b s).1.1, .int .i64 (rdG b s).1.2]) ∧ RdAt w0 w' g b (rdG b s).2 ∧ FrT TR w0.heap.size w w' := by
  have hz := hr.old.size
  have HR0 := Aside0.mk (hr.alloc (.cells #[.string ⟨#[]⟩, .int .i64 0] 49))
  have HX0 := Aside0.mk (blk_new w (.cells #[.string ⟨#[]⟩, .int .i64 0] 49))
  have HF0 := Aside0.mk ((FrT.refl TR w0.heap.size w).alloc hz (.cells #[.string ⟨#[]⟩, .int .i64 0] 49))
  unfold rdG
  clear hr
  go_enter Try.func58, Try.ntmps58
  go_wp2_with fail
  refine (rtext_any w0 g b 16 s _ HR0.out (by omega)).mono ?_
  rintro e w1 ⟨rfl, h1, f1⟩
  generalize hE1 : rdText b 16 s = r1 at *
  have HE1 := Aside0.mk hE1
  have HX1b := Aside0.mk (blk_alloc (f1.blk HX0.out (by simp [TR])) (.cells #[.string r1.1, .int .i64 0] 49))
  have HR1b := Aside0.mk (h1.alloc (.cells #[.string r1.1, .int .i64 0] 49))
  have HF1b := Aside0.mk ((HF0.out.trans f1).alloc (Nat.le_trans hz (Nat.le_trans HF0.out.size f1.size)) (.cells #[.string r1.1, .int .i64 0] 49))
  have HV1b := Aside0.mk (blk_new w1 (.cells #[.string r1.1, .int .i64 0] 49))
  have l2 : w.heap.size < w1.heap.size := blk_lt (f1.blk HX0.out (by simp [TR]))
  have hsz : (w1.alloc (.cells #[.string r1.1, .int .i64 0] 49)).heap.size = w1.heap.size + 1 := size_alloc _ _
  have HSZ := Aside0.mk hsz
  clear h1 f1 hE1 hsz
  go_wp2_with fail
  generalize w1.alloc (.cells #[.string r1.1, .int .i64 0] 49) = wa at *
  refine (rtime_any w0 g b r1.2 _ HR1b.out).mono ?_
  rintro e w2 ⟨rfl, h2, f2⟩
  generalize hE2 : rdNum b 1099511627775 r1.2 = r2 at *
  have HE2 := Aside0.mk hE2
  have HX2 := Aside0.mk (f2.blk HX1b.out (by simp [TR]))
  have HV2 := Aside0.mk (f2.blk HV1b.out (by simp [TR]))
  have HR2 := Aside0.mk h2
  have HF2 := Aside0.mk (HF1b.out.trans f2)
  have v0 : w2.cell? ⟨w1.heap.size, 1, none⟩ = some (.int .i64 0) := (blk_cell HV2.out 1).trans rfl
  have v3 : w2.frozen? ⟨w1.heap.size, 1, none⟩ = false := blk_frozen HV2.out 1
  have HV2b := Aside0.mk (blk_put HV2.out 1 (.int .i64 r2.1) rfl)
  have HX2b := Aside0.mk (blk_far HX2.out (p := ⟨w1.heap.size, 1, none⟩) (show w.heap.size ≠ w1.heap.size from Nat.ne_of_lt l2) (.int .i64 r2.1))
  have HF2b := Aside0.mk (setNew HF2.out (show w.heap.size ≤ w1.heap.size by omega) hz 1 (.int .i64 r2.1))
  have HR2b := Aside0.mk (HR2.out.far HV2.out (by decide) 1 (.int .i64 r2.1))
  clear h2 f2 hE2
  have x0_ : (w2.setCell ⟨w1.heap.size, 1, none⟩ (.int .i64 r2.1)).cell? ⟨w1.heap.size, 0, none⟩ = some (.string r1.1) := (blk_cell HV2b.out 0).trans rfl
  have y0_ : (w2.setCell ⟨w1.heap.size, 1, none⟩ (.int .i64 r2.1)).cell? ⟨w.heap.size, 0, none⟩ = some (.string ⟨#[]⟩) := (blk_cell HX2b.out 0).trans rfl
  have z0_ : (w2.setCell ⟨w1.heap.size, 1, none⟩ (.int .i64 r2.1)).frozen? ⟨w.heap.size, 0, none⟩ = false := blk_frozen HX2b.out 0
  have x1_ : (w2.setCell ⟨w1.heap.size, 1, none⟩ (.int .i64 r2.1)).cell? ⟨w1.heap.size, 1, none⟩ = some (.int .i64 r2.1) := (blk_cell HV2b.out 1).trans rfl
  have y1_ : (w2.setCell ⟨w1.heap.size, 1, none⟩ (.int .i64 r2.1)).cell? ⟨w.heap.size, 1, none⟩ = some (.int .i64 0) := (blk_cell HX2b.out 1).trans rfl
  have z1_ : (w2.setCell ⟨w1.heap.size, 1, none⟩ (.int .i64 r2.1)).frozen? ⟨w.heap.size, 1, none⟩ = false := blk_frozen HX2b.out 1
  go_wp2_with fail
  have HX6 := Aside0.mk (st2 HX2b.out (.string r1.1) (.int .i64 r2.1))
  have HR6 := Aside0.mk (HR2b.out.far2 HX2b.out (by decide) (.string r1.1) (.int .i64 r2.1) (by omega))
  have HF6 := Aside0.mk (setNew (setNew HF2b.out (Nat.le_refl _) hz 0 (.string r1.1)) (Nat.le_refl _) hz 1 (.int .i64 r2.1))
  generalize ((w2.setCell ⟨w1.heap.size, 1, none⟩ (.int .i64 r2.1)).setCell ⟨w.heap.size, 0, none⟩ (.string r1.1)).setCell ⟨w.heap.size, 1, none⟩ (.int .i64 r2.1) = w6 at *
  have c0_ : w6.cell? ⟨w.heap.size, 0, none⟩ = some (.string r1.1) := (blk_cell HX6.out 0).trans rfl
  have c1_ : w6.cell? ⟨w.heap.size, 1, none⟩ = some (.int .i64 r2.1) := (blk_cell HX6.out 1).trans rfl
  exact bodyPost_ret (v := .agg #[.string r1.1, .int .i64 r2.1]) (by simp [results, Try.results58, go_sem, c0_, c1_]) rfl ⟨by rw [HE1.out, HE2.out], by rw [HE1.out, HE2.out]; exact HR6.out, HF6.out⟩

end Go.Proofs.Ytmemkmnnededgaa.H
