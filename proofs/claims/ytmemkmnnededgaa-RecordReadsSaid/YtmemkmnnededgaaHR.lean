/- Contracts of the program's package record: Commit's reader. -/
import Derived.Test.YtmemkmnnededgaaHQ
namespace Go.Proofs.Ytmemkmnnededgaa.H
open Go.RowKit Go.Proofs.YtmemkmnnededgaaW.PrintWords Go.Proofs.YtmemkmnnededgaaW.PrintLast Go.Proofs.YtmemkmnnededgaaW.PrintMore
attribute [local go_sem] max2_int min2_int max_two min_two max_three min_three max_four min_four
set_option linter.unusedVariables false
set_option linter.unusedSimpArgs false

def rdC (b : List Int) (s : St) : (Int × List W27) × St :=
  (((rdNum b 1099511627775 s).1, (rdWs b (rdNum b 1099511627775 s).2).1), (rdWs b (rdNum b 1099511627775 s).2).2)

theorem st2 {W : World} {q : Nat} {t : TypeId} {c0 c1 : Value} (h : W.heap[q]? = some (.cells #[c0, c1] t (0, 0))) (d0 d1 : Value) :
    ((W.setCell ⟨q, 0, none⟩ d0).setCell ⟨q, 1, none⟩ d1).heap[q]? = some (.cells #[d0, d1] t (0, 0)) := blk_put (blk_put h 0 d0 rfl) 1 d1 rfl
theorem RdAt.far2 {w0 w : World} {g : Nat} {b : List Int} {s : St} (h : RdAt w0 w g b s) {q : Nat} {c0 c1 : Value} {t : TypeId} (hq : w.heap[q]? = some (.cells #[c0, c1] t (0, 0))) (ht : t ≠ 108) (d0 d1 : Value) (hge : w0.heap.size ≤ q) :
    RdAt w0 ((w.setCell ⟨q, 0, none⟩ d0).setCell ⟨q, 1, none⟩ d1) g b s := (h.far hq ht 0 d0 hge).far (blk_put hq 0 d0 rfl) ht 1 d1 hge

set_option maxRecDepth 100000 in
set_option maxHeartbeats 1600000 in
theorem c34_any (w0 : World) (g : Nat) (b : List Int) (s : St) (w : World) (hr : RdAt w0 w g b s) :
    Calls Try.prog 34 #[.pointer (some ⟨g, 0, none⟩)] w fun e w' => ∃ v : Value, e = .returned (.agg #[.int .i64 (rdC b s).1.1, v]) ∧ k27.R 27 w' w.heap.size (fun _ => True) v (rdC b s).1.2 ∧ RdAt w0 w' g b (rdC b s).2 ∧ FrT TR w0.heap.size w w' := by
  have hz := hr.old.size
  have HR := Aside0.mk ((hr.alloc (.cells #[.pointer (some ⟨g, 0, none⟩)] 68)).alloc (.cells #[.int .i64 0, .slice none 0 0] 24))
  have HC := Aside0.mk (blk_alloc (blk_new w (.cells #[.pointer (some ⟨g, 0, none⟩)] 68)) (.cells #[.int .i64 0, .slice none 0 0] 24))
  have HX0 := blk_new (w.alloc (.cells #[.pointer (some ⟨g, 0, none⟩)] 68)) (.cells #[.int .i64 0, .slice none 0 0] 24)
  rw [size_alloc] at HX0
  have HX := Aside0.mk HX0
  have HF := Aside0.mk (((FrT.refl TR w0.heap.size w).alloc hz (.cells #[.pointer (some ⟨g, 0, none⟩)] 68)).alloc (Nat.le_trans hz (by simp)) (.cells #[.int .i64 0, .slice none 0 0] 24))
  unfold rdC
  clear hr HX0
  go_enter Try.func34, Try.ntmps34
  go_wp2_with fail
  refine (rtime_any w0 g b s _ HR.out).mono ?_
  rintro e w1 ⟨rfl, h1, f1⟩
  generalize hE : rdNum b 1099511627775 s = r at *
  obtain ⟨t, s1⟩ := r
  have HE := Aside0.mk hE
  clear hE
  have HX1 := Aside0.mk (blk_alloc (f1.blk HX.out (by simp [TR])) (.cells #[.int .i64 t, .slice none 0 0] 24))
  have HC1 := Aside0.mk (blk_alloc (f1.blk HC.out (by simp [TR])) (.cells #[.int .i64 t, .slice none 0 0] 24))
  have HR1 := Aside0.mk (h1.alloc (.cells #[.int .i64 t, .slice none 0 0] 24))
  have HF1 := Aside0.mk ((HF.out.trans f1).alloc (Nat.le_trans hz (Nat.le_trans HF.out.size f1.size)) (.cells #[.int .i64 t, .slice none 0 0] 24))
  have HV1 := Aside0.mk (blk_new w1 (.cells #[.int .i64 t, .slice none 0 0] 24))
  have l0 : w.heap.size < w1.heap.size := blk_lt (f1.blk HC.out (by simp [TR]))
  have l2 : w.heap.size + 1 < w1.heap.size := blk_lt (f1.blk HX.out (by simp [TR]))
  have q1 : w1.cell? ⟨w.heap.size, 0, none⟩ = some (.pointer (some ⟨g, 0, none⟩)) := (blk_cell (f1.blk HC.out (by simp [TR])) 0).trans rfl
  have hsz : (w1.alloc (.cells #[.int .i64 t, .slice none 0 0] 24)).heap.size = w1.heap.size + 1 := size_alloc _ _
  have HSZ := Aside0.mk hsz
  clear h1 f1 hsz
  -- END34
  go_wp2_with fail
  generalize w1.alloc (.cells #[.int .i64 t, .slice none 0 0] 24) = wa at *
  refine (list27_any w0 g w.heap.size b s1 _ HR1.out HC1.out).mono ?_
  rintro e w2 ⟨v, rfl, ho, h2, f2⟩
  generalize hE2 : rdWs b s1 = rk at *
  have HE2 := Aside0.mk hE2
  clear hE2
  have HX2 := Aside0.mk (f2.blk HX1.out (by simp [TR]))
  have HV2 := Aside0.mk (f2.blk HV1.out (by simp [TR]))
  have HR2 := Aside0.mk h2
  have HF2 := Aside0.mk (HF1.out.trans f2)
  have HO2 := Aside0.mk (Kd.R_lower ho (show w.heap.size ≤ wa.heap.size from by have := HSZ.out; omega))
  obtain ⟨A, c, rfl⟩ := Kd.R_slice ho
  generalize hL : rk.1.length = L at *
  have v0 : w2.cell? ⟨w1.heap.size, 0, none⟩ = some (.int .i64 t) := (blk_cell HV2.out 0).trans rfl
  have v1 : w2.cell? ⟨w1.heap.size, 1, none⟩ = some (.slice none 0 0) := (blk_cell HV2.out 1).trans rfl
  have v3 : w2.frozen? ⟨w1.heap.size, 1, none⟩ = false := blk_frozen HV2.out 1
  have HV3 := Aside0.mk (blk_put HV2.out 1 (.slice A L c) rfl)
  have HX3 := Aside0.mk (blk_far HX2.out (p := ⟨w1.heap.size, 1, none⟩) (show w.heap.size + 1 ≠ w1.heap.size by omega) (.slice A L c))
  have HF3 := Aside0.mk (setNew HF2.out (show w.heap.size ≤ w1.heap.size by omega) hz 1 (.slice A L c))
  have HR3 := Aside0.mk (HR2.out.far HV2.out (by decide) 1 (.slice A L c))
  have HO3 := Aside0.mk (Kd.R_set HO2.out HV2.out (by simp [k27, Kd.iso, Kd.pair, Kd.string, Kd.bool, Kd.scalar]) 1 (.slice A L c))
  have x0 : (w2.setCell ⟨w1.heap.size, 1, none⟩ (.slice A L c)).cell? ⟨w1.heap.size, 0, none⟩ = some (.int .i64 t) := (blk_cell HV3.out 0).trans rfl
  have x1 : (w2.setCell ⟨w1.heap.size, 1, none⟩ (.slice A L c)).cell? ⟨w1.heap.size, 1, none⟩ = some (.slice A L c) := (blk_cell HV3.out 1).trans rfl
  have y0 : (w2.setCell ⟨w1.heap.size, 1, none⟩ (.slice A L c)).cell? ⟨w.heap.size + 1, 0, none⟩ = some (.int .i64 0) := (blk_cell HX3.out 0).trans rfl
  have y1 : (w2.setCell ⟨w1.heap.size, 1, none⟩ (.slice A L c)).cell? ⟨w.heap.size + 1, 1, none⟩ = some (.slice none 0 0) := (blk_cell HX3.out 1).trans rfl
  have z0 : (w2.setCell ⟨w1.heap.size, 1, none⟩ (.slice A L c)).frozen? ⟨w.heap.size + 1, 0, none⟩ = false := blk_frozen HX3.out 0
  have z1 : (w2.setCell ⟨w1.heap.size, 1, none⟩ (.slice A L c)).frozen? ⟨w.heap.size + 1, 1, none⟩ = false := blk_frozen HX3.out 1
  clear ho h2 f2 q1 hL
  go_wp2_with fail
  have HX6 := Aside0.mk (st2 HX3.out (.int .i64 t) (.slice A L c))
  have HR6 := Aside0.mk (HR3.out.far2 HX3.out (by decide) (.int .i64 t) (.slice A L c) (by omega))
  have HF6 := Aside0.mk (setNew (setNew HF3.out (Nat.le_succ _) hz 0 (.int .i64 t)) (Nat.le_succ _) hz 1 (.slice A L c))
  have HO6 := Aside0.mk (Kd.R_set (Kd.R_set HO3.out HX3.out (by simp [k27, Kd.iso, Kd.pair, Kd.string, Kd.bool, Kd.scalar]) 0 (.int .i64 t)) (blk_put HX3.out 0 (.int .i64 t) rfl) (by simp [k27, Kd.iso, Kd.pair, Kd.string, Kd.bool, Kd.scalar]) 1 (.slice A L c))
  generalize (((w2.setCell ⟨w1.heap.size, 1, none⟩ (.slice A L c)).setCell ⟨w.heap.size + 1, 0, none⟩ (.int .i64 t)).setCell ⟨w.heap.size + 1, 1, none⟩ (.slice A L c)) = w6 at *
  have c0 : w6.cell? ⟨w.heap.size + 1, 0, none⟩ = some (.int .i64 t) := (blk_cell HX6.out 0).trans rfl
  have c1 : w6.cell? ⟨w.heap.size + 1, 1, none⟩ = some (.slice A L c) := (blk_cell HX6.out 1).trans rfl
  exact bodyPost_ret (v := .agg #[.int .i64 t, .slice A L c]) (by simp [results, Try.results34, go_sem, c0, c1]) rfl ⟨_, by rw [HE.out], by rw [HE.out]; simp only; rw [HE2.out]; exact HO6.out, by rw [HE.out]; simp only; rw [HE2.out]; exact HR6.out, HF6.out⟩
end Go.Proofs.Ytmemkmnnededgaa.H
