/- Contracts of the program's package record: Commit's closures and lists. -/
import Derived.Test.YtmemkmnnededgaaHN
import Derived.Test.YtmemkmnnededgaaHG
namespace Go.Proofs.Ytmemkmnnededgaa.H
open Go.RowKit Go.Proofs.YtmemkmnnededgaaW.PrintWords Go.Proofs.YtmemkmnnededgaaW.PrintLast Go.Proofs.YtmemkmnnededgaaW.PrintMore
attribute [local go_sem] max2_int min2_int max_two min_two max_three min_three max_four min_four
set_option linter.unusedVariables false
set_option linter.unusedSimpArgs false

theorem rflag_any (w0 : World) (g : Nat) (b : List Int) (s : St) (w : World) (hr : RdAt w0 w g b s) :
    Calls Try.prog 38 #[.pointer (some ⟨g, 0, none⟩)] w fun e w' => e = .returned (.bool (rdFlag b s).1) ∧ RdAt w0 w' g b (rdFlag b s).2 ∧ FrT TR w0.heap.size w w' := by
  obtain ⟨a, bad⟩ := s
  unfold rdFlag
  simp only
  by_cases hb : 0 ≤ bad
  · rw [if_pos hb]
    exact flag_bad w0 g b a bad w hr hb
  · rw [if_neg hb]
    by_cases h1 : a < b.length
    · by_cases h2 : b.getD a.toNat 0 ≤ 1
      · rw [if_pos ⟨h1, h2⟩]
        exact flag_good w0 g b a bad w hr (by omega) h1 h2
      · rw [if_neg (fun h => h2 h.2)]
        exact flag_other w0 g b a bad w hr (by omega) h1 (by omega)
    · rw [if_neg (fun h => h1 h.1)]
      exact flag_end w0 g b a bad w hr (by omega) (by omega)

/-- A write that is read. -/
def rdW (b : List Int) (s : St) : W27 × St :=
  if (rdFlag b s).1 = true then (⟨(rdText b 16 (rdFlag b s).2).1, ⟨#[]⟩, true⟩, (rdText b 16 (rdFlag b s).2).2)
  else (⟨(rdText b 16 (rdFlag b s).2).1, (rdText b 64 (rdText b 16 (rdFlag b s).2).2).1, false⟩, (rdText b 64 (rdText b 16 (rdFlag b s).2).2).2)

/-- A store into a block that is new since w. -/
theorem setNew {T : List TypeId} {B : Nat} {w w1 : World} (h : FrT T B w w1) {q : Nat} (hq : w.heap.size ≤ q) (hB : B ≤ w.heap.size) (j : Nat) (u : Value) : FrT T B w (w1.setCell ⟨q, j, none⟩ u) :=
  ⟨h.below.setCell (Nat.le_trans hB hq) u, fun k cs t fr hk ht => by
    rw [Below.heap_setCell _ _ _ _ (by have := blk_lt hk; simp only; omega)]
    exact h.kept k cs t fr hk ht⟩
/-- A store into a block of another type leaves the reader. -/
theorem RdAt.far {w0 w : World} {g : Nat} {b : List Int} {s : St} (h : RdAt w0 w g b s) {q : Nat} {cs : Array Value} {t : TypeId} (hq : w.heap[q]? = some (.cells cs t (0, 0))) (ht : t ≠ 108) (j : Nat) (u : Value) (hge : w0.heap.size ≤ q := by first | assumption | omega) : RdAt w0 (w.setCell ⟨q, j, none⟩ u) g b s := by
  obtain ⟨A, c, hb, hC, hc⟩ := h.blk
  exact ⟨⟨A, c, blk_far hb (p := ⟨q, j, none⟩) (blk_ne hb hq (fun e => ht e.symm)) u, hC, hc⟩, h.old.setCell hge u, h.ge, h.len, h.bytes, h.pos⟩

theorem st3 {W : World} {q : Nat} {t : TypeId} {c0 c1 c2 : Value} (h : W.heap[q]? = some (.cells #[c0, c1, c2] t (0, 0))) (d0 d1 d2 : Value) :
    (((W.setCell ⟨q, 0, none⟩ d0).setCell ⟨q, 1, none⟩ d1).setCell ⟨q, 2, none⟩ d2).heap[q]? = some (.cells #[d0, d1, d2] t (0, 0)) :=
  blk_put (blk_put (blk_put h 0 d0 rfl) 1 d1 rfl) 2 d2 rfl
theorem RdAt.far3 {w0 w : World} {g : Nat} {b : List Int} {s : St} (h : RdAt w0 w g b s) {q : Nat} {c0 c1 c2 : Value} {t : TypeId} (hq : w.heap[q]? = some (.cells #[c0, c1, c2] t (0, 0))) (ht : t ≠ 108) (d0 d1 d2 : Value) (hge : w0.heap.size ≤ q) :
    RdAt w0 (((w.setCell ⟨q, 0, none⟩ d0).setCell ⟨q, 1, none⟩ d1).setCell ⟨q, 2, none⟩ d2) g b s :=
  ((h.far hq ht 0 d0 hge).far (blk_put hq 0 d0 rfl) ht 1 d1 hge).far (blk_put (blk_put hq 0 d0 rfl) 1 d1 rfl) ht 2 d2 hge

set_option maxRecDepth 100000 in
set_option maxHeartbeats 1600000 in
theorem c37_gone (w0 : World) (g cr : Nat) (b : List Int) (s : St) (w : World) (hr : RdAt w0 w g b s) (hcr : w.heap[cr]? = some (.cells #[.pointer (some ⟨g, 0, none⟩)] 68 (0, 0))) (hg : (rdFlag b s).1 = true) :
    Calls Try.prog 37 #[.pointer (some ⟨cr, 0, none⟩)] w fun e w' => e = .returned (.agg #[.string (rdText b 16 (rdFlag b s).2).1, .string ⟨#[]⟩, .bool true]) ∧ RdAt w0 w' g b (rdText b 16 (rdFlag b s).2).2 ∧ FrT TR w0.heap.size w w' := by
  have hz := hr.old.size
  have HR := Aside0.mk (hr.alloc (.cells #[.string ⟨#[]⟩, .string ⟨#[]⟩, .bool false] 27))
  have HC := Aside0.mk (blk_alloc hcr (.cells #[.string ⟨#[]⟩, .string ⟨#[]⟩, .bool false] 27))
  have HF := Aside0.mk ((FrT.refl TR w0.heap.size w).alloc hz (.cells #[.string ⟨#[]⟩, .string ⟨#[]⟩, .bool false] 27))
  have q0 : (w.alloc (.cells #[.string ⟨#[]⟩, .string ⟨#[]⟩, .bool false] 27)).cell? ⟨cr, 0, none⟩ = some (.pointer (some ⟨g, 0, none⟩)) := (blk_cell HC.out 0).trans rfl
  have HG := Aside0.mk hg
  have HX := Aside0.mk (blk_new w (.cells #[.string ⟨#[]⟩, .string ⟨#[]⟩, .bool false] 27))
  clear hr hcr hg
  go_enter Try.func37, Try.ntmps37
  go_wp2_with fail
  have hcall := rflag_any w0 g b s _ HR.out
  rw [HG.out] at hcall
  refine hcall.mono ?_
  rintro e w1 ⟨rfl, h1, f1⟩
  have HX1 := Aside0.mk (blk_alloc (f1.blk HX.out (by simp [TR])) (.cells #[.string ⟨#[]⟩, .string ⟨#[]⟩, .bool true] 27))
  have HC1 := Aside0.mk (blk_alloc (f1.blk HC.out (by simp [TR])) (.cells #[.string ⟨#[]⟩, .string ⟨#[]⟩, .bool true] 27))
  have HR1 := Aside0.mk (h1.alloc (.cells #[.string ⟨#[]⟩, .string ⟨#[]⟩, .bool true] 27))
  have HF1 := Aside0.mk ((HF.out.trans f1).alloc (Nat.le_trans hz (Nat.le_trans HF.out.size f1.size)) (.cells #[.string ⟨#[]⟩, .string ⟨#[]⟩, .bool true] 27))
  have HV1 := Aside0.mk (blk_new w1 (.cells #[.string ⟨#[]⟩, .string ⟨#[]⟩, .bool true] 27))
  have l0 : cr < w1.heap.size := blk_lt (f1.blk HC.out (by simp [TR]))
  have l2 : w.heap.size < w1.heap.size := blk_lt (f1.blk HX.out (by simp [TR]))
  have LN := Aside0.mk (Nat.ne_of_lt l2)
  have q1 : w1.cell? ⟨cr, 0, none⟩ = some (.pointer (some ⟨g, 0, none⟩)) := (blk_cell (f1.blk HC.out (by simp [TR])) 0).trans rfl
  clear h1 f1 q0 hcall
  go_wp2_with fail
  generalize w1.alloc (.cells #[.string ⟨#[]⟩, .string ⟨#[]⟩, .bool true] 27) = wa at *
  refine (rtext_any w0 g b 16 _ _ HR1.out (by omega)).mono ?_
  rintro e w2 ⟨rfl, h2, f2⟩
  generalize hE1 : rdText b 16 (rdFlag b s).2 = rk at *
  have HE1 := Aside0.mk hE1
  clear hE1
  have HX2 := Aside0.mk (f2.blk HX1.out (by simp [TR]))
  have HV2 := Aside0.mk (f2.blk HV1.out (by simp [TR]))
  have HC2 := Aside0.mk (f2.blk HC1.out (by simp [TR]))
  have HR2 := Aside0.mk h2
  have HF2 := Aside0.mk (HF1.out.trans f2)
  have v0 : w2.cell? ⟨w1.heap.size, 0, none⟩ = some (.string ⟨#[]⟩) := (blk_cell HV2.out 0).trans rfl
  have v2 : w2.cell? ⟨w1.heap.size, 2, none⟩ = some (.bool true) := (blk_cell HV2.out 2).trans rfl
  have v3 : w2.frozen? ⟨w1.heap.size, 0, none⟩ = false := blk_frozen HV2.out 0
  have HV3 := Aside0.mk (blk_put HV2.out 0 (.string rk.1) rfl)
  have HX3 := Aside0.mk (blk_far HX2.out (p := ⟨w1.heap.size, 0, none⟩) LN.out (.string rk.1))
  have HC3 := Aside0.mk (blk_far HC2.out (p := ⟨w1.heap.size, 0, none⟩) (blk_ne HC2.out HV2.out (by decide)) (.string rk.1))
  have HF3 := Aside0.mk (setNew HF2.out (show w.heap.size ≤ w1.heap.size from Nat.le_of_lt l2) hz 0 (.string rk.1))
  have HR3 := Aside0.mk (HR2.out.far HV2.out (by decide) 0 (.string rk.1))
  have x0 : (w2.setCell ⟨w1.heap.size, 0, none⟩ (.string rk.1)).cell? ⟨w1.heap.size, 0, none⟩ = some (.string rk.1) := (blk_cell HV3.out 0).trans rfl
  have x1 : (w2.setCell ⟨w1.heap.size, 0, none⟩ (.string rk.1)).cell? ⟨w1.heap.size, 1, none⟩ = some (.string ⟨#[]⟩) := (blk_cell HV3.out 1).trans rfl
  have x2 : (w2.setCell ⟨w1.heap.size, 0, none⟩ (.string rk.1)).cell? ⟨w1.heap.size, 2, none⟩ = some (.bool true) := (blk_cell HV3.out 2).trans rfl
  clear h2 f2 q1
  have y0 : (w2.setCell ⟨w1.heap.size, 0, none⟩ (.string rk.1)).cell? ⟨w.heap.size, 0, none⟩ = some (.string ⟨#[]⟩) := (blk_cell HX3.out 0).trans rfl
  have y1 : (w2.setCell ⟨w1.heap.size, 0, none⟩ (.string rk.1)).cell? ⟨w.heap.size, 1, none⟩ = some (.string ⟨#[]⟩) := (blk_cell HX3.out 1).trans rfl
  have y2 : (w2.setCell ⟨w1.heap.size, 0, none⟩ (.string rk.1)).cell? ⟨w.heap.size, 2, none⟩ = some (.bool false) := (blk_cell HX3.out 2).trans rfl
  have z0 : (w2.setCell ⟨w1.heap.size, 0, none⟩ (.string rk.1)).frozen? ⟨w.heap.size, 0, none⟩ = false := blk_frozen HX3.out 0
  have z1 : (w2.setCell ⟨w1.heap.size, 0, none⟩ (.string rk.1)).frozen? ⟨w.heap.size, 1, none⟩ = false := blk_frozen HX3.out 1
  have z2 : (w2.setCell ⟨w1.heap.size, 0, none⟩ (.string rk.1)).frozen? ⟨w.heap.size, 2, none⟩ = false := blk_frozen HX3.out 2
  go_wp2_with fail
  have HX6 := Aside0.mk (st3 HX3.out (.string rk.1) (.string ⟨#[]⟩) (.bool true))
  have HR6 := Aside0.mk (HR3.out.far3 HX3.out (by decide) (.string rk.1) (.string ⟨#[]⟩) (.bool true) hz)
  have HF6 := Aside0.mk (setNew (setNew (setNew HF3.out (Nat.le_refl _) hz 0 (.string rk.1)) (Nat.le_refl _) hz 1 (.string ⟨#[]⟩)) (Nat.le_refl _) hz 2 (.bool true))
  generalize ((((w2.setCell ⟨w1.heap.size, 0, none⟩ (.string rk.1)).setCell ⟨w.heap.size, 0, none⟩ (.string rk.1)).setCell ⟨w.heap.size, 1, none⟩ (.string ⟨#[]⟩)).setCell ⟨w.heap.size, 2, none⟩ (.bool true)) = w6 at *
  have c0 : w6.cell? ⟨w.heap.size, 0, none⟩ = some (.string rk.1) := (blk_cell HX6.out 0).trans rfl
  have c1 : w6.cell? ⟨w.heap.size, 1, none⟩ = some (.string ⟨#[]⟩) := (blk_cell HX6.out 1).trans rfl
  have c2 : w6.cell? ⟨w.heap.size, 2, none⟩ = some (.bool true) := (blk_cell HX6.out 2).trans rfl
  exact bodyPost_ret (v := .agg #[.string rk.1, .string ⟨#[]⟩, .bool true]) (by simp [results, Try.results37, go_sem, c0, c1, c2]) rfl ⟨by rw [HE1.out], by rw [HE1.out]; exact HR6.out, HF6.out⟩

set_option maxRecDepth 100000 in
set_option maxHeartbeats 1600000 in
theorem c37_kept (w0 : World) (g cr : Nat) (b : List Int) (s : St) (w : World) (hr : RdAt w0 w g b s) (hcr : w.heap[cr]? = some (.cells #[.pointer (some ⟨g, 0, none⟩)] 68 (0, 0))) (hg : (rdFlag b s).1 = false) :
    Calls Try.prog 37 #[.pointer (some ⟨cr, 0, none⟩)] w fun e w' => e = .returned (.agg #[.string (rdText b 16 (rdFlag b s).2).1, .string (rdText b 64 (rdText b 16 (rdFlag b s).2).2).1, .bool false]) ∧ RdAt w0 w' g b (rdText b 64 (rdText b 16 (rdFlag b s).2).2).2 ∧ FrT TR w0.heap.size w w' := by
  have hz := hr.old.size
  have HR := Aside0.mk (hr.alloc (.cells #[.string ⟨#[]⟩, .string ⟨#[]⟩, .bool false] 27))
  have HC := Aside0.mk (blk_alloc hcr (.cells #[.string ⟨#[]⟩, .string ⟨#[]⟩, .bool false] 27))
  have HF := Aside0.mk ((FrT.refl TR w0.heap.size w).alloc hz (.cells #[.string ⟨#[]⟩, .string ⟨#[]⟩, .bool false] 27))
  have q0 : (w.alloc (.cells #[.string ⟨#[]⟩, .string ⟨#[]⟩, .bool false] 27)).cell? ⟨cr, 0, none⟩ = some (.pointer (some ⟨g, 0, none⟩)) := (blk_cell HC.out 0).trans rfl
  have HG := Aside0.mk hg
  have HX := Aside0.mk (blk_new w (.cells #[.string ⟨#[]⟩, .string ⟨#[]⟩, .bool false] 27))
  clear hr hcr hg
  go_enter Try.func37, Try.ntmps37
  go_wp2_with fail
  have hcall := rflag_any w0 g b s _ HR.out
  rw [HG.out] at hcall
  refine hcall.mono ?_
  rintro e w1 ⟨rfl, h1, f1⟩
  have HX1 := Aside0.mk (blk_alloc (f1.blk HX.out (by simp [TR])) (.cells #[.string ⟨#[]⟩, .string ⟨#[]⟩, .bool false] 27))
  have HC1 := Aside0.mk (blk_alloc (f1.blk HC.out (by simp [TR])) (.cells #[.string ⟨#[]⟩, .string ⟨#[]⟩, .bool false] 27))
  have HR1 := Aside0.mk (h1.alloc (.cells #[.string ⟨#[]⟩, .string ⟨#[]⟩, .bool false] 27))
  have HF1 := Aside0.mk ((HF.out.trans f1).alloc (Nat.le_trans hz (Nat.le_trans HF.out.size f1.size)) (.cells #[.string ⟨#[]⟩, .string ⟨#[]⟩, .bool false] 27))
  have HV1 := Aside0.mk (blk_new w1 (.cells #[.string ⟨#[]⟩, .string ⟨#[]⟩, .bool false] 27))
  have l0 : cr < w1.heap.size := blk_lt (f1.blk HC.out (by simp [TR]))
  have l2 : w.heap.size < w1.heap.size := blk_lt (f1.blk HX.out (by simp [TR]))
  have LN := Aside0.mk (Nat.ne_of_lt l2)
  have q1 : w1.cell? ⟨cr, 0, none⟩ = some (.pointer (some ⟨g, 0, none⟩)) := (blk_cell (f1.blk HC.out (by simp [TR])) 0).trans rfl
  clear h1 f1 q0 hcall
  go_wp2_with fail
  generalize w1.alloc (.cells #[.string ⟨#[]⟩, .string ⟨#[]⟩, .bool false] 27) = wa at *
  refine (rtext_any w0 g b 16 _ _ HR1.out (by omega)).mono ?_
  rintro e w2 ⟨rfl, h2, f2⟩
  generalize hE1 : rdText b 16 (rdFlag b s).2 = rk at *
  have HE1 := Aside0.mk hE1
  clear hE1
  have HX2 := Aside0.mk (f2.blk HX1.out (by simp [TR]))
  have HV2 := Aside0.mk (f2.blk HV1.out (by simp [TR]))
  have HC2 := Aside0.mk (f2.blk HC1.out (by simp [TR]))
  have HR2 := Aside0.mk h2
  have HF2 := Aside0.mk (HF1.out.trans f2)
  have v0 : w2.cell? ⟨w1.heap.size, 0, none⟩ = some (.string ⟨#[]⟩) := (blk_cell HV2.out 0).trans rfl
  have v2 : w2.cell? ⟨w1.heap.size, 2, none⟩ = some (.bool false) := (blk_cell HV2.out 2).trans rfl
  have v3 : w2.frozen? ⟨w1.heap.size, 0, none⟩ = false := blk_frozen HV2.out 0
  have HV3 := Aside0.mk (blk_put HV2.out 0 (.string rk.1) rfl)
  have HX3 := Aside0.mk (blk_far HX2.out (p := ⟨w1.heap.size, 0, none⟩) LN.out (.string rk.1))
  have HC3 := Aside0.mk (blk_far HC2.out (p := ⟨w1.heap.size, 0, none⟩) (blk_ne HC2.out HV2.out (by decide)) (.string rk.1))
  have HF3 := Aside0.mk (setNew HF2.out (show w.heap.size ≤ w1.heap.size from Nat.le_of_lt l2) hz 0 (.string rk.1))
  have HR3 := Aside0.mk (HR2.out.far HV2.out (by decide) 0 (.string rk.1))
  have x0 : (w2.setCell ⟨w1.heap.size, 0, none⟩ (.string rk.1)).cell? ⟨w1.heap.size, 0, none⟩ = some (.string rk.1) := (blk_cell HV3.out 0).trans rfl
  have x1 : (w2.setCell ⟨w1.heap.size, 0, none⟩ (.string rk.1)).cell? ⟨w1.heap.size, 1, none⟩ = some (.string ⟨#[]⟩) := (blk_cell HV3.out 1).trans rfl
  have x2 : (w2.setCell ⟨w1.heap.size, 0, none⟩ (.string rk.1)).cell? ⟨w1.heap.size, 2, none⟩ = some (.bool false) := (blk_cell HV3.out 2).trans rfl
  clear h2 f2 q1
  have x3 : (w2.setCell ⟨w1.heap.size, 0, none⟩ (.string rk.1)).cell? ⟨cr, 0, none⟩ = some (.pointer (some ⟨g, 0, none⟩)) := (blk_cell HC3.out 0).trans rfl
  go_wp2_with fail
  generalize w2.setCell ⟨w1.heap.size, 0, none⟩ (.string rk.1) = w3 at *
  clear v0 v2 v3
  refine (rtext_any w0 g b 64 _ _ HR3.out (by omega)).mono ?_
  rintro e w4 ⟨rfl, h4, f4⟩
  generalize hE2 : rdText b 64 rk.2 = rv at *
  have HE2 := Aside0.mk hE2
  clear hE2
  have HX4 := Aside0.mk (f4.blk HX3.out (by simp [TR]))
  have HV4 := Aside0.mk (f4.blk HV3.out (by simp [TR]))
  have HR4 := Aside0.mk h4
  have HF4 := Aside0.mk (HF3.out.trans f4)
  have v0 : w4.cell? ⟨w1.heap.size, 1, none⟩ = some (.string ⟨#[]⟩) := (blk_cell HV4.out 1).trans rfl
  have v3 : w4.frozen? ⟨w1.heap.size, 1, none⟩ = false := blk_frozen HV4.out 1
  have HV5 := Aside0.mk (blk_put HV4.out 1 (.string rv.1) rfl)
  have HX5 := Aside0.mk (blk_far HX4.out (p := ⟨w1.heap.size, 1, none⟩) LN.out (.string rv.1))
  have HF5 := Aside0.mk (setNew HF4.out (show w.heap.size ≤ w1.heap.size from Nat.le_of_lt l2) hz 1 (.string rv.1))
  have HR5 := Aside0.mk (HR4.out.far HV4.out (by decide) 1 (.string rv.1))
  clear x0 x1 x2 x3 h4 f4
  have x0 : (w4.setCell ⟨w1.heap.size, 1, none⟩ (.string rv.1)).cell? ⟨w1.heap.size, 0, none⟩ = some (.string rk.1) := (blk_cell HV5.out 0).trans rfl
  have x1 : (w4.setCell ⟨w1.heap.size, 1, none⟩ (.string rv.1)).cell? ⟨w1.heap.size, 1, none⟩ = some (.string rv.1) := (blk_cell HV5.out 1).trans rfl
  have x2 : (w4.setCell ⟨w1.heap.size, 1, none⟩ (.string rv.1)).cell? ⟨w1.heap.size, 2, none⟩ = some (.bool false) := (blk_cell HV5.out 2).trans rfl
  have y0 : (w4.setCell ⟨w1.heap.size, 1, none⟩ (.string rv.1)).cell? ⟨w.heap.size, 0, none⟩ = some (.string ⟨#[]⟩) := (blk_cell HX5.out 0).trans rfl
  have y1 : (w4.setCell ⟨w1.heap.size, 1, none⟩ (.string rv.1)).cell? ⟨w.heap.size, 1, none⟩ = some (.string ⟨#[]⟩) := (blk_cell HX5.out 1).trans rfl
  have y2 : (w4.setCell ⟨w1.heap.size, 1, none⟩ (.string rv.1)).cell? ⟨w.heap.size, 2, none⟩ = some (.bool false) := (blk_cell HX5.out 2).trans rfl
  have z0 : (w4.setCell ⟨w1.heap.size, 1, none⟩ (.string rv.1)).frozen? ⟨w.heap.size, 0, none⟩ = false := blk_frozen HX5.out 0
  have z1 : (w4.setCell ⟨w1.heap.size, 1, none⟩ (.string rv.1)).frozen? ⟨w.heap.size, 1, none⟩ = false := blk_frozen HX5.out 1
  have z2 : (w4.setCell ⟨w1.heap.size, 1, none⟩ (.string rv.1)).frozen? ⟨w.heap.size, 2, none⟩ = false := blk_frozen HX5.out 2
  go_wp2_with fail
  have HX6 := Aside0.mk (st3 HX5.out (.string rk.1) (.string rv.1) (.bool false))
  have HR6 := Aside0.mk (HR5.out.far3 HX5.out (by decide) (.string rk.1) (.string rv.1) (.bool false) hz)
  have HF6 := Aside0.mk (setNew (setNew (setNew HF5.out (Nat.le_refl _) hz 0 (.string rk.1)) (Nat.le_refl _) hz 1 (.string rv.1)) (Nat.le_refl _) hz 2 (.bool false))
  generalize ((((w4.setCell ⟨w1.heap.size, 1, none⟩ (.string rv.1)).setCell ⟨w.heap.size, 0, none⟩ (.string rk.1)).setCell ⟨w.heap.size, 1, none⟩ (.string rv.1)).setCell ⟨w.heap.size, 2, none⟩ (.bool false)) = w6 at *
  have c0 : w6.cell? ⟨w.heap.size, 0, none⟩ = some (.string rk.1) := (blk_cell HX6.out 0).trans rfl
  have c1 : w6.cell? ⟨w.heap.size, 1, none⟩ = some (.string rv.1) := (blk_cell HX6.out 1).trans rfl
  have c2 : w6.cell? ⟨w.heap.size, 2, none⟩ = some (.bool false) := (blk_cell HX6.out 2).trans rfl
  exact bodyPost_ret (v := .agg #[.string rk.1, .string rv.1, .bool false]) (by simp [results, Try.results37, go_sem, c0, c1, c2]) rfl ⟨by rw [HE1.out, HE2.out], by rw [HE1.out, HE2.out]; exact HR6.out, HF6.out⟩

end Go.Proofs.Ytmemkmnnededgaa.H
