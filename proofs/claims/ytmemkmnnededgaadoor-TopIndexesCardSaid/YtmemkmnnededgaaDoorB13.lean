/- Contract: a new hash table. -/
import Derived.Test.YtmemkmnnededgaaDoorB12
namespace Go.Proofs.YtmemkmnnededgaaDoor.H
open Go.RowKit Go.Proofs.YtmemkmnnededgaaDoorW.PrintWords Go.Proofs.YtmemkmnnededgaaDoorW.PrintLast Go.Proofs.YtmemkmnnededgaaDoorW.PrintMore
attribute [local go_sem] max2_int min2_int max_two min_two max_three min_three max_four min_four
set_option linter.unusedVariables false
set_option linter.unusedSimpArgs false

/-- Cells cs are newly taken, and hold 0. -/
structure Fresh (a a' : Ar) (cs : List Nat) : Prop where
  nodup : cs.Nodup
  new : ∀ c, c ∈ cs → a.tk c = false
  tk : ∀ d, a'.tk d = (decide (d ∈ cs) || a.tk d)
  val : ∀ d, a.tk d = true → a'.val d = a.val d
  zero : ∀ c, c ∈ cs → a'.val c = 0
theorem Fresh.none (a : Ar) : Fresh a a [] := ⟨by simp, by simp, by simp, fun _ _ => rfl, by simp⟩
theorem Fresh.add {a a' a2 : Ar} {cs : List Nat} {c : Nat} (h : Fresh a a' cs) (h1 : a'.tk c = false) (h2 : ∀ d, a2.tk d = (d == c || a'.tk d)) (h3 : ∀ d, a'.tk d = true → a2.val d = a'.val d) (h4 : a2.val c = 0) : Fresh a a2 (cs ++ [c]) := by
  have hc : c ∉ cs ∧ a.tk c = false := by
    have := h.tk c
    rw [h1] at this
    have h5 := this.symm
    simp at h5
    exact h5
  refine ⟨?_, ?_, ?_, ?_, ?_⟩
  · rw [List.nodup_append]
    refine ⟨h.nodup, by simp, ?_⟩
    intro x hx y hy e
    simp at hy
    subst hy
    exact hc.1 (e ▸ hx)
  · intro d hd
    rcases List.mem_append.1 hd with hd | hd
    · exact h.new d hd
    · simp at hd
      rw [hd]; exact hc.2
  · intro d
    rw [h2, h.tk, Bool.eq_iff_iff]
    simp
    constructor
    · rintro (h | h | h) <;> simp_all
    · rintro ((h | h) | h) <;> simp_all
  · intro d hd
    rw [h3 d (by rw [h.tk, hd]; simp), h.val d hd]
  · intro d hd
    rcases List.mem_append.1 hd with hd | hd
    · rw [h3 d (by rw [h.tk]; simp [hd]), h.zero d hd]
    · simp at hd
      rw [hd]; exact h4
theorem FrT.set_new {T : List TypeId} {B : Nat} {w w1 : World} (h : FrT T B w w1) {g : Nat} (hg : w.heap.size ≤ g) (hB : B ≤ w.heap.size) (j : Nat) (u : Value) : FrT T B w (w1.setCell ⟨g, j, none⟩ u) :=
  ⟨h.below.setCell (Nat.le_trans hB hg) u, fun b cs t fr hb ht => by
    rw [Below.heap_setCell _ _ _ _ (fun e => ?_)]
    · exact h.kept b cs t fr hb ht
    · have := blk_lt hb
      simp at e
      omega⟩
theorem info3 : (Tryd.prog.info? 3).map (fun i => (i.zero, i.size, i.bytes)) = some (some (.int .i64 0), 1, 8) := by kernel_rfl

set_option maxRecDepth 100000 in
set_option maxHeartbeats 6400000 in
theorem new_any (B k n : Nat) (w : World) (ga : Nat) (a : Ar) (har : ArAt B w ga a) (hw : a.Wf k) (hk : k + n < 1980) (hn1 : 1 ≤ n) (hn2 : n ≤ 256) (hT : TabAt 0 Lib.deBruijn64tab w) (hB : 0 < B) :
    Calls Tryd.prog 5 #[.pointer (some ⟨ga, 0, none⟩), .int .i64 n] w fun e w' => ∃ (cs : List Nat) (a' : Ar), e = .returned (.tuple #[.pointer (some ⟨w.heap.size, 0, none⟩), .int .i64 0]) ∧ cs.length = n ∧ HtAt B w' w.heap.size ga cs [] ∧ ArAt B w' ga a' ∧ a'.Wf (k + n) ∧ Fresh a a' cs ∧ FrT TA B w w' := by
  have HAR := Aside0.mk har
  have HW := Aside0.mk hw
  have HK := Aside0.mk hk
  have HN := Aside0.mk (And.intro hn1 hn2)
  have HT := Aside0.mk hT
  have HB := Aside0.mk hB
  have hz : B ≤ w.heap.size := Nat.le_trans har.ge (Nat.le_of_lt har.lt)
  have HZ := Aside0.mk hz
  have g1 : ¬ ((n : Int) < 1) := by omega
  have g2 : ¬ ((256 : Int) < (n : Int)) := by omega
  clear har hw hk hn1 hT hB hz
  go_enter Tryd.func5, Tryd.ntmps5
  go_wp2_with fail
  have HA0 := Aside0.mk (HAR.out.below (below_alloc (Below.refl w.heap.size w) (.cells #[.pointer (some ⟨ga, 0, none⟩), .slice none 0 0, .slice none 0 0] 55)))
  have HX0 := Aside0.mk (blk_new w (.cells #[.pointer (some ⟨ga, 0, none⟩), .slice none 0 0, .slice none 0 0] 55))
  have HF0 := Aside0.mk ((FrT.refl TA B w).alloc HZ.out (.cells #[.pointer (some ⟨ga, 0, none⟩), .slice none 0 0, .slice none 0 0] 55))
  go_loopw [23] (fun v23 w' => ∃ (i : Nat) (cs : List Nat) (a' : Ar) (hv : Value), v23 = .int .i64 i ∧ i ≤ n ∧ Aside0 (cs.length = i) ∧ Aside0 (w'.heap[w.heap.size]? = some (.cells #[.pointer (some ⟨ga, 0, none⟩), hv, .slice none 0 0] 55 (0, 0))) ∧ Aside0 ((Kd.int .i64).R 3 w' w.heap.size (fun _ => True) hv (ints cs)) ∧ Aside0 (ArAt B w' ga a') ∧ Aside0 (a'.Wf (k + i)) ∧ Aside0 (Fresh a a' cs) ∧ Aside0 (FrT TA B w w')) (fun v23 _ => n - (intOf v23).toNat)
  case atStart => exact ⟨0, [], a, .slice none 0 0, rfl, by omega, ⟨rfl⟩, HX0, ⟨Kd.R_nil _ _ _ _ _⟩, HA0, HW, ⟨Fresh.none a⟩, HF0⟩
  case round =>
    obtain ⟨i, cs, a1, hv, rfl, hi, HL, HX, HR, HA, HWF, HFR, HF⟩ := hrel
    by_cases hin : i = n
    · subst hin
      go_wp2_with fail
      go_ret2
      exact ⟨_, _, rfl, HL.out, ⟨HZ.out, _, _, HX.out, Kd.R_lower HR.out HZ.out, Kd.R_nil _ _ _ _ _⟩, HA.out, HWF.out, HFR.out, HF.out⟩
    · have hlt : i < n := by omega
      have HT1 := Aside0.mk (show TabAt 0 Lib.deBruijn64tab wr from fun j hj => (HF.out.cell (p := ⟨0, j, none⟩) HB.out).trans (HT.out j hj))
      have HCALL := Aside0.mk (alloc_any B ga (k + i) a1 wr HA.out HWF.out (by have := HK.out; omega) HT1.out HB.out)
      go_wp2_with fail
      refine HCALL.out.mono ?_
      rintro e w1 ⟨c, a2, rfl, ha, hwf, t1, t2, t3, t4, hf⟩
      have HA1 := Aside0.mk ha
      have HW1 := Aside0.mk hwf
      have HFR1 := Aside0.mk (HFR.out.add t1 t2 t3 t4)
      have HX1 := Aside0.mk (hf.blk HX.out (by simp [TA]))
      have HR1 := Aside0.mk (hf.R_lives HR.out (by simp [TA, Kd.int, Kd.scalar]))
      have HF1 := Aside0.mk (HF.out.trans hf)
      have HIL := Aside0.mk (show (ints cs).length = i by simp [ints, HL.out])
      clear ha hwf t1 t2 t3 t4 hf HCALL
      have c1 : w1.cell? ⟨w.heap.size, 1, none⟩ = some hv := (blk_cell HX1.out 1).trans rfl
      have f1 := blk_frozen HX1.out 1
      have hIL := HIL.out
      go_wp2_with (at_builtin; go_must (refine Kd.R_append (Kd.int .i64) (w0 := w1) w.heap.size rfl (.tmp 50) (.tmp 52) 23 3 (.int .i64 0) 8 rfl Tryd.underlying23 info3 rfl (by decide) (by decide) _ (ints cs) (c : Int) [.int .i64 (c : Int)] (fun _ => True) (fun _ => False) rfl rfl rfl (fun _ hk => hk.elim) (fun _ _ => trivial) HR1.out (Below.refl _ _) HF1.out.size (by omega) ?_; intro v1 w5 ho hb hg hat; obtain ⟨A1, q1, rfl⟩ : ∃ A q, v1 = .slice A (i + 1) q := (by obtain ⟨A, q, e⟩ := Kd.R_slice ho; exact ⟨A, q, by rw [e, List.length_append, HIL.out]; rfl⟩); have HR5 := Aside0.mk ho; have HA5 := Aside0.mk (HA1.out.grown HR1.out hg (by decide) (by decide)); have HF5 := Aside0.mk (HF1.out.grown_new HR1.out (Nat.le_refl _) HZ.out hg); have HX5 := Aside0.mk (blk_grown HX1.out hg (own_ne (Kd.R_own HR1.out).choose_spec HX1.out (by decide))); clear ho hb hg hat; clear c1 f1; have f5 := blk_frozen HX5.out 1; have c5 : w5.cell? ⟨w.heap.size, 1, none⟩ = some hv := (blk_cell HX5.out 1).trans rfl))
      refine ⟨⟨i + 1, cs ++ [c], a2, _, by go_num, by omega, ⟨by simp [HL.out]⟩, ⟨blk_put HX5.out 1 (.slice A1 (i + 1) q1) rfl⟩, ⟨?_⟩, ⟨?_⟩, HW1, HFR1, ⟨HF5.out.set_new (Nat.le_refl _) HZ.out 1 (.slice A1 (i + 1) q1)⟩⟩, by simp [intOf]; omega⟩
      · have := Kd.R_set HR5.out HX5.out (by simp [Kd.int, Kd.scalar]) 1 (.slice A1 (i + 1) q1)
        simpa [ints] using this
      · exact HA5.out.kept ((FrT.refl [55] B w5).setCell HX5.out (by simp) HZ.out 1 (.slice A1 (i + 1) q1)) (by simp) (by simp)
end Go.Proofs.YtmemkmnnededgaaDoor.H
