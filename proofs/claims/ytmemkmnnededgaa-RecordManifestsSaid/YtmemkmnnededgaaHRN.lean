/- The law RecordManifests, walked: it returns true at any manifest whose pairs take at most the form's own reach. -/
import Derived.Test.YtmemkmnnededgaaHRM
import Derived.Test.YtmemkmnnededgaaHZ
namespace Go.Proofs.Ytmemkmnnededgaa.H
open Go.RowKit Go.Proofs.YtmemkmnnededgaaW.PrintWords Go.Proofs.YtmemkmnnededgaaW.PrintLast Go.Proofs.YtmemkmnnededgaaW.PrintMore
attribute [local go_sem] max2_int min2_int max_two min_two max_three min_three max_four min_four
set_option linter.unusedVariables false
set_option linter.unusedSimpArgs false

theorem R_new43 (W : World) (base B : Nat) (hB : B = W.heap.size) (hb : base ≤ W.heap.size) : k43.R 43 (W.alloc (.cells #[] 43)) base (fun _ => True) (.slice (some ⟨B, 0, none⟩) 0 0) [] := by
  subst hB
  have h2 := World.ownsRow_lit (base := base) (e := 43) (size := 3) W #[] 0 hb (by decide) rfl
  exact ⟨fun _ _ => trivial, [], h2, ⟨rfl, fun j p hj => by simp at hj⟩⟩
theorem info43' : (Try.prog.info? 43).map (fun i => (i.zero, i.size, i.bytes)) = some (some (.agg #[.int .i64 0, .int .i64 0, .int .i64 0]), 3, 24) := by kernel_rfl

set_option maxRecDepth 100000 in
set_option maxHeartbeats 6400000 in
theorem recordManifests_any (t g : Int) (l : List P43) (A : Option Addr) (c : Nat) (w : World) (hr : k43.C w A l.length l) (hwf : ∀ x ∈ l, (Lit.int .i64 x.num).wf = true) (hby : l.length * 24 ≤ 140737488351232) :
    Calls Try.prog 5 #[.agg #[.int .i64 t, .int .i64 g, .slice A l.length c]] w fun e w' => e = .returned (.bool true) ∧ Below w.heap.size w w' := by
  have HR := Aside0.mk hr
  have HWF := Aside0.mk hwf
  have HBY := Aside0.mk hby
  have HN := Aside0.mk (show l.length < 9223372036854775807 by omega)
  have HB := Aside0.mk (below_alloc (Below.refl w.heap.size w) (.cells #[.int .i64 t, .int .i64 g, .slice A l.length c] 38))
  have HX := Aside0.mk (blk_new w (.cells #[.int .i64 t, .int .i64 g, .slice A l.length c] 38))
  clear hr hwf hby
  go_enter Try.func5, Try.ntmps5
  go_wp2_with fail
  generalize w.alloc (.cells #[.int .i64 t, .int .i64 g, .slice A l.length c] 38) = w1 at *
  refine (shown_any w1).mono ?_
  rintro e w2 ⟨rfl, hb⟩
  have HB2 := Aside0.mk (below_then HB.out HB.out.size hb)
  have HX2 := Aside0.mk (blk_below HX.out hb)
  clear hb HB HX
  have x0 : w2.cell? ⟨w.heap.size, 0, none⟩ = some (.int .i64 t) := (blk_cell HX2.out 0).trans rfl
  have x1 : w2.cell? ⟨w.heap.size, 1, none⟩ = some (.int .i64 g) := (blk_cell HX2.out 1).trans rfl
  have x2 : w2.cell? ⟨w.heap.size, 2, none⟩ = some (.slice A l.length c) := (blk_cell HX2.out 2).trans rfl
  have y2 : ((w2.alloc (.cells #[.int .i64 t, .int .i64 g, .slice A l.length c] 38)).alloc (.cells #[] 43)).cell? ⟨w.heap.size, 2, none⟩ = some (.slice A l.length c) := (blk_cell (blk_alloc (blk_alloc HX2.out _) _) 2).trans rfl
  have HB3 := Aside0.mk (below_alloc (below_alloc HB2.out (.cells #[.int .i64 t, .int .i64 g, .slice A l.length c] 38)) (.cells #[] 43))
  have HX3 := Aside0.mk (blk_alloc (blk_alloc HX2.out (.cells #[.int .i64 t, .int .i64 g, .slice A l.length c] 38)) (.cells #[] 43))
  have HQ3 := Aside0.mk (blk_alloc (blk_new w2 (.cells #[.int .i64 t, .int .i64 g, .slice A l.length c] 38)) (.cells #[] 43))
  have hlq : w.heap.size < w2.heap.size := blk_lt HX2.out
  have HLQ := Aside0.mk hlq
  have HO3 := Aside0.mk (R_new43 (w2.alloc (.cells #[.int .i64 t, .int .i64 g, .slice A l.length c] 38)) w.heap.size (w2.heap.size + 1) (size_alloc _ _).symm (by rw [size_alloc]; omega))
  go_wp2_with (at_builtin; go_must (refine Kd.R_append_rows k43 (w0 := w) w.heap.size rfl (.tmp 12) (.tmp 14) 36 43 (.agg #[.int .i64 0, .int .i64 0, .int .i64 0]) 24 rfl Try.underlying36 info43' rfl (by decide) (by decide) _ ([] : List P43) l _ _ _ (fun _ => True) (fun _ => False) rfl rfl HO3.out (Kd.C_below HR.out HB3.out) (fun _ _ h => h) (fun _ h => h.elim) (fun _ _ => trivial) HB3.out HB3.out.size (by have := HBY.out; simp; omega) ?_; intro v4 w4 ho hb hg hat; have HB4 := Aside0.mk hb; have HX4 := Aside0.mk (blk_grown HX3.out hg (Kd.R_ne HO3.out HX3.out (by decide))); have HQ4 := Aside0.mk (blk_grown HQ3.out hg (Kd.R_ne HO3.out HQ3.out (by decide))); have HO4 := Aside0.mk ho; obtain ⟨A4, c4, rfl⟩ := Kd.R_slice ho; have f4 := blk_frozen HQ4.out 2; have c4_ : w4.cell? ⟨w2.heap.size, 2, none⟩ = some (.slice A l.length c) := (blk_cell HQ4.out 2).trans rfl; have d0 : w4.cell? ⟨w2.heap.size, 0, none⟩ = some (.int .i64 t) := (blk_cell HQ4.out 0).trans rfl; have d1 : w4.cell? ⟨w2.heap.size, 1, none⟩ = some (.int .i64 g) := (blk_cell HQ4.out 1).trans rfl; clear ho hb hg hat))
  have HO5 := Aside0.mk (show k43.R 43 w4 w.heap.size (fun _ => True) (.slice A4 l.length c4) l from HO4.out)
  have HQ5 := Aside0.mk (blk_put HQ4.out 2 (.slice A4 l.length c4) rfl)
  have HX5 := Aside0.mk (blk_far HX4.out (p := ⟨w2.heap.size, 2, none⟩) (Nat.ne_of_lt HLQ.out) (.slice A4 l.length c4))
  have HC5 := Aside0.mk (Kd.R_reads' (Kd.R_set HO5.out HQ4.out (by simp [k43, Kd.iso, Kd.pair, Kd.int, Kd.scalar]) 2 (.slice A4 l.length c4))).2.2
  have HB5 := Aside0.mk (Below.setCell HB4.out (p := ⟨w2.heap.size, 2, none⟩) (Nat.le_of_lt HLQ.out) (.slice A4 l.length c4))
  clear HQ4 HX4 HO4 HB4 HO5 f4 c4_ d0 d1 x0 x1 x2 y2 HB2 HX2 HB3 HX3 HQ3 HO3
  generalize w4.setCell ⟨w2.heap.size, 2, none⟩ (.slice A4 l.length c4) = w5 at *
  generalize w2.heap.size = q at *
  refine (putManifest_any t g l A4 c4 w5 HC5.out HWF.out).mono ?_
  rintro e w6 ⟨v6, rfl, ho, hb⟩
  have HB6 := Aside0.mk (below_then HB5.out HB5.out.size hb)
  have HQ6 := Aside0.mk (blk_below HQ5.out hb)
  have HX6 := Aside0.mk (blk_below HX5.out hb)
  have HC6 := Aside0.mk (Kd.C_below HC5.out hb)
  obtain ⟨A6, c6, rfl⟩ := Kd.R_slice ho
  have HO6 := Aside0.mk (Kd.R_reads' ho).2.2
  generalize hpc : putM t g l = pc at *
  have HPC := Aside0.mk hpc
  obtain ⟨pb, pe⟩ := pc
  dsimp only at HO6
  clear HB5 HQ5 HX5 HC5 ho hb hpc
  dsimp only
  have x0 : w6.cell? ⟨w.heap.size, 0, none⟩ = some (.int .i64 t) := (blk_cell HX6.out 0).trans rfl
  have x1 : w6.cell? ⟨w.heap.size, 1, none⟩ = some (.int .i64 g) := (blk_cell HX6.out 1).trans rfl
  have x2 : w6.cell? ⟨w.heap.size, 2, none⟩ = some (.slice A l.length c) := (blk_cell HX6.out 2).trans rfl
  go_wp2_with fail
  refine (refPutManifest_any t g l A c w6 (Kd.C_below HR.out HB6.out) HN.out).mono ?_
  rintro e w7 ⟨v7, rfl, ho, hb⟩
  rw [HPC.out] at ho ⊢
  have HB7 := Aside0.mk (below_then HB6.out HB6.out.size hb)
  have HQ7 := Aside0.mk (blk_below HQ6.out hb)
  have HX7 := Aside0.mk (blk_below HX6.out hb)
  have HC7 := Aside0.mk (Kd.C_below HC6.out hb)
  have HO7 := Aside0.mk (Kd.C_below HO6.out hb)
  obtain ⟨A7, c7, rfl⟩ := Kd.R_slice ho
  have HP7 := Aside0.mk (Kd.R_reads' ho).2.2
  clear ho hb x0 x1 x2 HB6 HQ6 HX6 HC6 HO6
  dsimp only at HP7 ⊢
  have x0 : w7.cell? ⟨w.heap.size, 0, none⟩ = some (.int .i64 t) := (blk_cell HX7.out 0).trans rfl
  have x1 : w7.cell? ⟨w.heap.size, 1, none⟩ = some (.int .i64 g) := (blk_cell HX7.out 1).trans rfl
  have x2 : w7.cell? ⟨w.heap.size, 2, none⟩ = some (.slice A l.length c) := (blk_cell HX7.out 2).trans rfl
  have q0 : w7.cell? ⟨q, 0, none⟩ = some (.int .i64 t) := (blk_cell HQ7.out 0).trans rfl
  have q1 : w7.cell? ⟨q, 1, none⟩ = some (.int .i64 g) := (blk_cell HQ7.out 1).trans rfl
  have q2 : w7.cell? ⟨q, 2, none⟩ = some (.slice A4 l.length c4) := (blk_cell HQ7.out 2).trans rfl
  go_wp2_with fail
  clear x0 x1 x2 q0 q1 q2
  refine (same16_true t g l A4 A c4 c w7 HC7.out (Kd.C_below HR.out HB7.out) HN.out).mono ?_
  rintro e w8 ⟨rfl, hb⟩
  have HB8 := Aside0.mk (below_then HB7.out HB7.out.size hb)
  have s1 := Kd.C_string (dst := 9) Try.underlying28 Try.underlying5 Try.underlying9 (c := c6) (Kd.C_below HO7.out hb)
  have s2 := Kd.C_string (dst := 9) Try.underlying28 Try.underlying5 Try.underlying9 (c := c7) (Kd.C_below HP7.out hb)
  clear hb HB7 HQ7 HX7 HC7 HO7 HP7
  go_wp2_with fail
  go_ret
  exact ⟨rfl, HB8.out⟩
end Go.Proofs.Ytmemkmnnededgaa.H
