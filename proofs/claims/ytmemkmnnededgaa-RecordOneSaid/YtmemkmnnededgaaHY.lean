/- The law RecordOne, walked: it returns true at any bytes. -/
import Derived.Test.YtmemkmnnededgaaHXB
import Derived.Test.YtmemkmnnededgaaHJ
namespace Go.Proofs.Ytmemkmnnededgaa.H
open Go.RowKit Go.Proofs.YtmemkmnnededgaaW.PrintWords Go.Proofs.YtmemkmnnededgaaW.PrintLast Go.Proofs.YtmemkmnnededgaaW.PrintMore
attribute [local go_sem] max2_int min2_int max_two min_two max_three min_three max_four min_four
set_option linter.unusedVariables false
set_option linter.unusedSimpArgs false

theorem ne_C {b : List Int} (h : b.getD 0 0 ≠ 67) : (takeCR b).2.2 ≠ 0 := fun hh => h (kind_C b hh)
theorem ne_M {b : List Int} (h : b.getD 0 0 ≠ 77) : (takeMR b).2.2 ≠ 0 := fun hh => h (kind_M b hh)
theorem ne_R {b : List Int} (h : b.getD 0 0 ≠ 82) : (takeRR b).2.2 ≠ 0 := fun hh => h (kind_R b hh)
theorem ne_G {b : List Int} (h : b.getD 0 0 ≠ 71) : (takeGR b).2.2 ≠ 0 := fun hh => h (kind_G b hh)
/-- The numbers that are read fit. -/
theorem one_M_wf (b : List Int) (hb : Bytes b) (h : (takeMR b).2.2 = 0) : ∀ x ∈ (takeMR b).1.2.2, (Lit.int .i64 x.num).wf = true := by
  unfold takeMR at h ⊢
  by_cases h1 : b.length = 0 ∨ b.getD 0 0 ≠ 77
  · rw [if_pos h1] at h; exact absurd h (by decide)
  rw [if_neg h1] at h ⊢
  by_cases h2 : 0 ≤ (rdM b ⟨1, -1⟩).2.bad ∨ (rdM b ⟨1, -1⟩).2.at_ < b.length
  · rw [if_pos h2] at h; exact absurd (show (61 : Int) = 0 from h) (by decide)
  rw [if_neg h2] at h ⊢
  by_cases h3 : rightM (rdM b ⟨1, -1⟩).1.1 (rdM b ⟨1, -1⟩).1.2.1 (rdM b ⟨1, -1⟩).1.2.2 = true
  · rw [if_pos h3]
    obtain ⟨⟨a1, a2, a3, a4⟩, e⟩ := all_read rd_M b hb 77 h1 h2
    intro x hx
    have := (a4 x hx).1
    simp [Lit.wf, IntKind.min, IntKind.max, IntKind.signed, IntKind.bits]
    omega
  · rw [if_neg h3] at h; exact absurd h (by decide)

set_option maxRecDepth 100000 in
set_option maxHeartbeats 3200000 in
theorem recordOne_C (A : Option Addr) (c : Nat) (b : List Int) (w : World) (hC : U8.C w A b.length b) (hc : b.length ≤ c) (hl : b.length < 140737488355328) (hb : Bytes b) (hE : (takeCR b).2.2 = 0) (hR : (takeRR b).2.2 ≠ 0) (hG : (takeGR b).2.2 ≠ 0) (hM : (takeMR b).2.2 ≠ 0) :
    Calls Try.prog 7 #[.slice A b.length c] w fun e w' => e = .returned (.bool true) ∧ Below w.heap.size w w' := by
  have HC0 := Aside0.mk hC
  have HY := Aside0.mk hb
  have HP := Aside0.mk (one_C b hb hE)
  have NC := Aside0.mk hE
  have NR := Aside0.mk hR
  have NG := Aside0.mk hG
  have NM := Aside0.mk hM
  clear hC hE hb hR hG hM
  go_enter Try.func7, Try.ntmps7
  go_wp2_with fail
  refine (shown_any w).mono ?_
  rintro e w1 ⟨rfl, hb1⟩
  have HB1 := Aside0.mk hb1
  have HC1 := Aside0.mk (Kd.C_below HC0.out hb1)
  clear hb1 HC0
  go_wp2_with fail
  refine (commit_any A c b w1 HC1.out hc hl HY.out).mono ?_
  rintro e w2 ⟨v2, rfl, ho2, hb2⟩
  have HB2 := Aside0.mk (below_then HB1.out HB1.out.size hb2)
  have HC2 := Aside0.mk (Kd.C_below HC1.out hb2)
  generalize takeCR b = rC at *
  obtain ⟨⟨tC, lC⟩, pC, eC⟩ := rC
  obtain ⟨A2, c2, rfl⟩ := Kd.R_slice ho2
  have qC := NC.out
  dsimp only at qC
  subst qC
  have HO2 := Aside0.mk (Kd.R_reads' ho2).2.2
  clear ho2
  dsimp only
  clear hb2 HB1 HC1
  clear NC
  have HB2a := Aside0.mk (below_alloc HB2.out (.cells #[.int .i64 tC, .slice A2 lC.length c2] 24))
  have HC2a := Aside0.mk (Kd.C_alloc HC2.out (.cells #[.int .i64 tC, .slice A2 lC.length c2] 24))
  have HX2a := Aside0.mk (blk_new w2 (.cells #[.int .i64 tC, .slice A2 lC.length c2] 24))
  have HO2a := Aside0.mk (Kd.C_alloc HO2.out (.cells #[.int .i64 tC, .slice A2 lC.length c2] 24))
  go_wp2_with fail
  generalize (w2.alloc (.cells #[.int .i64 tC, .slice A2 lC.length c2] 24)) = w2a at *
  refine (row_any A c b w2a HC2a.out hc hl HY.out).mono ?_
  rintro e w3 ⟨rfl, hb3⟩
  have HB3 := Aside0.mk (below_then HB2a.out HB2a.out.size hb3)
  have HC3 := Aside0.mk (Kd.C_below HC2a.out hb3)
  have HX3 := Aside0.mk (blk_below HX2a.out hb3)
  have HO3 := Aside0.mk (Kd.C_below HO2a.out hb3)
  generalize takeRR b = rR at *
  obtain ⟨⟨kR, vR, tR⟩, pR, eR⟩ := rR
  dsimp only
  clear hb3 HB2a HC2a HX2a HO2a
  have nR : ¬ eR = 0 := NR.out
  clear NR
  have HB3a := Aside0.mk (below_alloc HB3.out (.cells #[.string kR, .string vR, .int .i64 tR] 45))
  have HC3a := Aside0.mk (Kd.C_alloc HC3.out (.cells #[.string kR, .string vR, .int .i64 tR] 45))
  have HX3a := Aside0.mk (blk_alloc HX3.out (.cells #[.string kR, .string vR, .int .i64 tR] 45))
  have HO3a := Aside0.mk (Kd.C_alloc HO3.out (.cells #[.string kR, .string vR, .int .i64 tR] 45))
  go_wp2_with fail
  generalize (w3.alloc (.cells #[.string kR, .string vR, .int .i64 tR] 45)) = w3a at *
  refine (gone_any A c b w3a HC3a.out hc hl HY.out).mono ?_
  rintro e w4 ⟨rfl, hb4⟩
  have HB4 := Aside0.mk (below_then HB3a.out HB3a.out.size hb4)
  have HC4 := Aside0.mk (Kd.C_below HC3a.out hb4)
  have HX4 := Aside0.mk (blk_below HX3a.out hb4)
  have HO4 := Aside0.mk (Kd.C_below HO3a.out hb4)
  generalize takeGR b = rG at *
  obtain ⟨⟨kG, tG⟩, pG, eG⟩ := rG
  dsimp only
  clear hb4 HB3a HC3a HX3a HO3a
  have nG : ¬ eG = 0 := NG.out
  clear NG
  have HB4a := Aside0.mk (below_alloc HB4.out (.cells #[.string kG, .int .i64 tG] 49))
  have HC4a := Aside0.mk (Kd.C_alloc HC4.out (.cells #[.string kG, .int .i64 tG] 49))
  have HX4a := Aside0.mk (blk_alloc HX4.out (.cells #[.string kG, .int .i64 tG] 49))
  have HO4a := Aside0.mk (Kd.C_alloc HO4.out (.cells #[.string kG, .int .i64 tG] 49))
  go_wp2_with fail
  generalize (w4.alloc (.cells #[.string kG, .int .i64 tG] 49)) = w4a at *
  refine (manifest_any A c b w4a HC4a.out hc hl HY.out).mono ?_
  rintro e w5 ⟨v5, rfl, ho5, hb5⟩
  have HB5 := Aside0.mk (below_then HB4a.out HB4a.out.size hb5)
  have HC5 := Aside0.mk (Kd.C_below HC4a.out hb5)
  have HX5 := Aside0.mk (blk_below HX4a.out hb5)
  have HO5 := Aside0.mk (Kd.C_below HO4a.out hb5)
  generalize takeMR b = rM at *
  obtain ⟨⟨tM, gM, lM⟩, pM, eM⟩ := rM
  obtain ⟨A5, c5, rfl⟩ := Kd.R_slice ho5
  clear ho5
  generalize List.length lM = LM at *
  dsimp only
  clear hb5 HB4a HC4a HX4a HO4a
  have nM : ¬ eM = 0 := NM.out
  clear NM
  have HB5a := Aside0.mk (below_alloc HB5.out (.cells #[.int .i64 tM, .int .i64 gM, .slice A5 LM c5] 38))
  have HC5a := Aside0.mk (Kd.C_alloc HC5.out (.cells #[.int .i64 tM, .int .i64 gM, .slice A5 LM c5] 38))
  have HX5a := Aside0.mk (blk_alloc HX5.out (.cells #[.int .i64 tM, .int .i64 gM, .slice A5 LM c5] 38))
  have HO5a := Aside0.mk (Kd.C_alloc HO5.out (.cells #[.int .i64 tM, .int .i64 gM, .slice A5 LM c5] 38))
  have x0 : (w5.alloc (.cells #[.int .i64 tM, .int .i64 gM, .slice A5 LM c5] 38)).cell? ⟨w2.heap.size, 0, none⟩ = some (.int .i64 tC) := (blk_cell HX5a.out 0).trans rfl
  have x1 : (w5.alloc (.cells #[.int .i64 tM, .int .i64 gM, .slice A5 LM c5] 38)).cell? ⟨w2.heap.size, 1, none⟩ = some (.slice A2 lC.length c2) := (blk_cell HX5a.out 1).trans rfl
  go_wp2_with fail
  refine (putCommit_any tC lC A2 c2 _ HO5a.out).mono ?_
  rintro e w6 ⟨v6, rfl, ho6, hb6⟩
  have hp : putC tC lC = (b, 0) := HP.out
  rw [hp] at ho6 ⊢
  obtain ⟨A6, c6, rfl⟩ := Kd.R_slice ho6
  have HB6 := Aside0.mk (below_then HB5a.out HB5a.out.size hb6)
  have s1 := Kd.C_string (dst := 9) Try.underlying28 Try.underlying5 Try.underlying9 (c := c6) (Kd.R_reads' ho6).2.2
  have s2 := Kd.C_string (dst := 9) Try.underlying28 Try.underlying5 Try.underlying9 (c := c) (Kd.C_below HC5a.out hb6)
  clear ho6 hb6 HC5a HX5a HO5a
  clear x0
  clear x1
  dsimp only at s1 s2 ⊢
  go_wp2_with fail
  go_ret
  exact ⟨rfl, HB6.out⟩

set_option maxRecDepth 100000 in
set_option maxHeartbeats 3200000 in
theorem recordOne_R (A : Option Addr) (c : Nat) (b : List Int) (w : World) (hC : U8.C w A b.length b) (hc : b.length ≤ c) (hl : b.length < 140737488355328) (hb : Bytes b) (hE : (takeCR b).2.2 ≠ 0) (hR : (takeRR b).2.2 = 0) (hG : (takeGR b).2.2 ≠ 0) (hM : (takeMR b).2.2 ≠ 0) :
    Calls Try.prog 7 #[.slice A b.length c] w fun e w' => e = .returned (.bool true) ∧ Below w.heap.size w w' := by
  have HC0 := Aside0.mk hC
  have HY := Aside0.mk hb
  have HP := Aside0.mk (one_R b hb hR)
  have NC := Aside0.mk hE
  have NR := Aside0.mk hR
  have NG := Aside0.mk hG
  have NM := Aside0.mk hM
  clear hC hE hb hR hG hM
  go_enter Try.func7, Try.ntmps7
  go_wp2_with fail
  refine (shown_any w).mono ?_
  rintro e w1 ⟨rfl, hb1⟩
  have HB1 := Aside0.mk hb1
  have HC1 := Aside0.mk (Kd.C_below HC0.out hb1)
  clear hb1 HC0
  go_wp2_with fail
  refine (commit_any A c b w1 HC1.out hc hl HY.out).mono ?_
  rintro e w2 ⟨v2, rfl, ho2, hb2⟩
  have HB2 := Aside0.mk (below_then HB1.out HB1.out.size hb2)
  have HC2 := Aside0.mk (Kd.C_below HC1.out hb2)
  generalize takeCR b = rC at *
  obtain ⟨⟨tC, lC⟩, pC, eC⟩ := rC
  obtain ⟨A2, c2, rfl⟩ := Kd.R_slice ho2
  clear ho2
  generalize List.length lC = LC at *
  dsimp only
  clear hb2 HB1 HC1
  have nC : ¬ eC = 0 := NC.out
  clear NC
  have HB2a := Aside0.mk (below_alloc HB2.out (.cells #[.int .i64 tC, .slice A2 LC c2] 24))
  have HC2a := Aside0.mk (Kd.C_alloc HC2.out (.cells #[.int .i64 tC, .slice A2 LC c2] 24))
  go_wp2_with fail
  generalize (w2.alloc (.cells #[.int .i64 tC, .slice A2 LC c2] 24)) = w2a at *
  refine (row_any A c b w2a HC2a.out hc hl HY.out).mono ?_
  rintro e w3 ⟨rfl, hb3⟩
  have HB3 := Aside0.mk (below_then HB2a.out HB2a.out.size hb3)
  have HC3 := Aside0.mk (Kd.C_below HC2a.out hb3)
  generalize takeRR b = rR at *
  obtain ⟨⟨kR, vR, tR⟩, pR, eR⟩ := rR
  have qR := NR.out
  dsimp only at qR
  subst qR
  dsimp only
  clear hb3 HB2a HC2a
  clear NR
  have HB3a := Aside0.mk (below_alloc HB3.out (.cells #[.string kR, .string vR, .int .i64 tR] 45))
  have HC3a := Aside0.mk (Kd.C_alloc HC3.out (.cells #[.string kR, .string vR, .int .i64 tR] 45))
  have HX3a := Aside0.mk (blk_new w3 (.cells #[.string kR, .string vR, .int .i64 tR] 45))
  go_wp2_with fail
  generalize (w3.alloc (.cells #[.string kR, .string vR, .int .i64 tR] 45)) = w3a at *
  refine (gone_any A c b w3a HC3a.out hc hl HY.out).mono ?_
  rintro e w4 ⟨rfl, hb4⟩
  have HB4 := Aside0.mk (below_then HB3a.out HB3a.out.size hb4)
  have HC4 := Aside0.mk (Kd.C_below HC3a.out hb4)
  have HX4 := Aside0.mk (blk_below HX3a.out hb4)
  generalize takeGR b = rG at *
  obtain ⟨⟨kG, tG⟩, pG, eG⟩ := rG
  dsimp only
  clear hb4 HB3a HC3a HX3a
  have nG : ¬ eG = 0 := NG.out
  clear NG
  have HB4a := Aside0.mk (below_alloc HB4.out (.cells #[.string kG, .int .i64 tG] 49))
  have HC4a := Aside0.mk (Kd.C_alloc HC4.out (.cells #[.string kG, .int .i64 tG] 49))
  have HX4a := Aside0.mk (blk_alloc HX4.out (.cells #[.string kG, .int .i64 tG] 49))
  go_wp2_with fail
  generalize (w4.alloc (.cells #[.string kG, .int .i64 tG] 49)) = w4a at *
  refine (manifest_any A c b w4a HC4a.out hc hl HY.out).mono ?_
  rintro e w5 ⟨v5, rfl, ho5, hb5⟩
  have HB5 := Aside0.mk (below_then HB4a.out HB4a.out.size hb5)
  have HC5 := Aside0.mk (Kd.C_below HC4a.out hb5)
  have HX5 := Aside0.mk (blk_below HX4a.out hb5)
  generalize takeMR b = rM at *
  obtain ⟨⟨tM, gM, lM⟩, pM, eM⟩ := rM
  obtain ⟨A5, c5, rfl⟩ := Kd.R_slice ho5
  clear ho5
  generalize List.length lM = LM at *
  dsimp only
  clear hb5 HB4a HC4a HX4a
  have nM : ¬ eM = 0 := NM.out
  clear NM
  have HB5a := Aside0.mk (below_alloc HB5.out (.cells #[.int .i64 tM, .int .i64 gM, .slice A5 LM c5] 38))
  have HC5a := Aside0.mk (Kd.C_alloc HC5.out (.cells #[.int .i64 tM, .int .i64 gM, .slice A5 LM c5] 38))
  have HX5a := Aside0.mk (blk_alloc HX5.out (.cells #[.int .i64 tM, .int .i64 gM, .slice A5 LM c5] 38))
  have x0 : (w5.alloc (.cells #[.int .i64 tM, .int .i64 gM, .slice A5 LM c5] 38)).cell? ⟨w3.heap.size, 0, none⟩ = some (.string kR) := (blk_cell HX5a.out 0).trans rfl
  have x1 : (w5.alloc (.cells #[.int .i64 tM, .int .i64 gM, .slice A5 LM c5] 38)).cell? ⟨w3.heap.size, 1, none⟩ = some (.string vR) := (blk_cell HX5a.out 1).trans rfl
  have x2 : (w5.alloc (.cells #[.int .i64 tM, .int .i64 gM, .slice A5 LM c5] 38)).cell? ⟨w3.heap.size, 2, none⟩ = some (.int .i64 tR) := (blk_cell HX5a.out 2).trans rfl
  go_wp2_with fail
  refine (putRow_any kR vR tR _).mono ?_
  rintro e w6 ⟨v6, rfl, ho6, hb6⟩
  have hp : putR kR vR tR = (b, 0) := HP.out
  rw [hp] at ho6 ⊢
  obtain ⟨A6, c6, rfl⟩ := Kd.R_slice ho6
  have HB6 := Aside0.mk (below_then HB5a.out HB5a.out.size hb6)
  have s1 := Kd.C_string (dst := 9) Try.underlying28 Try.underlying5 Try.underlying9 (c := c6) (Kd.R_reads' ho6).2.2
  have s2 := Kd.C_string (dst := 9) Try.underlying28 Try.underlying5 Try.underlying9 (c := c) (Kd.C_below HC5a.out hb6)
  clear ho6 hb6 HC5a HX5a 
  clear x0
  clear x1
  clear x2
  dsimp only at s1 s2 ⊢
  go_wp2_with fail
  go_ret
  exact ⟨rfl, HB6.out⟩

set_option maxRecDepth 100000 in
set_option maxHeartbeats 3200000 in
theorem recordOne_G (A : Option Addr) (c : Nat) (b : List Int) (w : World) (hC : U8.C w A b.length b) (hc : b.length ≤ c) (hl : b.length < 140737488355328) (hb : Bytes b) (hE : (takeCR b).2.2 ≠ 0) (hR : (takeRR b).2.2 ≠ 0) (hG : (takeGR b).2.2 = 0) (hM : (takeMR b).2.2 ≠ 0) :
    Calls Try.prog 7 #[.slice A b.length c] w fun e w' => e = .returned (.bool true) ∧ Below w.heap.size w w' := by
  have HC0 := Aside0.mk hC
  have HY := Aside0.mk hb
  have HP := Aside0.mk (one_G b hb hG)
  have NC := Aside0.mk hE
  have NR := Aside0.mk hR
  have NG := Aside0.mk hG
  have NM := Aside0.mk hM
  clear hC hE hb hR hG hM
  go_enter Try.func7, Try.ntmps7
  go_wp2_with fail
  refine (shown_any w).mono ?_
  rintro e w1 ⟨rfl, hb1⟩
  have HB1 := Aside0.mk hb1
  have HC1 := Aside0.mk (Kd.C_below HC0.out hb1)
  clear hb1 HC0
  go_wp2_with fail
  refine (commit_any A c b w1 HC1.out hc hl HY.out).mono ?_
  rintro e w2 ⟨v2, rfl, ho2, hb2⟩
  have HB2 := Aside0.mk (below_then HB1.out HB1.out.size hb2)
  have HC2 := Aside0.mk (Kd.C_below HC1.out hb2)
  generalize takeCR b = rC at *
  obtain ⟨⟨tC, lC⟩, pC, eC⟩ := rC
  obtain ⟨A2, c2, rfl⟩ := Kd.R_slice ho2
  clear ho2
  generalize List.length lC = LC at *
  dsimp only
  clear hb2 HB1 HC1
  have nC : ¬ eC = 0 := NC.out
  clear NC
  have HB2a := Aside0.mk (below_alloc HB2.out (.cells #[.int .i64 tC, .slice A2 LC c2] 24))
  have HC2a := Aside0.mk (Kd.C_alloc HC2.out (.cells #[.int .i64 tC, .slice A2 LC c2] 24))
  go_wp2_with fail
  generalize (w2.alloc (.cells #[.int .i64 tC, .slice A2 LC c2] 24)) = w2a at *
  refine (row_any A c b w2a HC2a.out hc hl HY.out).mono ?_
  rintro e w3 ⟨rfl, hb3⟩
  have HB3 := Aside0.mk (below_then HB2a.out HB2a.out.size hb3)
  have HC3 := Aside0.mk (Kd.C_below HC2a.out hb3)
  generalize takeRR b = rR at *
  obtain ⟨⟨kR, vR, tR⟩, pR, eR⟩ := rR
  dsimp only
  clear hb3 HB2a HC2a
  have nR : ¬ eR = 0 := NR.out
  clear NR
  have HB3a := Aside0.mk (below_alloc HB3.out (.cells #[.string kR, .string vR, .int .i64 tR] 45))
  have HC3a := Aside0.mk (Kd.C_alloc HC3.out (.cells #[.string kR, .string vR, .int .i64 tR] 45))
  go_wp2_with fail
  generalize (w3.alloc (.cells #[.string kR, .string vR, .int .i64 tR] 45)) = w3a at *
  refine (gone_any A c b w3a HC3a.out hc hl HY.out).mono ?_
  rintro e w4 ⟨rfl, hb4⟩
  have HB4 := Aside0.mk (below_then HB3a.out HB3a.out.size hb4)
  have HC4 := Aside0.mk (Kd.C_below HC3a.out hb4)
  generalize takeGR b = rG at *
  obtain ⟨⟨kG, tG⟩, pG, eG⟩ := rG
  have qG := NG.out
  dsimp only at qG
  subst qG
  dsimp only
  clear hb4 HB3a HC3a
  clear NG
  have HB4a := Aside0.mk (below_alloc HB4.out (.cells #[.string kG, .int .i64 tG] 49))
  have HC4a := Aside0.mk (Kd.C_alloc HC4.out (.cells #[.string kG, .int .i64 tG] 49))
  have HX4a := Aside0.mk (blk_new w4 (.cells #[.string kG, .int .i64 tG] 49))
  go_wp2_with fail
  generalize (w4.alloc (.cells #[.string kG, .int .i64 tG] 49)) = w4a at *
  refine (manifest_any A c b w4a HC4a.out hc hl HY.out).mono ?_
  rintro e w5 ⟨v5, rfl, ho5, hb5⟩
  have HB5 := Aside0.mk (below_then HB4a.out HB4a.out.size hb5)
  have HC5 := Aside0.mk (Kd.C_below HC4a.out hb5)
  have HX5 := Aside0.mk (blk_below HX4a.out hb5)
  generalize takeMR b = rM at *
  obtain ⟨⟨tM, gM, lM⟩, pM, eM⟩ := rM
  obtain ⟨A5, c5, rfl⟩ := Kd.R_slice ho5
  clear ho5
  generalize List.length lM = LM at *
  dsimp only
  clear hb5 HB4a HC4a HX4a
  have nM : ¬ eM = 0 := NM.out
  clear NM
  have HB5a := Aside0.mk (below_alloc HB5.out (.cells #[.int .i64 tM, .int .i64 gM, .slice A5 LM c5] 38))
  have HC5a := Aside0.mk (Kd.C_alloc HC5.out (.cells #[.int .i64 tM, .int .i64 gM, .slice A5 LM c5] 38))
  have HX5a := Aside0.mk (blk_alloc HX5.out (.cells #[.int .i64 tM, .int .i64 gM, .slice A5 LM c5] 38))
  have x0 : (w5.alloc (.cells #[.int .i64 tM, .int .i64 gM, .slice A5 LM c5] 38)).cell? ⟨w4.heap.size, 0, none⟩ = some (.string kG) := (blk_cell HX5a.out 0).trans rfl
  have x1 : (w5.alloc (.cells #[.int .i64 tM, .int .i64 gM, .slice A5 LM c5] 38)).cell? ⟨w4.heap.size, 1, none⟩ = some (.int .i64 tG) := (blk_cell HX5a.out 1).trans rfl
  go_wp2_with fail
  refine (putGone_any kG tG _).mono ?_
  rintro e w6 ⟨v6, rfl, ho6, hb6⟩
  have hp : putG kG tG = (b, 0) := HP.out
  rw [hp] at ho6 ⊢
  obtain ⟨A6, c6, rfl⟩ := Kd.R_slice ho6
  have HB6 := Aside0.mk (below_then HB5a.out HB5a.out.size hb6)
  have s1 := Kd.C_string (dst := 9) Try.underlying28 Try.underlying5 Try.underlying9 (c := c6) (Kd.R_reads' ho6).2.2
  have s2 := Kd.C_string (dst := 9) Try.underlying28 Try.underlying5 Try.underlying9 (c := c) (Kd.C_below HC5a.out hb6)
  clear ho6 hb6 HC5a HX5a 
  clear x0
  clear x1
  dsimp only at s1 s2 ⊢
  go_wp2_with fail
  go_ret
  exact ⟨rfl, HB6.out⟩

set_option maxRecDepth 100000 in
set_option maxHeartbeats 3200000 in
theorem recordOne_M (A : Option Addr) (c : Nat) (b : List Int) (w : World) (hC : U8.C w A b.length b) (hc : b.length ≤ c) (hl : b.length < 140737488355328) (hb : Bytes b) (hE : (takeCR b).2.2 ≠ 0) (hR : (takeRR b).2.2 ≠ 0) (hG : (takeGR b).2.2 ≠ 0) (hM : (takeMR b).2.2 = 0) :
    Calls Try.prog 7 #[.slice A b.length c] w fun e w' => e = .returned (.bool true) ∧ Below w.heap.size w w' := by
  have HC0 := Aside0.mk hC
  have HY := Aside0.mk hb
  have HP := Aside0.mk (one_M b hb hM)
  have HWF := Aside0.mk (one_M_wf b hb hM)
  have NC := Aside0.mk hE
  have NR := Aside0.mk hR
  have NG := Aside0.mk hG
  have NM := Aside0.mk hM
  clear hC hE hb hR hG hM
  go_enter Try.func7, Try.ntmps7
  go_wp2_with fail
  refine (shown_any w).mono ?_
  rintro e w1 ⟨rfl, hb1⟩
  have HB1 := Aside0.mk hb1
  have HC1 := Aside0.mk (Kd.C_below HC0.out hb1)
  clear hb1 HC0
  go_wp2_with fail
  refine (commit_any A c b w1 HC1.out hc hl HY.out).mono ?_
  rintro e w2 ⟨v2, rfl, ho2, hb2⟩
  have HB2 := Aside0.mk (below_then HB1.out HB1.out.size hb2)
  have HC2 := Aside0.mk (Kd.C_below HC1.out hb2)
  generalize takeCR b = rC at *
  obtain ⟨⟨tC, lC⟩, pC, eC⟩ := rC
  obtain ⟨A2, c2, rfl⟩ := Kd.R_slice ho2
  clear ho2
  generalize List.length lC = LC at *
  dsimp only
  clear hb2 HB1 HC1
  have nC : ¬ eC = 0 := NC.out
  clear NC
  have HB2a := Aside0.mk (below_alloc HB2.out (.cells #[.int .i64 tC, .slice A2 LC c2] 24))
  have HC2a := Aside0.mk (Kd.C_alloc HC2.out (.cells #[.int .i64 tC, .slice A2 LC c2] 24))
  go_wp2_with fail
  generalize (w2.alloc (.cells #[.int .i64 tC, .slice A2 LC c2] 24)) = w2a at *
  refine (row_any A c b w2a HC2a.out hc hl HY.out).mono ?_
  rintro e w3 ⟨rfl, hb3⟩
  have HB3 := Aside0.mk (below_then HB2a.out HB2a.out.size hb3)
  have HC3 := Aside0.mk (Kd.C_below HC2a.out hb3)
  generalize takeRR b = rR at *
  obtain ⟨⟨kR, vR, tR⟩, pR, eR⟩ := rR
  dsimp only
  clear hb3 HB2a HC2a
  have nR : ¬ eR = 0 := NR.out
  clear NR
  have HB3a := Aside0.mk (below_alloc HB3.out (.cells #[.string kR, .string vR, .int .i64 tR] 45))
  have HC3a := Aside0.mk (Kd.C_alloc HC3.out (.cells #[.string kR, .string vR, .int .i64 tR] 45))
  go_wp2_with fail
  generalize (w3.alloc (.cells #[.string kR, .string vR, .int .i64 tR] 45)) = w3a at *
  refine (gone_any A c b w3a HC3a.out hc hl HY.out).mono ?_
  rintro e w4 ⟨rfl, hb4⟩
  have HB4 := Aside0.mk (below_then HB3a.out HB3a.out.size hb4)
  have HC4 := Aside0.mk (Kd.C_below HC3a.out hb4)
  generalize takeGR b = rG at *
  obtain ⟨⟨kG, tG⟩, pG, eG⟩ := rG
  dsimp only
  clear hb4 HB3a HC3a
  have nG : ¬ eG = 0 := NG.out
  clear NG
  have HB4a := Aside0.mk (below_alloc HB4.out (.cells #[.string kG, .int .i64 tG] 49))
  have HC4a := Aside0.mk (Kd.C_alloc HC4.out (.cells #[.string kG, .int .i64 tG] 49))
  go_wp2_with fail
  generalize (w4.alloc (.cells #[.string kG, .int .i64 tG] 49)) = w4a at *
  refine (manifest_any A c b w4a HC4a.out hc hl HY.out).mono ?_
  rintro e w5 ⟨v5, rfl, ho5, hb5⟩
  have HB5 := Aside0.mk (below_then HB4a.out HB4a.out.size hb5)
  have HC5 := Aside0.mk (Kd.C_below HC4a.out hb5)
  generalize takeMR b = rM at *
  obtain ⟨⟨tM, gM, lM⟩, pM, eM⟩ := rM
  obtain ⟨A5, c5, rfl⟩ := Kd.R_slice ho5
  have qM := NM.out
  dsimp only at qM
  subst qM
  have HO5 := Aside0.mk (Kd.R_reads' ho5).2.2
  clear ho5
  dsimp only
  clear hb5 HB4a HC4a
  clear NM
  have HB5a := Aside0.mk (below_alloc HB5.out (.cells #[.int .i64 tM, .int .i64 gM, .slice A5 lM.length c5] 38))
  have HC5a := Aside0.mk (Kd.C_alloc HC5.out (.cells #[.int .i64 tM, .int .i64 gM, .slice A5 lM.length c5] 38))
  have HX5a := Aside0.mk (blk_new w5 (.cells #[.int .i64 tM, .int .i64 gM, .slice A5 lM.length c5] 38))
  have HO5a := Aside0.mk (Kd.C_alloc HO5.out (.cells #[.int .i64 tM, .int .i64 gM, .slice A5 lM.length c5] 38))
  have x0 : (w5.alloc (.cells #[.int .i64 tM, .int .i64 gM, .slice A5 lM.length c5] 38)).cell? ⟨w5.heap.size, 0, none⟩ = some (.int .i64 tM) := (blk_cell HX5a.out 0).trans rfl
  have x1 : (w5.alloc (.cells #[.int .i64 tM, .int .i64 gM, .slice A5 lM.length c5] 38)).cell? ⟨w5.heap.size, 1, none⟩ = some (.int .i64 gM) := (blk_cell HX5a.out 1).trans rfl
  have x2 : (w5.alloc (.cells #[.int .i64 tM, .int .i64 gM, .slice A5 lM.length c5] 38)).cell? ⟨w5.heap.size, 2, none⟩ = some (.slice A5 lM.length c5) := (blk_cell HX5a.out 2).trans rfl
  go_wp2_with fail
  refine (putManifest_any tM gM lM A5 c5 _ HO5a.out HWF.out).mono ?_
  rintro e w6 ⟨v6, rfl, ho6, hb6⟩
  have hp : putM tM gM lM = (b, 0) := HP.out
  rw [hp] at ho6 ⊢
  obtain ⟨A6, c6, rfl⟩ := Kd.R_slice ho6
  have HB6 := Aside0.mk (below_then HB5a.out HB5a.out.size hb6)
  have s1 := Kd.C_string (dst := 9) Try.underlying28 Try.underlying5 Try.underlying9 (c := c6) (Kd.R_reads' ho6).2.2
  have s2 := Kd.C_string (dst := 9) Try.underlying28 Try.underlying5 Try.underlying9 (c := c) (Kd.C_below HC5a.out hb6)
  clear ho6 hb6 HC5a HX5a HO5a
  clear x0
  clear x1
  clear x2
  dsimp only at s1 s2 ⊢
  go_wp2_with fail
  go_ret
  exact ⟨rfl, HB6.out⟩

set_option maxRecDepth 100000 in
set_option maxHeartbeats 3200000 in
theorem recordOne_N (A : Option Addr) (c : Nat) (b : List Int) (w : World) (hC : U8.C w A b.length b) (hc : b.length ≤ c) (hl : b.length < 140737488355328) (hb : Bytes b) (hE : (takeCR b).2.2 ≠ 0) (hR : (takeRR b).2.2 ≠ 0) (hG : (takeGR b).2.2 ≠ 0) (hM : (takeMR b).2.2 ≠ 0) :
    Calls Try.prog 7 #[.slice A b.length c] w fun e w' => e = .returned (.bool true) ∧ Below w.heap.size w w' := by
  have HC0 := Aside0.mk hC
  have HY := Aside0.mk hb
  have NC := Aside0.mk hE
  have NR := Aside0.mk hR
  have NG := Aside0.mk hG
  have NM := Aside0.mk hM
  clear hC hE hb hR hG hM
  go_enter Try.func7, Try.ntmps7
  go_wp2_with fail
  refine (shown_any w).mono ?_
  rintro e w1 ⟨rfl, hb1⟩
  have HB1 := Aside0.mk hb1
  have HC1 := Aside0.mk (Kd.C_below HC0.out hb1)
  clear hb1 HC0
  go_wp2_with fail
  refine (commit_any A c b w1 HC1.out hc hl HY.out).mono ?_
  rintro e w2 ⟨v2, rfl, ho2, hb2⟩
  have HB2 := Aside0.mk (below_then HB1.out HB1.out.size hb2)
  have HC2 := Aside0.mk (Kd.C_below HC1.out hb2)
  generalize takeCR b = rC at *
  obtain ⟨⟨tC, lC⟩, pC, eC⟩ := rC
  obtain ⟨A2, c2, rfl⟩ := Kd.R_slice ho2
  clear ho2
  generalize List.length lC = LC at *
  dsimp only
  clear hb2 HB1 HC1
  have nC : ¬ eC = 0 := NC.out
  clear NC
  have HB2a := Aside0.mk (below_alloc HB2.out (.cells #[.int .i64 tC, .slice A2 LC c2] 24))
  have HC2a := Aside0.mk (Kd.C_alloc HC2.out (.cells #[.int .i64 tC, .slice A2 LC c2] 24))
  go_wp2_with fail
  generalize (w2.alloc (.cells #[.int .i64 tC, .slice A2 LC c2] 24)) = w2a at *
  refine (row_any A c b w2a HC2a.out hc hl HY.out).mono ?_
  rintro e w3 ⟨rfl, hb3⟩
  have HB3 := Aside0.mk (below_then HB2a.out HB2a.out.size hb3)
  have HC3 := Aside0.mk (Kd.C_below HC2a.out hb3)
  generalize takeRR b = rR at *
  obtain ⟨⟨kR, vR, tR⟩, pR, eR⟩ := rR
  dsimp only
  clear hb3 HB2a HC2a
  have nR : ¬ eR = 0 := NR.out
  clear NR
  have HB3a := Aside0.mk (below_alloc HB3.out (.cells #[.string kR, .string vR, .int .i64 tR] 45))
  have HC3a := Aside0.mk (Kd.C_alloc HC3.out (.cells #[.string kR, .string vR, .int .i64 tR] 45))
  go_wp2_with fail
  generalize (w3.alloc (.cells #[.string kR, .string vR, .int .i64 tR] 45)) = w3a at *
  refine (gone_any A c b w3a HC3a.out hc hl HY.out).mono ?_
  rintro e w4 ⟨rfl, hb4⟩
  have HB4 := Aside0.mk (below_then HB3a.out HB3a.out.size hb4)
  have HC4 := Aside0.mk (Kd.C_below HC3a.out hb4)
  generalize takeGR b = rG at *
  obtain ⟨⟨kG, tG⟩, pG, eG⟩ := rG
  dsimp only
  clear hb4 HB3a HC3a
  have nG : ¬ eG = 0 := NG.out
  clear NG
  have HB4a := Aside0.mk (below_alloc HB4.out (.cells #[.string kG, .int .i64 tG] 49))
  have HC4a := Aside0.mk (Kd.C_alloc HC4.out (.cells #[.string kG, .int .i64 tG] 49))
  go_wp2_with fail
  generalize (w4.alloc (.cells #[.string kG, .int .i64 tG] 49)) = w4a at *
  refine (manifest_any A c b w4a HC4a.out hc hl HY.out).mono ?_
  rintro e w5 ⟨v5, rfl, ho5, hb5⟩
  have HB5 := Aside0.mk (below_then HB4a.out HB4a.out.size hb5)
  have HC5 := Aside0.mk (Kd.C_below HC4a.out hb5)
  generalize takeMR b = rM at *
  obtain ⟨⟨tM, gM, lM⟩, pM, eM⟩ := rM
  obtain ⟨A5, c5, rfl⟩ := Kd.R_slice ho5
  clear ho5
  generalize List.length lM = LM at *
  dsimp only
  clear hb5 HB4a HC4a
  have nM : ¬ eM = 0 := NM.out
  clear NM
  have HB5a := Aside0.mk (below_alloc HB5.out (.cells #[.int .i64 tM, .int .i64 gM, .slice A5 LM c5] 38))
  have HC5a := Aside0.mk (Kd.C_alloc HC5.out (.cells #[.int .i64 tM, .int .i64 gM, .slice A5 LM c5] 38))
  go_wp2_with fail
  go_ret
  exact ⟨rfl, HB5a.out⟩
theorem recordOne_any (A : Option Addr) (c : Nat) (b : List Int) (w : World) (hC : U8.C w A b.length b) (hc : b.length ≤ c) (hl : b.length < 140737488355328) (hb : Bytes b) :
    Calls Try.prog 7 #[.slice A b.length c] w fun e w' => e = .returned (.bool true) ∧ Below w.heap.size w w' := by
  by_cases hC' : (takeCR b).2.2 = 0
  · have k := kind_C b hC'
    exact recordOne_C A c b w hC hc hl hb hC' (ne_R (by omega)) (ne_G (by omega)) (ne_M (by omega))
  by_cases hR : (takeRR b).2.2 = 0
  · have k := kind_R b hR
    exact recordOne_R A c b w hC hc hl hb hC' hR (ne_G (by omega)) (ne_M (by omega))
  by_cases hG : (takeGR b).2.2 = 0
  · have k := kind_G b hG
    exact recordOne_G A c b w hC hc hl hb hC' hR hG (ne_M (by omega))
  by_cases hM : (takeMR b).2.2 = 0
  · exact recordOne_M A c b w hC hc hl hb hC' hR hG hM
  · exact recordOne_N A c b w hC hc hl hb hC' hR hG hM

end Go.Proofs.Ytmemkmnnededgaa.H
