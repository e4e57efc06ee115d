/- Contracts of the program's package record: Commit, Manifest, Row, Gone. -/
import Derived.Test.YtmemkmnnededgaaHUM
import Derived.Test.YtmemkmnnededgaaHUG
namespace Go.Proofs.Ytmemkmnnededgaa.H
open Go.RowKit Go.Proofs.YtmemkmnnededgaaW.PrintWords Go.Proofs.YtmemkmnnededgaaW.PrintLast Go.Proofs.YtmemkmnnededgaaW.PrintMore
attribute [local go_sem] max2_int min2_int max_two min_two max_three min_three max_four min_four
set_option linter.unusedVariables false
set_option linter.unusedSimpArgs false

theorem takeC_any (A : Option Addr) (c : Nat) (b : List Int) (w : World) (hC : U8.C w A b.length b) (hc : b.length ≤ c) (hl : b.length < 140737488355328) (hb : Bytes b) :
    Calls Try.prog 33 #[.agg #[.int .u8 67, .func (.func 34) #[] #[], .func (.func 25) #[] #[]], .slice A b.length c] w fun e w' => ∃ v : Value, e = .returned (.tuple #[.agg #[.int .i64 (takeCR b).1.1, v], .int .i64 (takeCR b).2.1, .int .i64 (takeCR b).2.2]) ∧ k27.R 27 w' w.heap.size (fun _ => True) v (takeCR b).1.2 ∧ Below w.heap.size w w' := by
  unfold takeCR
  by_cases h0 : b.length = 0
  · rw [if_pos (Or.inl h0)]
    exact takeC_empty A c b w hC hc hl hb h0
  by_cases h1 : b.getD 0 0 = 67
  · rw [if_neg (by rintro (h | h); exact h0 h; exact h h1)]
    by_cases h2 : 0 ≤ (rdC b ⟨1, -1⟩).2.bad
    · rw [if_pos (Or.inl h2)]
      exact takeC_bad A c b w hC hc hl hb h0 h1 h2
    by_cases h3 : (rdC b ⟨1, -1⟩).2.at_ < b.length
    · rw [if_pos (Or.inr h3)]
      exact takeC_left A c b w hC hc hl hb h0 h1 (by omega) h3
    rw [if_neg (by rintro (h | h); exact h2 h; exact h3 h)]
    cases h4 : rightC (rdC b ⟨1, -1⟩).1.1 (rdC b ⟨1, -1⟩).1.2 with
    | true =>
      rw [if_pos rfl]
      exact takeC_good A c b w hC hc hl hb h0 h1 (by omega) (by omega) h4
    | false =>
      rw [if_neg (by decide)]
      exact takeC_wrong A c b w hC hc hl hb h0 h1 (by omega) (by omega) h4
  · rw [if_pos (Or.inr h1)]
    exact takeC_other A c b w hC hc hl hb h0 h1

set_option maxRecDepth 100000 in
set_option maxHeartbeats 1600000 in
theorem commit_any (A : Option Addr) (c : Nat) (b : List Int) (w : World) (hC : U8.C w A b.length b) (hc : b.length ≤ c) (hl : b.length < 140737488355328) (hb : Bytes b) :
    Calls Try.prog 12 #[.slice A b.length c] w fun e w' => ∃ v : Value, e = .returned (.tuple #[.agg #[.int .i64 (takeCR b).1.1, v], .int .i64 (takeCR b).2.1, .int .i64 (takeCR b).2.2]) ∧ k27.R 27 w' w.heap.size (fun _ => True) v (takeCR b).1.2 ∧ Below w.heap.size w w' := by
  have HC := Aside0.mk (Kd.C_alloc hC (.cells #[.int .i64 0, .slice none 0 0] 24))
  have HY := Aside0.mk hb
  have HR := Aside0.mk (blk_new w (.cells #[.int .i64 0, .slice none 0 0] 24))
  have HB := Aside0.mk (below_alloc (Below.refl w.heap.size w) (.cells #[.int .i64 0, .slice none 0 0] 24))
  have HS := Aside0.mk (show w.heap.size ≤ (w.alloc (.cells #[.int .i64 0, .slice none 0 0] 24)).heap.size by simp)
  clear hC hb
  go_enter Try.func12, Try.ntmps12
  go_wp2_with fail
  generalize w.alloc (.cells #[.int .i64 0, .slice none 0 0] 24) = w1 at *
  refine (takeC_any A c b w1 HC.out hc hl HY.out).mono ?_
  rintro e w2 ⟨v2, rfl, ho, hb2⟩
  generalize hE : takeCR b = rx at *
  have HE := Aside0.mk hE
  have HO := Aside0.mk (Kd.R_lower ho HS.out)
  obtain ⟨A2, c2, rfl⟩ := Kd.R_slice ho
  generalize hL : (rx.1.2).length = L at *
  clear hE hL ho
  have HR2 := Aside0.mk (blk_below HR.out hb2)
  have HB2 := Aside0.mk (below_then HB.out HS.out hb2)
  have b0_ : w2.cell? ⟨w.heap.size, 0, none⟩ = some (.int .i64 0) := (blk_cell HR2.out 0).trans rfl
  have d0_ : w2.frozen? ⟨w.heap.size, 0, none⟩ = false := blk_frozen HR2.out 0
  have b1_ : w2.cell? ⟨w.heap.size, 1, none⟩ = some (.slice none 0 0) := (blk_cell HR2.out 1).trans rfl
  have d1_ : w2.frozen? ⟨w.heap.size, 1, none⟩ = false := blk_frozen HR2.out 1
  clear hb2
  go_wp2_with fail
  have HR3 := Aside0.mk (st2 HR2.out (.int .i64 rx.1.1) (.slice A2 L c2))
  have HB3 := Aside0.mk (Below.setCell (Below.setCell HB2.out (p := ⟨w.heap.size, 0, none⟩) (Nat.le_refl _) (.int .i64 rx.1.1)) (p := ⟨w.heap.size, 1, none⟩) (Nat.le_refl _) (.slice A2 L c2))
  have HO3 := Aside0.mk (Kd.R_set (Kd.R_set HO.out HR2.out (by simp [k27, Kd.iso, Kd.pair, Kd.string, Kd.bool, Kd.scalar]) 0 (.int .i64 rx.1.1)) (blk_put HR2.out 0 (.int .i64 rx.1.1) rfl) (by simp [k27, Kd.iso, Kd.pair, Kd.string, Kd.bool, Kd.scalar]) 1 (.slice A2 L c2))
  generalize (w2.setCell ⟨w.heap.size, 0, none⟩ (.int .i64 rx.1.1)).setCell ⟨w.heap.size, 1, none⟩ (.slice A2 L c2) = w3 at *
  have c0_ : w3.cell? ⟨w.heap.size, 0, none⟩ = some (.int .i64 rx.1.1) := (blk_cell HR3.out 0).trans rfl
  have c1_ : w3.cell? ⟨w.heap.size, 1, none⟩ = some (.slice A2 L c2) := (blk_cell HR3.out 1).trans rfl
  exact bodyPost_ret (v := .tuple #[.agg #[.int .i64 rx.1.1, .slice A2 L c2], .int .i64 rx.2.1, .int .i64 rx.2.2]) (by simp [results, Try.results12, go_sem, c0_, c1_]) rfl ⟨_, by rw [HE.out], by rw [HE.out]; exact HO3.out, HB3.out⟩

theorem takeM_any (A : Option Addr) (c : Nat) (b : List Int) (w : World) (hC : U8.C w A b.length b) (hc : b.length ≤ c) (hl : b.length < 140737488355328) (hb : Bytes b) :
    Calls Try.prog 45 #[.agg #[.int .u8 77, .func (.func 46) #[] #[], .func (.func 50) #[] #[]], .slice A b.length c] w fun e w' => ∃ v : Value, e = .returned (.tuple #[.agg #[.int .i64 (takeMR b).1.1, .int .i64 (takeMR b).1.2.1, v], .int .i64 (takeMR b).2.1, .int .i64 (takeMR b).2.2]) ∧ k43.R 43 w' w.heap.size (fun _ => True) v (takeMR b).1.2.2 ∧ Below w.heap.size w w' := by
  unfold takeMR
  by_cases h0 : b.length = 0
  · rw [if_pos (Or.inl h0)]
    exact takeM_empty A c b w hC hc hl hb h0
  by_cases h1 : b.getD 0 0 = 77
  · rw [if_neg (by rintro (h | h); exact h0 h; exact h h1)]
    by_cases h2 : 0 ≤ (rdM b ⟨1, -1⟩).2.bad
    · rw [if_pos (Or.inl h2)]
      exact takeM_bad A c b w hC hc hl hb h0 h1 h2
    by_cases h3 : (rdM b ⟨1, -1⟩).2.at_ < b.length
    · rw [if_pos (Or.inr h3)]
      exact takeM_left A c b w hC hc hl hb h0 h1 (by omega) h3
    rw [if_neg (by rintro (h | h); exact h2 h; exact h3 h)]
    cases h4 : rightM (rdM b ⟨1, -1⟩).1.1 (rdM b ⟨1, -1⟩).1.2.1 (rdM b ⟨1, -1⟩).1.2.2 with
    | true =>
      rw [if_pos rfl]
      exact takeM_good A c b w hC hc hl hb h0 h1 (by omega) (by omega) h4
    | false =>
      rw [if_neg (by decide)]
      exact takeM_wrong A c b w hC hc hl hb h0 h1 (by omega) (by omega) h4
  · rw [if_pos (Or.inr h1)]
    exact takeM_other A c b w hC hc hl hb h0 h1

set_option maxRecDepth 100000 in
set_option maxHeartbeats 1600000 in
theorem manifest_any (A : Option Addr) (c : Nat) (b : List Int) (w : World) (hC : U8.C w A b.length b) (hc : b.length ≤ c) (hl : b.length < 140737488355328) (hb : Bytes b) :
    Calls Try.prog 14 #[.slice A b.length c] w fun e w' => ∃ v : Value, e = .returned (.tuple #[.agg #[.int .i64 (takeMR b).1.1, .int .i64 (takeMR b).1.2.1, v], .int .i64 (takeMR b).2.1, .int .i64 (takeMR b).2.2]) ∧ k43.R 43 w' w.heap.size (fun _ => True) v (takeMR b).1.2.2 ∧ Below w.heap.size w w' := by
  have HC := Aside0.mk (Kd.C_alloc hC (.cells #[.int .i64 0, .int .i64 0, .slice none 0 0] 38))
  have HY := Aside0.mk hb
  have HR := Aside0.mk (blk_new w (.cells #[.int .i64 0, .int .i64 0, .slice none 0 0] 38))
  have HB := Aside0.mk (below_alloc (Below.refl w.heap.size w) (.cells #[.int .i64 0, .int .i64 0, .slice none 0 0] 38))
  have HS := Aside0.mk (show w.heap.size ≤ (w.alloc (.cells #[.int .i64 0, .int .i64 0, .slice none 0 0] 38)).heap.size by simp)
  clear hC hb
  go_enter Try.func14, Try.ntmps14
  go_wp2_with fail
  generalize w.alloc (.cells #[.int .i64 0, .int .i64 0, .slice none 0 0] 38) = w1 at *
  refine (takeM_any A c b w1 HC.out hc hl HY.out).mono ?_
  rintro e w2 ⟨v2, rfl, ho, hb2⟩
  generalize hE : takeMR b = rx at *
  have HE := Aside0.mk hE
  have HO := Aside0.mk (Kd.R_lower ho HS.out)
  obtain ⟨A2, c2, rfl⟩ := Kd.R_slice ho
  generalize hL : (rx.1.2.2).length = L at *
  clear hE hL ho
  have HR2 := Aside0.mk (blk_below HR.out hb2)
  have HB2 := Aside0.mk (below_then HB.out HS.out hb2)
  have b0_ : w2.cell? ⟨w.heap.size, 0, none⟩ = some (.int .i64 0) := (blk_cell HR2.out 0).trans rfl
  have d0_ : w2.frozen? ⟨w.heap.size, 0, none⟩ = false := blk_frozen HR2.out 0
  have b1_ : w2.cell? ⟨w.heap.size, 1, none⟩ = some (.int .i64 0) := (blk_cell HR2.out 1).trans rfl
  have d1_ : w2.frozen? ⟨w.heap.size, 1, none⟩ = false := blk_frozen HR2.out 1
  have b2_ : w2.cell? ⟨w.heap.size, 2, none⟩ = some (.slice none 0 0) := (blk_cell HR2.out 2).trans rfl
  have d2_ : w2.frozen? ⟨w.heap.size, 2, none⟩ = false := blk_frozen HR2.out 2
  clear hb2
  go_wp2_with fail
  have HR3 := Aside0.mk (st3 HR2.out (.int .i64 rx.1.1) (.int .i64 rx.1.2.1) (.slice A2 L c2))
  have HB3 := Aside0.mk (Below.setCell (Below.setCell (Below.setCell HB2.out (p := ⟨w.heap.size, 0, none⟩) (Nat.le_refl _) (.int .i64 rx.1.1)) (p := ⟨w.heap.size, 1, none⟩) (Nat.le_refl _) (.int .i64 rx.1.2.1)) (p := ⟨w.heap.size, 2, none⟩) (Nat.le_refl _) (.slice A2 L c2))
  have HO3 := Aside0.mk (Kd.R_set (Kd.R_set (Kd.R_set HO.out HR2.out (by simp [k43, Kd.iso, Kd.pair, Kd.int, Kd.scalar]) 0 (.int .i64 rx.1.1)) (blk_put HR2.out 0 (.int .i64 rx.1.1) rfl) (by simp [k43, Kd.iso, Kd.pair, Kd.int, Kd.scalar]) 1 (.int .i64 rx.1.2.1)) (blk_put (blk_put HR2.out 0 (.int .i64 rx.1.1) rfl) 1 (.int .i64 rx.1.2.1) rfl) (by simp [k43, Kd.iso, Kd.pair, Kd.int, Kd.scalar]) 2 (.slice A2 L c2))
  generalize ((w2.setCell ⟨w.heap.size, 0, none⟩ (.int .i64 rx.1.1)).setCell ⟨w.heap.size, 1, none⟩ (.int .i64 rx.1.2.1)).setCell ⟨w.heap.size, 2, none⟩ (.slice A2 L c2) = w3 at *
  have c0_ : w3.cell? ⟨w.heap.size, 0, none⟩ = some (.int .i64 rx.1.1) := (blk_cell HR3.out 0).trans rfl
  have c1_ : w3.cell? ⟨w.heap.size, 1, none⟩ = some (.int .i64 rx.1.2.1) := (blk_cell HR3.out 1).trans rfl
  have c2_ : w3.cell? ⟨w.heap.size, 2, none⟩ = some (.slice A2 L c2) := (blk_cell HR3.out 2).trans rfl
  exact bodyPost_ret (v := .tuple #[.agg #[.int .i64 rx.1.1, .int .i64 rx.1.2.1, .slice A2 L c2], .int .i64 rx.2.1, .int .i64 rx.2.2]) (by simp [results, Try.results14, go_sem, c0_, c1_, c2_]) rfl ⟨_, by rw [HE.out], by rw [HE.out]; exact HO3.out, HB3.out⟩

theorem takeR_any (A : Option Addr) (c : Nat) (b : List Int) (w : World) (hC : U8.C w A b.length b) (hc : b.length ≤ c) (hl : b.length < 140737488355328) (hb : Bytes b) :
    Calls Try.prog 52 #[.agg #[.int .u8 82, .func (.func 53) #[] #[], .func (.func 54) #[] #[]], .slice A b.length c] w fun e w' => e = .returned (.tuple #[.agg #[.string (takeRR b).1.1, .string (takeRR b).1.2.1, .int .i64 (takeRR b).1.2.2], .int .i64 (takeRR b).2.1, .int .i64 (takeRR b).2.2]) ∧ Below w.heap.size w w' := by
  unfold takeRR
  by_cases h0 : b.length = 0
  · rw [if_pos (Or.inl h0)]
    exact takeR_empty A c b w hC hc hl hb h0
  by_cases h1 : b.getD 0 0 = 82
  · rw [if_neg (by rintro (h | h); exact h0 h; exact h h1)]
    by_cases h2 : 0 ≤ (rdR b ⟨1, -1⟩).2.bad
    · rw [if_pos (Or.inl h2)]
      exact takeR_bad A c b w hC hc hl hb h0 h1 h2
    by_cases h3 : (rdR b ⟨1, -1⟩).2.at_ < b.length
    · rw [if_pos (Or.inr h3)]
      exact takeR_left A c b w hC hc hl hb h0 h1 (by omega) h3
    rw [if_neg (by rintro (h | h); exact h2 h; exact h3 h)]
    cases h4 : isKeyB (rdR b ⟨1, -1⟩).1.1 with
    | true =>
      rw [if_pos rfl]
      exact takeR_good A c b w hC hc hl hb h0 h1 (by omega) (by omega) h4
    | false =>
      rw [if_neg (by decide)]
      exact takeR_wrong A c b w hC hc hl hb h0 h1 (by omega) (by omega) h4
  · rw [if_pos (Or.inr h1)]
    exact takeR_other A c b w hC hc hl hb h0 h1

set_option maxRecDepth 100000 in
set_option maxHeartbeats 1600000 in
theorem row_any (A : Option Addr) (c : Nat) (b : List Int) (w : World) (hC : U8.C w A b.length b) (hc : b.length ≤ c) (hl : b.length < 140737488355328) (hb : Bytes b) :
    Calls Try.prog 17 #[.slice A b.length c] w fun e w' => e = .returned (.tuple #[.agg #[.string (takeRR b).1.1, .string (takeRR b).1.2.1, .int .i64 (takeRR b).1.2.2], .int .i64 (takeRR b).2.1, .int .i64 (takeRR b).2.2]) ∧ Below w.heap.size w w' := by
  have HC := Aside0.mk (Kd.C_alloc hC (.cells #[.string ⟨#[]⟩, .string ⟨#[]⟩, .int .i64 0] 45))
  have HY := Aside0.mk hb
  have HR := Aside0.mk (blk_new w (.cells #[.string ⟨#[]⟩, .string ⟨#[]⟩, .int .i64 0] 45))
  have HB := Aside0.mk (below_alloc (Below.refl w.heap.size w) (.cells #[.string ⟨#[]⟩, .string ⟨#[]⟩, .int .i64 0] 45))
  have HS := Aside0.mk (show w.heap.size ≤ (w.alloc (.cells #[.string ⟨#[]⟩, .string ⟨#[]⟩, .int .i64 0] 45)).heap.size by simp)
  clear hC hb
  go_enter Try.func17, Try.ntmps17
  go_wp2_with fail
  generalize w.alloc (.cells #[.string ⟨#[]⟩, .string ⟨#[]⟩, .int .i64 0] 45) = w1 at *
  refine (takeR_any A c b w1 HC.out hc hl HY.out).mono ?_
  rintro e w2 ⟨rfl, hb2⟩
  generalize hE : takeRR b = rx at *
  have HE := Aside0.mk hE
  clear hE
  have HR2 := Aside0.mk (blk_below HR.out hb2)
  have HB2 := Aside0.mk (below_then HB.out HS.out hb2)
  have b0_ : w2.cell? ⟨w.heap.size, 0, none⟩ = some (.string ⟨#[]⟩) := (blk_cell HR2.out 0).trans rfl
  have d0_ : w2.frozen? ⟨w.heap.size, 0, none⟩ = false := blk_frozen HR2.out 0
  have b1_ : w2.cell? ⟨w.heap.size, 1, none⟩ = some (.string ⟨#[]⟩) := (blk_cell HR2.out 1).trans rfl
  have d1_ : w2.frozen? ⟨w.heap.size, 1, none⟩ = false := blk_frozen HR2.out 1
  have b2_ : w2.cell? ⟨w.heap.size, 2, none⟩ = some (.int .i64 0) := (blk_cell HR2.out 2).trans rfl
  have d2_ : w2.frozen? ⟨w.heap.size, 2, none⟩ = false := blk_frozen HR2.out 2
  clear hb2
  go_wp2_with fail
  have HR3 := Aside0.mk (st3 HR2.out (.string rx.1.1) (.string rx.1.2.1) (.int .i64 rx.1.2.2))
  have HB3 := Aside0.mk (Below.setCell (Below.setCell (Below.setCell HB2.out (p := ⟨w.heap.size, 0, none⟩) (Nat.le_refl _) (.string rx.1.1)) (p := ⟨w.heap.size, 1, none⟩) (Nat.le_refl _) (.string rx.1.2.1)) (p := ⟨w.heap.size, 2, none⟩) (Nat.le_refl _) (.int .i64 rx.1.2.2))
  generalize ((w2.setCell ⟨w.heap.size, 0, none⟩ (.string rx.1.1)).setCell ⟨w.heap.size, 1, none⟩ (.string rx.1.2.1)).setCell ⟨w.heap.size, 2, none⟩ (.int .i64 rx.1.2.2) = w3 at *
  have c0_ : w3.cell? ⟨w.heap.size, 0, none⟩ = some (.string rx.1.1) := (blk_cell HR3.out 0).trans rfl
  have c1_ : w3.cell? ⟨w.heap.size, 1, none⟩ = some (.string rx.1.2.1) := (blk_cell HR3.out 1).trans rfl
  have c2_ : w3.cell? ⟨w.heap.size, 2, none⟩ = some (.int .i64 rx.1.2.2) := (blk_cell HR3.out 2).trans rfl
  exact bodyPost_ret (v := .tuple #[.agg #[.string rx.1.1, .string rx.1.2.1, .int .i64 rx.1.2.2], .int .i64 rx.2.1, .int .i64 rx.2.2]) (by simp [results, Try.results17, go_sem, c0_, c1_, c2_]) rfl ⟨by rw [HE.out], HB3.out⟩

theorem takeG_any (A : Option Addr) (c : Nat) (b : List Int) (w : World) (hC : U8.C w A b.length b) (hc : b.length ≤ c) (hl : b.length < 140737488355328) (hb : Bytes b) :
    Calls Try.prog 57 #[.agg #[.int .u8 71, .func (.func 58) #[] #[], .func (.func 59) #[] #[]], .slice A b.length c] w fun e w' => e = .returned (.tuple #[.agg #[.string (takeGR b).1.1, .int .i64 (takeGR b).1.2], .int .i64 (takeGR b).2.1, .int .i64 (takeGR b).2.2]) ∧ Below w.heap.size w w' := by
  unfold takeGR
  by_cases h0 : b.length = 0
  · rw [if_pos (Or.inl h0)]
    exact takeG_empty A c b w hC hc hl hb h0
  by_cases h1 : b.getD 0 0 = 71
  · rw [if_neg (by rintro (h | h); exact h0 h; exact h h1)]
    by_cases h2 : 0 ≤ (rdG b ⟨1, -1⟩).2.bad
    · rw [if_pos (Or.inl h2)]
      exact takeG_bad A c b w hC hc hl hb h0 h1 h2
    by_cases h3 : (rdG b ⟨1, -1⟩).2.at_ < b.length
    · rw [if_pos (Or.inr h3)]
      exact takeG_left A c b w hC hc hl hb h0 h1 (by omega) h3
    rw [if_neg (by rintro (h | h); exact h2 h; exact h3 h)]
    cases h4 : isKeyB (rdG b ⟨1, -1⟩).1.1 with
    | true =>
      rw [if_pos rfl]
      exact takeG_good A c b w hC hc hl hb h0 h1 (by omega) (by omega) h4
    | false =>
      rw [if_neg (by decide)]
      exact takeG_wrong A c b w hC hc hl hb h0 h1 (by omega) (by omega) h4
  · rw [if_pos (Or.inr h1)]
    exact takeG_other A c b w hC hc hl hb h0 h1

set_option maxRecDepth 100000 in
set_option maxHeartbeats 1600000 in
theorem gone_any (A : Option Addr) (c : Nat) (b : List Int) (w : World) (hC : U8.C w A b.length b) (hc : b.length ≤ c) (hl : b.length < 140737488355328) (hb : Bytes b) :
    Calls Try.prog 19 #[.slice A b.length c] w fun e w' => e = .returned (.tuple #[.agg #[.string (takeGR b).1.1, .int .i64 (takeGR b).1.2], .int .i64 (takeGR b).2.1, .int .i64 (takeGR b).2.2]) ∧ Below w.heap.size w w' := by
  have HC := Aside0.mk (Kd.C_alloc hC (.cells #[.string ⟨#[]⟩, .int .i64 0] 49))
  have HY := Aside0.mk hb
  have HR := Aside0.mk (blk_new w (.cells #[.string ⟨#[]⟩, .int .i64 0] 49))
  have HB := Aside0.mk (below_alloc (Below.refl w.heap.size w) (.cells #[.string ⟨#[]⟩, .int .i64 0] 49))
  have HS := Aside0.mk (show w.heap.size ≤ (w.alloc (.cells #[.string ⟨#[]⟩, .int .i64 0] 49)).heap.size by simp)
  clear hC hb
  go_enter Try.func19, Try.ntmps19
  go_wp2_with fail
  generalize w.alloc (.cells #[.string ⟨#[]⟩, .int .i64 0] 49) = w1 at *
  refine (takeG_any A c b w1 HC.out hc hl HY.out).mono ?_
  rintro e w2 ⟨rfl, hb2⟩
  generalize hE : takeGR b = rx at *
  have HE := Aside0.mk hE
  clear hE
  have HR2 := Aside0.mk (blk_below HR.out hb2)
  have HB2 := Aside0.mk (below_then HB.out HS.out hb2)
  have b0_ : w2.cell? ⟨w.heap.size, 0, none⟩ = some (.string ⟨#[]⟩) := (blk_cell HR2.out 0).trans rfl
  have d0_ : w2.frozen? ⟨w.heap.size, 0, none⟩ = false := blk_frozen HR2.out 0
  have b1_ : w2.cell? ⟨w.heap.size, 1, none⟩ = some (.int .i64 0) := (blk_cell HR2.out 1).trans rfl
  have d1_ : w2.frozen? ⟨w.heap.size, 1, none⟩ = false := blk_frozen HR2.out 1
  clear hb2
  go_wp2_with fail
  have HR3 := Aside0.mk (st2 HR2.out (.string rx.1.1) (.int .i64 rx.1.2))
  have HB3 := Aside0.mk (Below.setCell (Below.setCell HB2.out (p := ⟨w.heap.size, 0, none⟩) (Nat.le_refl _) (.string rx.1.1)) (p := ⟨w.heap.size, 1, none⟩) (Nat.le_refl _) (.int .i64 rx.1.2))
  generalize (w2.setCell ⟨w.heap.size, 0, none⟩ (.string rx.1.1)).setCell ⟨w.heap.size, 1, none⟩ (.int .i64 rx.1.2) = w3 at *
  have c0_ : w3.cell? ⟨w.heap.size, 0, none⟩ = some (.string rx.1.1) := (blk_cell HR3.out 0).trans rfl
  have c1_ : w3.cell? ⟨w.heap.size, 1, none⟩ = some (.int .i64 rx.1.2) := (blk_cell HR3.out 1).trans rfl
  exact bodyPost_ret (v := .tuple #[.agg #[.string rx.1.1, .int .i64 rx.1.2], .int .i64 rx.2.1, .int .i64 rx.2.2]) (by simp [results, Try.results19, go_sem, c0_, c1_]) rfl ⟨by rw [HE.out], HB3.out⟩

end Go.Proofs.Ytmemkmnnededgaa.H
