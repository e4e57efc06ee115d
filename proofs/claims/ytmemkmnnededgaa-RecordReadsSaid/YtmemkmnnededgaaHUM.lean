/- Contracts of the program's package record: take over manifests. -/
import Derived.Test.YtmemkmnnededgaaHUC
import Derived.Test.YtmemkmnnededgaaHK
namespace Go.Proofs.Ytmemkmnnededgaa.H
open Go.RowKit Go.Proofs.YtmemkmnnededgaaW.PrintWords Go.Proofs.YtmemkmnnededgaaW.PrintLast Go.Proofs.YtmemkmnnededgaaW.PrintMore
attribute [local go_sem] max2_int min2_int max_two min_two max_three min_three max_four min_four
set_option linter.unusedVariables false
set_option linter.unusedSimpArgs false

theorem rdP_wf (b : List Int) (s : St) : (Lit.int .i64 (rdP b s).1.num).wf = true := by
  have h := rdNum_range b 2147483647 s (by omega)
  unfold rdP
  exact WalkArith.wf_i64 (by simp only; omega)
theorem rdL_all {α : Type} (one : St → α × St) (p : α → Prop) (h : ∀ s, p (one s).1) : ∀ k s, ∀ x ∈ (rdL one k s).1, p x
  | 0, s, x, hx => by simp [rdL] at hx
  | k + 1, s, x, hx => by
    unfold rdL at hx
    split at hx
    · simp at hx
    · rcases List.mem_cons.1 hx with rfl | hx
      · exact h s
      · exact rdL_all one p h k _ x hx
theorem rdM_wf (b : List Int) (s : St) : ∀ x ∈ (rdM b s).1.2.2, (Lit.int .i64 x.num).wf = true := fun x hx => rdL_all (rdP b) (fun x => (Lit.int .i64 x.num).wf = true) (rdP_wf b) _ _ x hx

def takeMR (b : List Int) : (Int × Int × List P43) × Int × Int :=
  if b.length = 0 ∨ b.getD 0 0 ≠ 77 then ((0, 0, []), 0, 61)
  else if 0 ≤ (rdM b ⟨1, -1⟩).2.bad ∨ (rdM b ⟨1, -1⟩).2.at_ < b.length then ((0, 0, []), (rdM b ⟨1, -1⟩).2.at_, 61)
  else if rightM (rdM b ⟨1, -1⟩).1.1 (rdM b ⟨1, -1⟩).1.2.1 (rdM b ⟨1, -1⟩).1.2.2 = true then ((rdM b ⟨1, -1⟩).1, 0, 0) else ((0, 0, []), 0, 60)

set_option maxRecDepth 100000 in
set_option maxHeartbeats 1600000 in
theorem takeM_empty (A : Option Addr) (c : Nat) (b : List Int) (w : World) (hC : U8.C w A b.length b) (hc : b.length ≤ c) (hl : b.length < 140737488355328) (hb : Bytes b) (h0 : b.length = 0) :
    Calls Try.prog 45 #[.agg #[.int .u8 77, .func (.func 46) #[] #[], .func (.func 50) #[] #[]], .slice A b.length c] w fun e w' => ∃ v : Value, e = .returned (.tuple #[.agg #[.int .i64 0, .int .i64 0, v], .int .i64 0, .int .i64 61]) ∧ k43.R 43 w' w.heap.size (fun _ => True) v [] ∧ Below w.heap.size w w' := by
  have HC := Aside0.mk hC
  have HY := Aside0.mk hb
  have t0 : ((b.length : Int) == 0) = true := by rw [h0]; rfl
  clear h0
  have HN := Aside0.mk (tk_new w #[.int .u8 77, .func (.func 46) #[] #[], .func (.func 50) #[] #[]] #[.int .i64 0, .int .i64 0, .slice none 0 0] 88 38)
  clear hC hb
  go_enter Try.func45, Try.ntmps45
  go_wp2_with fail
  obtain ⟨f0, r0, n0, b0, s0⟩ := HN.out
  clear HN
  generalize (((w.alloc (.cells #[.int .u8 77, .func (.func 46) #[] #[], .func (.func 50) #[] #[]] 88)).alloc (.cells #[.int .i64 0, .int .i64 0, .slice none 0 0] 38)).alloc (.cells #[.int .i64 0, .int .i64 0, .slice none 0 0] 38)) = w3 at *
  have HF0 := Aside0.mk f0
  have HR0 := Aside0.mk r0
  have HN0 := Aside0.mk n0
  have HB0 := Aside0.mk b0
  have HS0 := Aside0.mk s0
  have k0 : w3.cell? ⟨w.heap.size, 0, none⟩ = some (.int .u8 77) := (blk_cell f0 0).trans rfl
  clear f0 r0 n0 b0 s0
  go_quiet (fail)
  have HR4 := Aside0.mk (blk_drewN HR0.out nq)
  have HN4 := Aside0.mk (blk_drewN HN0.out nq)
  have HB4 := Aside0.mk (pw_below_drewN HB0.out nq)
  clear k0 
  generalize w3.drewN nq = w4 at *
  have a0_ : w4.cell? ⟨w.heap.size + 1 + 1, 0, none⟩ = some (.int .i64 0) := (blk_cell HN4.out 0).trans rfl
  have b0_ : w4.cell? ⟨w.heap.size + 1, 0, none⟩ = some (.int .i64 0) := (blk_cell HR4.out 0).trans rfl
  have d0_ : w4.frozen? ⟨w.heap.size + 1, 0, none⟩ = false := blk_frozen HR4.out 0
  have a1_ : w4.cell? ⟨w.heap.size + 1 + 1, 1, none⟩ = some (.int .i64 0) := (blk_cell HN4.out 1).trans rfl
  have b1_ : w4.cell? ⟨w.heap.size + 1, 1, none⟩ = some (.int .i64 0) := (blk_cell HR4.out 1).trans rfl
  have d1_ : w4.frozen? ⟨w.heap.size + 1, 1, none⟩ = false := blk_frozen HR4.out 1
  have a2_ : w4.cell? ⟨w.heap.size + 1 + 1, 2, none⟩ = some (.slice none 0 0) := (blk_cell HN4.out 2).trans rfl
  have b2_ : w4.cell? ⟨w.heap.size + 1, 2, none⟩ = some (.slice none 0 0) := (blk_cell HR4.out 2).trans rfl
  have d2_ : w4.frozen? ⟨w.heap.size + 1, 2, none⟩ = false := blk_frozen HR4.out 2
  go_wp2_with fail
  have HR1 := Aside0.mk (st3 HR4.out (.int .i64 0) (.int .i64 0) (.slice none 0 0))
  have HB1 := Aside0.mk (Below.setCell (Below.setCell (Below.setCell HB4.out (p := ⟨w.heap.size + 1, 0, none⟩) (Nat.le_succ _) (.int .i64 0)) (p := ⟨w.heap.size + 1, 1, none⟩) (Nat.le_succ _) (.int .i64 0)) (p := ⟨w.heap.size + 1, 2, none⟩) (Nat.le_succ _) (.slice none 0 0))
  generalize ((w4.setCell ⟨w.heap.size + 1, 0, none⟩ (.int .i64 0)).setCell ⟨w.heap.size + 1, 1, none⟩ (.int .i64 0)).setCell ⟨w.heap.size + 1, 2, none⟩ (.slice none 0 0) = w5 at *
  have c0_ : w5.cell? ⟨w.heap.size + 1, 0, none⟩ = some (.int .i64 0) := (blk_cell HR1.out 0).trans rfl
  have c1_ : w5.cell? ⟨w.heap.size + 1, 1, none⟩ = some (.int .i64 0) := (blk_cell HR1.out 1).trans rfl
  have c2_ : w5.cell? ⟨w.heap.size + 1, 2, none⟩ = some (.slice none 0 0) := (blk_cell HR1.out 2).trans rfl
  exact bodyPost_ret (v := .tuple #[.agg #[.int .i64 0, .int .i64 0, .slice none 0 0], .int .i64 0, .int .i64 61]) (by simp [results, Try.results45, go_sem, c0_, c1_, c2_]) rfl ⟨_, rfl, Kd.R_nil _ _ _ _ _, HB1.out⟩

set_option maxRecDepth 100000 in
set_option maxHeartbeats 1600000 in
theorem takeM_other (A : Option Addr) (c : Nat) (b : List Int) (w : World) (hC : U8.C w A b.length b) (hc : b.length ≤ c) (hl : b.length < 140737488355328) (hb : Bytes b) (h0 : b.length ≠ 0) (h1 : b.getD 0 0 ≠ 77) :
    Calls Try.prog 45 #[.agg #[.int .u8 77, .func (.func 46) #[] #[], .func (.func 50) #[] #[]], .slice A b.length c] w fun e w' => ∃ v : Value, e = .returned (.tuple #[.agg #[.int .i64 0, .int .i64 0, v], .int .i64 0, .int .i64 61]) ∧ k43.R 43 w' w.heap.size (fun _ => True) v [] ∧ Below w.heap.size w w' := by
  have HC := Aside0.mk hC
  have HY := Aside0.mk hb
  have t0 : ((b.length : Int) == 0) = false := by rw [beq_eq_false_iff_ne]; omega
  have hpos : (0 : Int) < (b.length : Int) := by omega
  obtain ⟨ad, rfl, _⟩ := hC.2.2 (by omega)
  obtain ⟨x, hxe⟩ : ∃ x, x = b.getD 0 0 := ⟨_, rfl⟩
  have t1 : (x != 77) = true := by rw [hxe]; simpa using h1
  have HXE := Aside0.mk hxe
  have HLT := Aside0.mk (show 0 < b.length by omega)
  clear h0 h1 hxe
  have HN := Aside0.mk (tk_new w #[.int .u8 77, .func (.func 46) #[] #[], .func (.func 50) #[] #[]] #[.int .i64 0, .int .i64 0, .slice none 0 0] 88 38)
  clear hC hb
  go_enter Try.func45, Try.ntmps45
  go_wp2_with fail
  obtain ⟨f0, r0, n0, b0, s0⟩ := HN.out
  clear HN
  generalize (((w.alloc (.cells #[.int .u8 77, .func (.func 46) #[] #[], .func (.func 50) #[] #[]] 88)).alloc (.cells #[.int .i64 0, .int .i64 0, .slice none 0 0] 38)).alloc (.cells #[.int .i64 0, .int .i64 0, .slice none 0 0] 38)) = w3 at *
  have HF0 := Aside0.mk f0
  have HR0 := Aside0.mk r0
  have HN0 := Aside0.mk n0
  have HB0 := Aside0.mk b0
  have HS0 := Aside0.mk s0
  have k0 : w3.cell? ⟨w.heap.size, 0, none⟩ = some (.int .u8 77) := (blk_cell f0 0).trans rfl
  clear f0 r0 n0 b0 s0
  have hx0 := at8 (Kd.C_below HC.out HB0.out) 0 HLT.out
  rw [← HXE.out, Addr.add_zero'] at hx0
  go_quiet (fail)
  have HR4 := Aside0.mk (blk_drewN HR0.out nq)
  have HN4 := Aside0.mk (blk_drewN HN0.out nq)
  have HB4 := Aside0.mk (pw_below_drewN HB0.out nq)
  clear k0 hx0 
  generalize w3.drewN nq = w4 at *
  have a0_ : w4.cell? ⟨w.heap.size + 1 + 1, 0, none⟩ = some (.int .i64 0) := (blk_cell HN4.out 0).trans rfl
  have b0_ : w4.cell? ⟨w.heap.size + 1, 0, none⟩ = some (.int .i64 0) := (blk_cell HR4.out 0).trans rfl
  have d0_ : w4.frozen? ⟨w.heap.size + 1, 0, none⟩ = false := blk_frozen HR4.out 0
  have a1_ : w4.cell? ⟨w.heap.size + 1 + 1, 1, none⟩ = some (.int .i64 0) := (blk_cell HN4.out 1).trans rfl
  have b1_ : w4.cell? ⟨w.heap.size + 1, 1, none⟩ = some (.int .i64 0) := (blk_cell HR4.out 1).trans rfl
  have d1_ : w4.frozen? ⟨w.heap.size + 1, 1, none⟩ = false := blk_frozen HR4.out 1
  have a2_ : w4.cell? ⟨w.heap.size + 1 + 1, 2, none⟩ = some (.slice none 0 0) := (blk_cell HN4.out 2).trans rfl
  have b2_ : w4.cell? ⟨w.heap.size + 1, 2, none⟩ = some (.slice none 0 0) := (blk_cell HR4.out 2).trans rfl
  have d2_ : w4.frozen? ⟨w.heap.size + 1, 2, none⟩ = false := blk_frozen HR4.out 2
  go_wp2_with fail
  have HR1 := Aside0.mk (st3 HR4.out (.int .i64 0) (.int .i64 0) (.slice none 0 0))
  have HB1 := Aside0.mk (Below.setCell (Below.setCell (Below.setCell HB4.out (p := ⟨w.heap.size + 1, 0, none⟩) (Nat.le_succ _) (.int .i64 0)) (p := ⟨w.heap.size + 1, 1, none⟩) (Nat.le_succ _) (.int .i64 0)) (p := ⟨w.heap.size + 1, 2, none⟩) (Nat.le_succ _) (.slice none 0 0))
  generalize ((w4.setCell ⟨w.heap.size + 1, 0, none⟩ (.int .i64 0)).setCell ⟨w.heap.size + 1, 1, none⟩ (.int .i64 0)).setCell ⟨w.heap.size + 1, 2, none⟩ (.slice none 0 0) = w5 at *
  have c0_ : w5.cell? ⟨w.heap.size + 1, 0, none⟩ = some (.int .i64 0) := (blk_cell HR1.out 0).trans rfl
  have c1_ : w5.cell? ⟨w.heap.size + 1, 1, none⟩ = some (.int .i64 0) := (blk_cell HR1.out 1).trans rfl
  have c2_ : w5.cell? ⟨w.heap.size + 1, 2, none⟩ = some (.slice none 0 0) := (blk_cell HR1.out 2).trans rfl
  exact bodyPost_ret (v := .tuple #[.agg #[.int .i64 0, .int .i64 0, .slice none 0 0], .int .i64 0, .int .i64 61]) (by simp [results, Try.results45, go_sem, c0_, c1_, c2_]) rfl ⟨_, rfl, Kd.R_nil _ _ _ _ _, HB1.out⟩

set_option maxRecDepth 100000 in
set_option maxHeartbeats 3200000 in
theorem takeM_bad (A : Option Addr) (c : Nat) (b : List Int) (w : World) (hC : U8.C w A b.length b) (hc : b.length ≤ c) (hl : b.length < 140737488355328) (hb : Bytes b) (h0 : b.length ≠ 0) (h1 : b.getD 0 0 = 77) (h2 : 0 ≤ (rdM b ⟨1, -1⟩).2.bad) :
    Calls Try.prog 45 #[.agg #[.int .u8 77, .func (.func 46) #[] #[], .func (.func 50) #[] #[]], .slice A b.length c] w fun e w' => ∃ v : Value, e = .returned (.tuple #[.agg #[.int .i64 0, .int .i64 0, v], .int .i64 (rdM b ⟨1, -1⟩).2.at_, .int .i64 61]) ∧ k43.R 43 w' w.heap.size (fun _ => True) v [] ∧ Below w.heap.size w w' := by
  have HC := Aside0.mk hC
  have HY := Aside0.mk hb
  have H2 := Aside0.mk h2
  clear h2
  have t0 : ((b.length : Int) == 0) = false := by rw [beq_eq_false_iff_ne]; omega
  have hpos : (0 : Int) < (b.length : Int) := by omega
  have t1 : (((77 : Int)) != 77) = false := by simp
  obtain ⟨ad, rfl, _⟩ := hC.2.2 (by omega)
  have HXE := Aside0.mk h1
  have HLT := Aside0.mk (show 0 < b.length by omega)
  clear h0 h1
  have HN := Aside0.mk (tk_new w #[.int .u8 77, .func (.func 46) #[] #[], .func (.func 50) #[] #[]] #[.int .i64 0, .int .i64 0, .slice none 0 0] 88 38)
  clear hC hb
  go_enter Try.func45, Try.ntmps45
  go_wp2_with fail
  obtain ⟨f0, r0, n0, b0, s0⟩ := HN.out
  clear HN
  generalize (((w.alloc (.cells #[.int .u8 77, .func (.func 46) #[] #[], .func (.func 50) #[] #[]] 88)).alloc (.cells #[.int .i64 0, .int .i64 0, .slice none 0 0] 38)).alloc (.cells #[.int .i64 0, .int .i64 0, .slice none 0 0] 38)) = w3 at *
  have HF0 := Aside0.mk f0
  have HR0 := Aside0.mk r0
  have HN0 := Aside0.mk n0
  have HB0 := Aside0.mk b0
  have HS0 := Aside0.mk s0
  have k0 : w3.cell? ⟨w.heap.size, 0, none⟩ = some (.int .u8 77) := (blk_cell f0 0).trans rfl
  clear f0 r0 n0 b0 s0
  have hx0 := at8 (Kd.C_below HC.out HB0.out) 0 HLT.out
  rw [HXE.out, Addr.add_zero'] at hx0
  go_quiet (fail)
  have HF3 := Aside0.mk (blk_drewN HF0.out nq)
  have HR3 := Aside0.mk (blk_drewN HR0.out nq)
  have HN3 := Aside0.mk (blk_drewN HN0.out nq)
  have HB3 := Aside0.mk (pw_below_drewN HB0.out nq)
  have HS3 := Aside0.mk (show (w3.drewN nq).heap.size = w.heap.size + 1 + 1 + 1 from HS0.out)
  clear k0 hx0
  generalize w3.drewN nq = wq at *
  have HRD := Aside0.mk (rd_new w wq (some ad) c b HC.out hc hl HY.out HB3.out)
  have HF4 := Aside0.mk (blk_alloc HF3.out (.cells #[.slice (some ad) b.length c, .int .i64 1, .bool false] 108))
  have HR4 := Aside0.mk (blk_alloc HR3.out (.cells #[.slice (some ad) b.length c, .int .i64 1, .bool false] 108))
  have HN4 := Aside0.mk (blk_alloc HN3.out (.cells #[.slice (some ad) b.length c, .int .i64 1, .bool false] 108))
  have HB4 := Aside0.mk (HB3.out.alloc HB3.out.size (.cells #[.slice (some ad) b.length c, .int .i64 1, .bool false] 108))
  have k1 : wq.cell? ⟨w.heap.size, 1, none⟩ = some (.func (.func 46) #[] #[]) := (blk_cell HF3.out 1).trans rfl
  have l3 : w.heap.size < wq.heap.size := by have := HS3.out; omega
  go_wp2_with fail
  generalize wq.alloc (.cells #[.slice (some ad) b.length c, .int .i64 1, .bool false] 108) = w4 at *
  clear k1
  refine (c46_any w wq.heap.size b ⟨1, -1⟩ _ HRD.out).mono ?_
  rintro e w5 ⟨v5, rfl, ho5, h5, f5⟩
  generalize hE : rdM b ⟨1, -1⟩ = rx at *
  have HE := Aside0.mk hE
  have HO5 := Aside0.mk (Kd.R_lower ho5 (show w.heap.size ≤ w4.heap.size from HB4.out.size))
  obtain ⟨A5, c5, rfl⟩ := Kd.R_slice ho5
  generalize hL : (rx.1.2.2).length = L at *
  have HL := Aside0.mk hL
  clear ho5 hE hL
  have HF5 := Aside0.mk (blk_alloc (f5.blk HF4.out (by simp [TR])) (.cells #[.int .i64 rx.1.1, .int .i64 rx.1.2.1, .slice A5 L c5] 38))
  have HR5 := Aside0.mk (blk_alloc (f5.blk HR4.out (by simp [TR])) (.cells #[.int .i64 rx.1.1, .int .i64 rx.1.2.1, .slice A5 L c5] 38))
  have HN5 := Aside0.mk (blk_alloc (f5.blk HN4.out (by simp [TR])) (.cells #[.int .i64 rx.1.1, .int .i64 rx.1.2.1, .slice A5 L c5] 38))
  have HX5 := Aside0.mk (blk_new w5 (.cells #[.int .i64 rx.1.1, .int .i64 rx.1.2.1, .slice A5 L c5] 38))
  have HD5 := Aside0.mk (h5.alloc (.cells #[.int .i64 rx.1.1, .int .i64 rx.1.2.1, .slice A5 L c5] 38))
  have HB5 := Aside0.mk ((HB4.out.trans f5.below).alloc (Nat.le_trans HB4.out.size f5.size) (.cells #[.int .i64 rx.1.1, .int .i64 rx.1.2.1, .slice A5 L c5] 38))
  have HO6 := Aside0.mk (Kd.R_alloc HO5.out (.cells #[.int .i64 rx.1.1, .int .i64 rx.1.2.1, .slice A5 L c5] 38))
  obtain ⟨A6, c6, hb6, hC6, hc6⟩ := h5.blk
  have g0 : w5.cell? ⟨wq.heap.size, 1, none⟩ = some (.int .i64 rx.2.at_) := (blk_cell hb6 1).trans rfl
  have g1 : w5.cell? ⟨wq.heap.size, 2, none⟩ = some (.bool (decide (0 ≤ rx.2.bad))) := (blk_cell hb6 2).trans rfl
  have l5 : wq.heap.size < w5.heap.size := blk_lt hb6
  have NE1 := Aside0.mk (show w.heap.size + 1 ≠ w5.heap.size by have := HS3.out; omega)
  have HSV := Aside0.mk (show w.heap.size + 1 + 1 < w5.heap.size by have := HS3.out; omega)
  rw [decide_eq_true H2.out] at g1
  have HG := Aside0.mk (And.intro hb6 trivial)
  clear hb6 hC6 hc6 h5 f5
  go_wp2_with fail
  have HGa := Aside0.mk (blk_alloc HG.out.1 (.cells #[.int .i64 rx.1.1, .int .i64 rx.1.2.1, .slice A5 L c5] 38))
  generalize w5.alloc (.cells #[.int .i64 rx.1.1, .int .i64 rx.1.2.1, .slice A5 L c5] 38) = w6 at *
  clear g0 g1
  have g0 : w6.cell? ⟨wq.heap.size, 1, none⟩ = some (.int .i64 rx.2.at_) := (blk_cell HGa.out 1).trans rfl
  have a0_ : w6.cell? ⟨w.heap.size + 1 + 1, 0, none⟩ = some (.int .i64 0) := (blk_cell HN5.out 0).trans rfl
  have b0_ : w6.cell? ⟨w.heap.size + 1, 0, none⟩ = some (.int .i64 0) := (blk_cell HR5.out 0).trans rfl
  have d0_ : w6.frozen? ⟨w.heap.size + 1, 0, none⟩ = false := blk_frozen HR5.out 0
  have a1_ : w6.cell? ⟨w.heap.size + 1 + 1, 1, none⟩ = some (.int .i64 0) := (blk_cell HN5.out 1).trans rfl
  have b1_ : w6.cell? ⟨w.heap.size + 1, 1, none⟩ = some (.int .i64 0) := (blk_cell HR5.out 1).trans rfl
  have d1_ : w6.frozen? ⟨w.heap.size + 1, 1, none⟩ = false := blk_frozen HR5.out 1
  have a2_ : w6.cell? ⟨w.heap.size + 1 + 1, 2, none⟩ = some (.slice none 0 0) := (blk_cell HN5.out 2).trans rfl
  have b2_ : w6.cell? ⟨w.heap.size + 1, 2, none⟩ = some (.slice none 0 0) := (blk_cell HR5.out 2).trans rfl
  have d2_ : w6.frozen? ⟨w.heap.size + 1, 2, none⟩ = false := blk_frozen HR5.out 2
  refine start_ (n := 8) (ds := []) (S := fun w' => w'.cell? ⟨wq.heap.size, 1, none⟩ = some (.int .i64 rx.2.at_) ∧ w'.cell? ⟨w.heap.size + 1 + 1, 0, none⟩ = some (.int .i64 0) ∧ w'.cell? ⟨w.heap.size + 1 + 1, 1, none⟩ = some (.int .i64 0) ∧ w'.cell? ⟨w.heap.size + 1 + 1, 2, none⟩ = some (.slice none 0 0)) #[false, false, false, false, false, false, false, false] (by kernel_rfl) rfl rfl ⟨g0, a0_, a1_, a2_⟩ (fun hHeld => ?_)
  refine take_ (i := 0) (N := (some 43)) (v := ?_) (a' := ?_) #[true, false, false, false, false, false, false, false] rfl rfl (by kernel_rfl) (fun _ _ _ h => h) (Or.inl ⟨by rfl, ?_⟩) hHeld ?_ ?_
  rotate_left
  · rintro w' ⟨s0, s1, s2, s3⟩
    go_simp
    with_reducible rfl
  rotate_left
  · simp only [Act.put, List.setIfInBounds_toArray, List.set_cons_zero, List.set_cons_succ]
    rfl
  refine take_ (i := 1) (N := (some 44)) (v := ?_) (a' := ?_) #[true, true, false, false, false, false, false, false] rfl rfl (by kernel_rfl) (fun _ _ _ h => h) (Or.inl ⟨by rfl, ?_⟩) hHeld ?_ ?_
  rotate_left
  · rintro w' ⟨s0, s1, s2, s3⟩
    go_simp
    with_reducible rfl
  rotate_left
  · simp only [Act.put, List.setIfInBounds_toArray, List.set_cons_zero, List.set_cons_succ]
    rfl
  refine take_ (i := 2) (N := (some 45)) (v := ?_) (a' := ?_) #[true, true, true, false, false, false, false, false] rfl rfl (by kernel_rfl) (fun _ _ _ h => h) (Or.inl ⟨by rfl, ?_⟩) hHeld ?_ ?_
  rotate_left
  · rintro w' ⟨s0, s1, s2, s3⟩
    go_simp
    with_reducible rfl
  rotate_left
  · simp only [Act.put, List.setIfInBounds_toArray, List.set_cons_zero, List.set_cons_succ]
    rfl
  refine take_ (i := 3) (N := (some 46)) (v := ?_) (a' := ?_) #[true, true, true, true, false, false, false, false] rfl rfl (by kernel_rfl) (fun _ _ _ h => h) (Or.inl ⟨by rfl, ?_⟩) hHeld ?_ ?_
  rotate_left
  · rintro w' ⟨s0, s1, s2, s3⟩
    go_simp
    with_reducible rfl
  rotate_left
  · simp only [Act.put, List.setIfInBounds_toArray, List.set_cons_zero, List.set_cons_succ]
    rfl
  refine take_ (i := 4) (N := (some 47)) (v := ?_) (a' := ?_) #[true, true, true, true, true, false, false, false] rfl rfl (by kernel_rfl) (fun _ _ _ h => h) (Or.inl ⟨by rfl, ?_⟩) hHeld ?_ ?_
  rotate_left
  · rintro w' ⟨s0, s1, s2, s3⟩
    go_simp
    with_reducible rfl
  rotate_left
  · simp only [Act.put, List.setIfInBounds_toArray, List.set_cons_zero, List.set_cons_succ]
    rfl
  refine one_ (i := 5) (N := none) #[true, true, true, true, true, true, false, false] rfl rfl (by kernel_rfl) (by decide) (fun K hK => ?_)
  go_simp
  refine hK.out _ _ ⟨(blk_cell (blk_far (blk_far (blk_far HGa.out (p := ⟨w.heap.size + 1, 0, none⟩) (show wq.heap.size ≠ w.heap.size + 1 by have := HS3.out; omega) (.int .i64 0)) (p := ⟨w.heap.size + 1, 1, none⟩) (show wq.heap.size ≠ w.heap.size + 1 by have := HS3.out; omega) (.int .i64 0)) (p := ⟨w.heap.size + 1, 2, none⟩) (show wq.heap.size ≠ w.heap.size + 1 by have := HS3.out; omega) (.slice none 0 0)) 1).trans rfl, (blk_cell (blk_far (blk_far (blk_far HN5.out (p := ⟨w.heap.size + 1, 0, none⟩) (show w.heap.size + 1 + 1 ≠ w.heap.size + 1 by omega) (.int .i64 0)) (p := ⟨w.heap.size + 1, 1, none⟩) (show w.heap.size + 1 + 1 ≠ w.heap.size + 1 by omega) (.int .i64 0)) (p := ⟨w.heap.size + 1, 2, none⟩) (show w.heap.size + 1 + 1 ≠ w.heap.size + 1 by omega) (.slice none 0 0)) 0).trans rfl, (blk_cell (blk_far (blk_far (blk_far HN5.out (p := ⟨w.heap.size + 1, 0, none⟩) (show w.heap.size + 1 + 1 ≠ w.heap.size + 1 by omega) (.int .i64 0)) (p := ⟨w.heap.size + 1, 1, none⟩) (show w.heap.size + 1 + 1 ≠ w.heap.size + 1 by omega) (.int .i64 0)) (p := ⟨w.heap.size + 1, 2, none⟩) (show w.heap.size + 1 + 1 ≠ w.heap.size + 1 by omega) (.slice none 0 0)) 1).trans rfl, (blk_cell (blk_far (blk_far (blk_far HN5.out (p := ⟨w.heap.size + 1, 0, none⟩) (show w.heap.size + 1 + 1 ≠ w.heap.size + 1 by omega) (.int .i64 0)) (p := ⟨w.heap.size + 1, 1, none⟩) (show w.heap.size + 1 + 1 ≠ w.heap.size + 1 by omega) (.int .i64 0)) (p := ⟨w.heap.size + 1, 2, none⟩) (show w.heap.size + 1 + 1 ≠ w.heap.size + 1 by omega) (.slice none 0 0)) 2).trans rfl⟩ (fun hHeld => ?_)
  clear hK K
  refine take_ (i := 6) (N := (some 5)) (v := ?_) (a' := ?_) #[true, true, true, true, true, true, true, false] rfl rfl (by kernel_rfl) (fun _ _ _ h => h) (Or.inl ⟨by rfl, ?_⟩) hHeld ?_ ?_
  rotate_left
  · rintro w' ⟨s0, s1, s2, s3⟩
    go_simp
    with_reducible rfl
  rotate_left
  · simp only [Act.put, List.setIfInBounds_toArray, List.set_cons_zero, List.set_cons_succ]
    rfl
  refine take_ (i := 7) (N := (some 6)) (v := ?_) (a' := ?_) #[true, true, true, true, true, true, true, true] rfl rfl (by kernel_rfl) (fun _ _ _ h => h) (Or.inl ⟨by rfl, ?_⟩) hHeld ?_ ?_
  rotate_left
  · rintro w' ⟨s0, s1, s2, s3⟩
    go_simp
    with_reducible rfl
  rotate_left
  · simp only [Act.put, List.setIfInBounds_toArray, List.set_cons_zero, List.set_cons_succ]
    rfl
  refine done_ (by kernel_rfl) ?_
  have HR7 := Aside0.mk (st3 HR5.out (.int .i64 0) (.int .i64 0) (.slice none 0 0))
  have HB7 := Aside0.mk (Below.setCell (Below.setCell (Below.setCell HB5.out (p := ⟨w.heap.size + 1, 0, none⟩) (Nat.le_succ _) (.int .i64 0)) (p := ⟨w.heap.size + 1, 1, none⟩) (Nat.le_succ _) (.int .i64 0)) (p := ⟨w.heap.size + 1, 2, none⟩) (Nat.le_succ _) (.slice none 0 0))
  generalize ((w6.setCell ⟨w.heap.size + 1, 0, none⟩ (.int .i64 0)).setCell ⟨w.heap.size + 1, 1, none⟩ (.int .i64 0)).setCell ⟨w.heap.size + 1, 2, none⟩ (.slice none 0 0) = w7 at *
  have c0_ : w7.cell? ⟨w.heap.size + 1, 0, none⟩ = some (.int .i64 0) := (blk_cell HR7.out 0).trans rfl
  have c1_ : w7.cell? ⟨w.heap.size + 1, 1, none⟩ = some (.int .i64 0) := (blk_cell HR7.out 1).trans rfl
  have c2_ : w7.cell? ⟨w.heap.size + 1, 2, none⟩ = some (.slice none 0 0) := (blk_cell HR7.out 2).trans rfl
  go_wp2_with fail
  exact bodyPost_ret (v := .tuple #[.agg #[.int .i64 0, .int .i64 0, .slice none 0 0], .int .i64 rx.2.at_, .int .i64 61]) (by simp [results, Try.results45, go_sem, c0_, c1_, c2_]) rfl ⟨_, by rw [HE.out], Kd.R_nil _ _ _ _ _, below_drew HB7.out⟩

set_option maxRecDepth 100000 in
set_option maxHeartbeats 3200000 in
theorem takeM_left (A : Option Addr) (c : Nat) (b : List Int) (w : World) (hC : U8.C w A b.length b) (hc : b.length ≤ c) (hl : b.length < 140737488355328) (hb : Bytes b) (h0 : b.length ≠ 0) (h1 : b.getD 0 0 = 77) (h2 : (rdM b ⟨1, -1⟩).2.bad < 0) (h3 : (rdM b ⟨1, -1⟩).2.at_ < b.length) :
    Calls Try.prog 45 #[.agg #[.int .u8 77, .func (.func 46) #[] #[], .func (.func 50) #[] #[]], .slice A b.length c] w fun e w' => ∃ v : Value, e = .returned (.tuple #[.agg #[.int .i64 0, .int .i64 0, v], .int .i64 (rdM b ⟨1, -1⟩).2.at_, .int .i64 61]) ∧ k43.R 43 w' w.heap.size (fun _ => True) v [] ∧ Below w.heap.size w w' := by
  have HC := Aside0.mk hC
  have HY := Aside0.mk hb
  have H2 := Aside0.mk h2
  have H3 := Aside0.mk h3
  clear h2 h3
  have t0 : ((b.length : Int) == 0) = false := by rw [beq_eq_false_iff_ne]; omega
  have hpos : (0 : Int) < (b.length : Int) := by omega
  have t1 : (((77 : Int)) != 77) = false := by simp
  obtain ⟨ad, rfl, _⟩ := hC.2.2 (by omega)
  have HXE := Aside0.mk h1
  have HLT := Aside0.mk (show 0 < b.length by omega)
  clear h0 h1
  have HN := Aside0.mk (tk_new w #[.int .u8 77, .func (.func 46) #[] #[], .func (.func 50) #[] #[]] #[.int .i64 0, .int .i64 0, .slice none 0 0] 88 38)
  clear hC hb
  go_enter Try.func45, Try.ntmps45
  go_wp2_with fail
  obtain ⟨f0, r0, n0, b0, s0⟩ := HN.out
  clear HN
  generalize (((w.alloc (.cells #[.int .u8 77, .func (.func 46) #[] #[], .func (.func 50) #[] #[]] 88)).alloc (.cells #[.int .i64 0, .int .i64 0, .slice none 0 0] 38)).alloc (.cells #[.int .i64 0, .int .i64 0, .slice none 0 0] 38)) = w3 at *
  have HF0 := Aside0.mk f0
  have HR0 := Aside0.mk r0
  have HN0 := Aside0.mk n0
  have HB0 := Aside0.mk b0
  have HS0 := Aside0.mk s0
  have k0 : w3.cell? ⟨w.heap.size, 0, none⟩ = some (.int .u8 77) := (blk_cell f0 0).trans rfl
  clear f0 r0 n0 b0 s0
  have hx0 := at8 (Kd.C_below HC.out HB0.out) 0 HLT.out
  rw [HXE.out, Addr.add_zero'] at hx0
  go_quiet (fail)
  have HF3 := Aside0.mk (blk_drewN HF0.out nq)
  have HR3 := Aside0.mk (blk_drewN HR0.out nq)
  have HN3 := Aside0.mk (blk_drewN HN0.out nq)
  have HB3 := Aside0.mk (pw_below_drewN HB0.out nq)
  have HS3 := Aside0.mk (show (w3.drewN nq).heap.size = w.heap.size + 1 + 1 + 1 from HS0.out)
  clear k0 hx0
  generalize w3.drewN nq = wq at *
  have HRD := Aside0.mk (rd_new w wq (some ad) c b HC.out hc hl HY.out HB3.out)
  have HF4 := Aside0.mk (blk_alloc HF3.out (.cells #[.slice (some ad) b.length c, .int .i64 1, .bool false] 108))
  have HR4 := Aside0.mk (blk_alloc HR3.out (.cells #[.slice (some ad) b.length c, .int .i64 1, .bool false] 108))
  have HN4 := Aside0.mk (blk_alloc HN3.out (.cells #[.slice (some ad) b.length c, .int .i64 1, .bool false] 108))
  have HB4 := Aside0.mk (HB3.out.alloc HB3.out.size (.cells #[.slice (some ad) b.length c, .int .i64 1, .bool false] 108))
  have k1 : wq.cell? ⟨w.heap.size, 1, none⟩ = some (.func (.func 46) #[] #[]) := (blk_cell HF3.out 1).trans rfl
  have l3 : w.heap.size < wq.heap.size := by have := HS3.out; omega
  go_wp2_with fail
  generalize wq.alloc (.cells #[.slice (some ad) b.length c, .int .i64 1, .bool false] 108) = w4 at *
  clear k1
  refine (c46_any w wq.heap.size b ⟨1, -1⟩ _ HRD.out).mono ?_
  rintro e w5 ⟨v5, rfl, ho5, h5, f5⟩
  generalize hE : rdM b ⟨1, -1⟩ = rx at *
  have HE := Aside0.mk hE
  have HO5 := Aside0.mk (Kd.R_lower ho5 (show w.heap.size ≤ w4.heap.size from HB4.out.size))
  obtain ⟨A5, c5, rfl⟩ := Kd.R_slice ho5
  generalize hL : (rx.1.2.2).length = L at *
  have HL := Aside0.mk hL
  clear ho5 hE hL
  have HF5 := Aside0.mk (blk_alloc (f5.blk HF4.out (by simp [TR])) (.cells #[.int .i64 rx.1.1, .int .i64 rx.1.2.1, .slice A5 L c5] 38))
  have HR5 := Aside0.mk (blk_alloc (f5.blk HR4.out (by simp [TR])) (.cells #[.int .i64 rx.1.1, .int .i64 rx.1.2.1, .slice A5 L c5] 38))
  have HN5 := Aside0.mk (blk_alloc (f5.blk HN4.out (by simp [TR])) (.cells #[.int .i64 rx.1.1, .int .i64 rx.1.2.1, .slice A5 L c5] 38))
  have HX5 := Aside0.mk (blk_new w5 (.cells #[.int .i64 rx.1.1, .int .i64 rx.1.2.1, .slice A5 L c5] 38))
  have HD5 := Aside0.mk (h5.alloc (.cells #[.int .i64 rx.1.1, .int .i64 rx.1.2.1, .slice A5 L c5] 38))
  have HB5 := Aside0.mk ((HB4.out.trans f5.below).alloc (Nat.le_trans HB4.out.size f5.size) (.cells #[.int .i64 rx.1.1, .int .i64 rx.1.2.1, .slice A5 L c5] 38))
  have HO6 := Aside0.mk (Kd.R_alloc HO5.out (.cells #[.int .i64 rx.1.1, .int .i64 rx.1.2.1, .slice A5 L c5] 38))
  obtain ⟨A6, c6, hb6, hC6, hc6⟩ := h5.blk
  have g0 : w5.cell? ⟨wq.heap.size, 1, none⟩ = some (.int .i64 rx.2.at_) := (blk_cell hb6 1).trans rfl
  have g1 : w5.cell? ⟨wq.heap.size, 2, none⟩ = some (.bool (decide (0 ≤ rx.2.bad))) := (blk_cell hb6 2).trans rfl
  have l5 : wq.heap.size < w5.heap.size := blk_lt hb6
  have NE1 := Aside0.mk (show w.heap.size + 1 ≠ w5.heap.size by have := HS3.out; omega)
  have HSV := Aside0.mk (show w.heap.size + 1 + 1 < w5.heap.size by have := HS3.out; omega)
  have h3 := H3.out
  rw [decide_eq_false (show ¬ 0 ≤ rx.2.bad by have := H2.out; omega)] at g1
  have HG := Aside0.mk (And.intro hb6 trivial)
  clear hb6 hC6 hc6 h5 f5
  go_wp2_with fail
  have HGa := Aside0.mk (blk_alloc HG.out.1 (.cells #[.int .i64 rx.1.1, .int .i64 rx.1.2.1, .slice A5 L c5] 38))
  generalize w5.alloc (.cells #[.int .i64 rx.1.1, .int .i64 rx.1.2.1, .slice A5 L c5] 38) = w6 at *
  clear g0 g1
  have g0 : w6.cell? ⟨wq.heap.size, 1, none⟩ = some (.int .i64 rx.2.at_) := (blk_cell HGa.out 1).trans rfl
  have a0_ : w6.cell? ⟨w.heap.size + 1 + 1, 0, none⟩ = some (.int .i64 0) := (blk_cell HN5.out 0).trans rfl
  have b0_ : w6.cell? ⟨w.heap.size + 1, 0, none⟩ = some (.int .i64 0) := (blk_cell HR5.out 0).trans rfl
  have d0_ : w6.frozen? ⟨w.heap.size + 1, 0, none⟩ = false := blk_frozen HR5.out 0
  have a1_ : w6.cell? ⟨w.heap.size + 1 + 1, 1, none⟩ = some (.int .i64 0) := (blk_cell HN5.out 1).trans rfl
  have b1_ : w6.cell? ⟨w.heap.size + 1, 1, none⟩ = some (.int .i64 0) := (blk_cell HR5.out 1).trans rfl
  have d1_ : w6.frozen? ⟨w.heap.size + 1, 1, none⟩ = false := blk_frozen HR5.out 1
  have a2_ : w6.cell? ⟨w.heap.size + 1 + 1, 2, none⟩ = some (.slice none 0 0) := (blk_cell HN5.out 2).trans rfl
  have b2_ : w6.cell? ⟨w.heap.size + 1, 2, none⟩ = some (.slice none 0 0) := (blk_cell HR5.out 2).trans rfl
  have d2_ : w6.frozen? ⟨w.heap.size + 1, 2, none⟩ = false := blk_frozen HR5.out 2
  refine start_ (n := 8) (ds := []) (S := fun w' => w'.cell? ⟨wq.heap.size, 1, none⟩ = some (.int .i64 rx.2.at_) ∧ w'.cell? ⟨w.heap.size + 1 + 1, 0, none⟩ = some (.int .i64 0) ∧ w'.cell? ⟨w.heap.size + 1 + 1, 1, none⟩ = some (.int .i64 0) ∧ w'.cell? ⟨w.heap.size + 1 + 1, 2, none⟩ = some (.slice none 0 0)) #[false, false, false, false, false, false, false, false] (by kernel_rfl) rfl rfl ⟨g0, a0_, a1_, a2_⟩ (fun hHeld => ?_)
  refine take_ (i := 0) (N := (some 43)) (v := ?_) (a' := ?_) #[true, false, false, false, false, false, false, false] rfl rfl (by kernel_rfl) (fun _ _ _ h => h) (Or.inl ⟨by rfl, ?_⟩) hHeld ?_ ?_
  rotate_left
  · rintro w' ⟨s0, s1, s2, s3⟩
    go_simp
    with_reducible rfl
  rotate_left
  · simp only [Act.put, List.setIfInBounds_toArray, List.set_cons_zero, List.set_cons_succ]
    rfl
  refine take_ (i := 1) (N := (some 44)) (v := ?_) (a' := ?_) #[true, true, false, false, false, false, false, false] rfl rfl (by kernel_rfl) (fun _ _ _ h => h) (Or.inl ⟨by rfl, ?_⟩) hHeld ?_ ?_
  rotate_left
  · rintro w' ⟨s0, s1, s2, s3⟩
    go_simp
    with_reducible rfl
  rotate_left
  · simp only [Act.put, List.setIfInBounds_toArray, List.set_cons_zero, List.set_cons_succ]
    rfl
  refine take_ (i := 2) (N := (some 45)) (v := ?_) (a' := ?_) #[true, true, true, false, false, false, false, false] rfl rfl (by kernel_rfl) (fun _ _ _ h => h) (Or.inl ⟨by rfl, ?_⟩) hHeld ?_ ?_
  rotate_left
  · rintro w' ⟨s0, s1, s2, s3⟩
    go_simp
    with_reducible rfl
  rotate_left
  · simp only [Act.put, List.setIfInBounds_toArray, List.set_cons_zero, List.set_cons_succ]
    rfl
  refine take_ (i := 3) (N := (some 46)) (v := ?_) (a' := ?_) #[true, true, true, true, false, false, false, false] rfl rfl (by kernel_rfl) (fun _ _ _ h => h) (Or.inl ⟨by rfl, ?_⟩) hHeld ?_ ?_
  rotate_left
  · rintro w' ⟨s0, s1, s2, s3⟩
    go_simp
    with_reducible rfl
  rotate_left
  · simp only [Act.put, List.setIfInBounds_toArray, List.set_cons_zero, List.set_cons_succ]
    rfl
  refine take_ (i := 4) (N := (some 47)) (v := ?_) (a' := ?_) #[true, true, true, true, true, false, false, false] rfl rfl (by kernel_rfl) (fun _ _ _ h => h) (Or.inl ⟨by rfl, ?_⟩) hHeld ?_ ?_
  rotate_left
  · rintro w' ⟨s0, s1, s2, s3⟩
    go_simp
    with_reducible rfl
  rotate_left
  · simp only [Act.put, List.setIfInBounds_toArray, List.set_cons_zero, List.set_cons_succ]
    rfl
  refine one_ (i := 5) (N := none) #[true, true, true, true, true, true, false, false] rfl rfl (by kernel_rfl) (by decide) (fun K hK => ?_)
  go_simp
  refine hK.out _ _ ⟨(blk_cell (blk_far (blk_far (blk_far HGa.out (p := ⟨w.heap.size + 1, 0, none⟩) (show wq.heap.size ≠ w.heap.size + 1 by have := HS3.out; omega) (.int .i64 0)) (p := ⟨w.heap.size + 1, 1, none⟩) (show wq.heap.size ≠ w.heap.size + 1 by have := HS3.out; omega) (.int .i64 0)) (p := ⟨w.heap.size + 1, 2, none⟩) (show wq.heap.size ≠ w.heap.size + 1 by have := HS3.out; omega) (.slice none 0 0)) 1).trans rfl, (blk_cell (blk_far (blk_far (blk_far HN5.out (p := ⟨w.heap.size + 1, 0, none⟩) (show w.heap.size + 1 + 1 ≠ w.heap.size + 1 by omega) (.int .i64 0)) (p := ⟨w.heap.size + 1, 1, none⟩) (show w.heap.size + 1 + 1 ≠ w.heap.size + 1 by omega) (.int .i64 0)) (p := ⟨w.heap.size + 1, 2, none⟩) (show w.heap.size + 1 + 1 ≠ w.heap.size + 1 by omega) (.slice none 0 0)) 0).trans rfl, (blk_cell (blk_far (blk_far (blk_far HN5.out (p := ⟨w.heap.size + 1, 0, none⟩) (show w.heap.size + 1 + 1 ≠ w.heap.size + 1 by omega) (.int .i64 0)) (p := ⟨w.heap.size + 1, 1, none⟩) (show w.heap.size + 1 + 1 ≠ w.heap.size + 1 by omega) (.int .i64 0)) (p := ⟨w.heap.size + 1, 2, none⟩) (show w.heap.size + 1 + 1 ≠ w.heap.size + 1 by omega) (.slice none 0 0)) 1).trans rfl, (blk_cell (blk_far (blk_far (blk_far HN5.out (p := ⟨w.heap.size + 1, 0, none⟩) (show w.heap.size + 1 + 1 ≠ w.heap.size + 1 by omega) (.int .i64 0)) (p := ⟨w.heap.size + 1, 1, none⟩) (show w.heap.size + 1 + 1 ≠ w.heap.size + 1 by omega) (.int .i64 0)) (p := ⟨w.heap.size + 1, 2, none⟩) (show w.heap.size + 1 + 1 ≠ w.heap.size + 1 by omega) (.slice none 0 0)) 2).trans rfl⟩ (fun hHeld => ?_)
  clear hK K
  refine take_ (i := 6) (N := (some 5)) (v := ?_) (a' := ?_) #[true, true, true, true, true, true, true, false] rfl rfl (by kernel_rfl) (fun _ _ _ h => h) (Or.inl ⟨by rfl, ?_⟩) hHeld ?_ ?_
  rotate_left
  · rintro w' ⟨s0, s1, s2, s3⟩
    go_simp
    with_reducible rfl
  rotate_left
  · simp only [Act.put, List.setIfInBounds_toArray, List.set_cons_zero, List.set_cons_succ]
    rfl
  refine take_ (i := 7) (N := (some 6)) (v := ?_) (a' := ?_) #[true, true, true, true, true, true, true, true] rfl rfl (by kernel_rfl) (fun _ _ _ h => h) (Or.inl ⟨by rfl, ?_⟩) hHeld ?_ ?_
  rotate_left
  · rintro w' ⟨s0, s1, s2, s3⟩
    go_simp
    with_reducible rfl
  rotate_left
  · simp only [Act.put, List.setIfInBounds_toArray, List.set_cons_zero, List.set_cons_succ]
    rfl
  refine done_ (by kernel_rfl) ?_
  have HR7 := Aside0.mk (st3 HR5.out (.int .i64 0) (.int .i64 0) (.slice none 0 0))
  have HB7 := Aside0.mk (Below.setCell (Below.setCell (Below.setCell HB5.out (p := ⟨w.heap.size + 1, 0, none⟩) (Nat.le_succ _) (.int .i64 0)) (p := ⟨w.heap.size + 1, 1, none⟩) (Nat.le_succ _) (.int .i64 0)) (p := ⟨w.heap.size + 1, 2, none⟩) (Nat.le_succ _) (.slice none 0 0))
  generalize ((w6.setCell ⟨w.heap.size + 1, 0, none⟩ (.int .i64 0)).setCell ⟨w.heap.size + 1, 1, none⟩ (.int .i64 0)).setCell ⟨w.heap.size + 1, 2, none⟩ (.slice none 0 0) = w7 at *
  have c0_ : w7.cell? ⟨w.heap.size + 1, 0, none⟩ = some (.int .i64 0) := (blk_cell HR7.out 0).trans rfl
  have c1_ : w7.cell? ⟨w.heap.size + 1, 1, none⟩ = some (.int .i64 0) := (blk_cell HR7.out 1).trans rfl
  have c2_ : w7.cell? ⟨w.heap.size + 1, 2, none⟩ = some (.slice none 0 0) := (blk_cell HR7.out 2).trans rfl
  go_wp2_with fail
  exact bodyPost_ret (v := .tuple #[.agg #[.int .i64 0, .int .i64 0, .slice none 0 0], .int .i64 rx.2.at_, .int .i64 61]) (by simp [results, Try.results45, go_sem, c0_, c1_, c2_]) rfl ⟨_, by rw [HE.out], Kd.R_nil _ _ _ _ _, below_drew HB7.out⟩

set_option maxRecDepth 100000 in
set_option maxHeartbeats 3200000 in
theorem takeM_wrong (A : Option Addr) (c : Nat) (b : List Int) (w : World) (hC : U8.C w A b.length b) (hc : b.length ≤ c) (hl : b.length < 140737488355328) (hb : Bytes b) (h0 : b.length ≠ 0) (h1 : b.getD 0 0 = 77) (h2 : (rdM b ⟨1, -1⟩).2.bad < 0) (h3 : (b.length : Int) ≤ (rdM b ⟨1, -1⟩).2.at_) (h4 : rightM (rdM b ⟨1, -1⟩).1.1 (rdM b ⟨1, -1⟩).1.2.1 (rdM b ⟨1, -1⟩).1.2.2 = false) :
    Calls Try.prog 45 #[.agg #[.int .u8 77, .func (.func 46) #[] #[], .func (.func 50) #[] #[]], .slice A b.length c] w fun e w' => ∃ v : Value, e = .returned (.tuple #[.agg #[.int .i64 0, .int .i64 0, v], .int .i64 0, .int .i64 60]) ∧ k43.R 43 w' w.heap.size (fun _ => True) v [] ∧ Below w.heap.size w w' := by
  have HC := Aside0.mk hC
  have HY := Aside0.mk hb
  have H2 := Aside0.mk h2
  have H3 := Aside0.mk h3
  have HG4 := Aside0.mk h4
  clear h2 h3 h4
  have HWX := Aside0.mk (rdM_wf b ⟨1, -1⟩)
  have t0 : ((b.length : Int) == 0) = false := by rw [beq_eq_false_iff_ne]; omega
  have hpos : (0 : Int) < (b.length : Int) := by omega
  have t1 : (((77 : Int)) != 77) = false := by simp
  obtain ⟨ad, rfl, _⟩ := hC.2.2 (by omega)
  have HXE := Aside0.mk h1
  have HLT := Aside0.mk (show 0 < b.length by omega)
  clear h0 h1
  have HN := Aside0.mk (tk_new w #[.int .u8 77, .func (.func 46) #[] #[], .func (.func 50) #[] #[]] #[.int .i64 0, .int .i64 0, .slice none 0 0] 88 38)
  clear hC hb
  go_enter Try.func45, Try.ntmps45
  go_wp2_with fail
  obtain ⟨f0, r0, n0, b0, s0⟩ := HN.out
  clear HN
  generalize (((w.alloc (.cells #[.int .u8 77, .func (.func 46) #[] #[], .func (.func 50) #[] #[]] 88)).alloc (.cells #[.int .i64 0, .int .i64 0, .slice none 0 0] 38)).alloc (.cells #[.int .i64 0, .int .i64 0, .slice none 0 0] 38)) = w3 at *
  have HF0 := Aside0.mk f0
  have HR0 := Aside0.mk r0
  have HN0 := Aside0.mk n0
  have HB0 := Aside0.mk b0
  have HS0 := Aside0.mk s0
  have k0 : w3.cell? ⟨w.heap.size, 0, none⟩ = some (.int .u8 77) := (blk_cell f0 0).trans rfl
  clear f0 r0 n0 b0 s0
  have hx0 := at8 (Kd.C_below HC.out HB0.out) 0 HLT.out
  rw [HXE.out, Addr.add_zero'] at hx0
  go_quiet (fail)
  have HF3 := Aside0.mk (blk_drewN HF0.out nq)
  have HR3 := Aside0.mk (blk_drewN HR0.out nq)
  have HN3 := Aside0.mk (blk_drewN HN0.out nq)
  have HB3 := Aside0.mk (pw_below_drewN HB0.out nq)
  have HS3 := Aside0.mk (show (w3.drewN nq).heap.size = w.heap.size + 1 + 1 + 1 from HS0.out)
  clear k0 hx0
  generalize w3.drewN nq = wq at *
  have HRD := Aside0.mk (rd_new w wq (some ad) c b HC.out hc hl HY.out HB3.out)
  have HF4 := Aside0.mk (blk_alloc HF3.out (.cells #[.slice (some ad) b.length c, .int .i64 1, .bool false] 108))
  have HR4 := Aside0.mk (blk_alloc HR3.out (.cells #[.slice (some ad) b.length c, .int .i64 1, .bool false] 108))
  have HN4 := Aside0.mk (blk_alloc HN3.out (.cells #[.slice (some ad) b.length c, .int .i64 1, .bool false] 108))
  have HB4 := Aside0.mk (HB3.out.alloc HB3.out.size (.cells #[.slice (some ad) b.length c, .int .i64 1, .bool false] 108))
  have k1 : wq.cell? ⟨w.heap.size, 1, none⟩ = some (.func (.func 46) #[] #[]) := (blk_cell HF3.out 1).trans rfl
  have l3 : w.heap.size < wq.heap.size := by have := HS3.out; omega
  go_wp2_with fail
  generalize wq.alloc (.cells #[.slice (some ad) b.length c, .int .i64 1, .bool false] 108) = w4 at *
  clear k1
  refine (c46_any w wq.heap.size b ⟨1, -1⟩ _ HRD.out).mono ?_
  rintro e w5 ⟨v5, rfl, ho5, h5, f5⟩
  generalize hE : rdM b ⟨1, -1⟩ = rx at *
  have HE := Aside0.mk hE
  have HO5 := Aside0.mk (Kd.R_lower ho5 (show w.heap.size ≤ w4.heap.size from HB4.out.size))
  obtain ⟨A5, c5, rfl⟩ := Kd.R_slice ho5
  generalize hL : (rx.1.2.2).length = L at *
  have HL := Aside0.mk hL
  clear ho5 hE hL
  have HF5 := Aside0.mk (blk_alloc (f5.blk HF4.out (by simp [TR])) (.cells #[.int .i64 rx.1.1, .int .i64 rx.1.2.1, .slice A5 L c5] 38))
  have HR5 := Aside0.mk (blk_alloc (f5.blk HR4.out (by simp [TR])) (.cells #[.int .i64 rx.1.1, .int .i64 rx.1.2.1, .slice A5 L c5] 38))
  have HN5 := Aside0.mk (blk_alloc (f5.blk HN4.out (by simp [TR])) (.cells #[.int .i64 rx.1.1, .int .i64 rx.1.2.1, .slice A5 L c5] 38))
  have HX5 := Aside0.mk (blk_new w5 (.cells #[.int .i64 rx.1.1, .int .i64 rx.1.2.1, .slice A5 L c5] 38))
  have HD5 := Aside0.mk (h5.alloc (.cells #[.int .i64 rx.1.1, .int .i64 rx.1.2.1, .slice A5 L c5] 38))
  have HB5 := Aside0.mk ((HB4.out.trans f5.below).alloc (Nat.le_trans HB4.out.size f5.size) (.cells #[.int .i64 rx.1.1, .int .i64 rx.1.2.1, .slice A5 L c5] 38))
  have HO6 := Aside0.mk (Kd.R_alloc HO5.out (.cells #[.int .i64 rx.1.1, .int .i64 rx.1.2.1, .slice A5 L c5] 38))
  obtain ⟨A6, c6, hb6, hC6, hc6⟩ := h5.blk
  have g0 : w5.cell? ⟨wq.heap.size, 1, none⟩ = some (.int .i64 rx.2.at_) := (blk_cell hb6 1).trans rfl
  have g1 : w5.cell? ⟨wq.heap.size, 2, none⟩ = some (.bool (decide (0 ≤ rx.2.bad))) := (blk_cell hb6 2).trans rfl
  have l5 : wq.heap.size < w5.heap.size := blk_lt hb6
  have NE1 := Aside0.mk (show w.heap.size + 1 ≠ w5.heap.size by have := HS3.out; omega)
  have HSV := Aside0.mk (show w.heap.size + 1 + 1 < w5.heap.size by have := HS3.out; omega)
  have h3 := H3.out
  rw [decide_eq_false (show ¬ 0 ≤ rx.2.bad by have := H2.out; omega)] at g1
  have k2 : w5.cell? ⟨w.heap.size, 2, none⟩ = some (.func (.func 50) #[] #[]) := (blk_cell (f5.blk HF4.out (by simp [TR])) 2).trans rfl
  have l6 : w.heap.size < w5.heap.size := by have := HSV.out; omega
  clear hb6 hC6 hc6 h5 f5
  go_wp2_with fail
  have HS6 := Aside0.mk (show w5.heap.size < (w5.alloc (.cells #[.int .i64 rx.1.1, .int .i64 rx.1.2.1, .slice A5 L c5] 38)).heap.size by simp)
  generalize w5.alloc (.cells #[.int .i64 rx.1.1, .int .i64 rx.1.2.1, .slice A5 L c5] 38) = w6 at *
  clear g0 g1 k2
  have hcall := rightManifest_any rx.1.1 rx.1.2.1 rx.1.2.2 A5 c5 w6 (by have h9 := Kd.R_reads' HO6.out; exact h9.2.2) HWX.out
  rw [HG4.out, HL.out] at hcall
  refine hcall.mono ?_
  rintro e w7 ⟨rfl, hb7⟩
  have HR7 := Aside0.mk (blk_below HR5.out hb7)
  have HN7 := Aside0.mk (blk_below HN5.out hb7)
  have HX7 := Aside0.mk (blk_below HX5.out hb7)
  have HB7 := Aside0.mk (below_then HB5.out (HB5.out.size) hb7)
  have HO7 := Aside0.mk (Kd.R_below HO6.out hb7)
  clear hb7 hcall
  have a0_ : w7.cell? ⟨w.heap.size + 1 + 1, 0, none⟩ = some (.int .i64 0) := (blk_cell HN7.out 0).trans rfl
  have b0_ : w7.cell? ⟨w.heap.size + 1, 0, none⟩ = some (.int .i64 0) := (blk_cell HR7.out 0).trans rfl
  have d0_ : w7.frozen? ⟨w.heap.size + 1, 0, none⟩ = false := blk_frozen HR7.out 0
  have a1_ : w7.cell? ⟨w.heap.size + 1 + 1, 1, none⟩ = some (.int .i64 0) := (blk_cell HN7.out 1).trans rfl
  have b1_ : w7.cell? ⟨w.heap.size + 1, 1, none⟩ = some (.int .i64 0) := (blk_cell HR7.out 1).trans rfl
  have d1_ : w7.frozen? ⟨w.heap.size + 1, 1, none⟩ = false := blk_frozen HR7.out 1
  have a2_ : w7.cell? ⟨w.heap.size + 1 + 1, 2, none⟩ = some (.slice none 0 0) := (blk_cell HN7.out 2).trans rfl
  have b2_ : w7.cell? ⟨w.heap.size + 1, 2, none⟩ = some (.slice none 0 0) := (blk_cell HR7.out 2).trans rfl
  have d2_ : w7.frozen? ⟨w.heap.size + 1, 2, none⟩ = false := blk_frozen HR7.out 2
  go_wp2_with fail
  have HR8 := Aside0.mk (st3 HR7.out (.int .i64 0) (.int .i64 0) (.slice none 0 0))
  have HB8 := Aside0.mk (Below.setCell (Below.setCell (Below.setCell HB7.out (p := ⟨w.heap.size + 1, 0, none⟩) (Nat.le_succ _) (.int .i64 0)) (p := ⟨w.heap.size + 1, 1, none⟩) (Nat.le_succ _) (.int .i64 0)) (p := ⟨w.heap.size + 1, 2, none⟩) (Nat.le_succ _) (.slice none 0 0))
  generalize ((w7.setCell ⟨w.heap.size + 1, 0, none⟩ (.int .i64 0)).setCell ⟨w.heap.size + 1, 1, none⟩ (.int .i64 0)).setCell ⟨w.heap.size + 1, 2, none⟩ (.slice none 0 0) = w8 at *
  have c0_ : w8.cell? ⟨w.heap.size + 1, 0, none⟩ = some (.int .i64 0) := (blk_cell HR8.out 0).trans rfl
  have c1_ : w8.cell? ⟨w.heap.size + 1, 1, none⟩ = some (.int .i64 0) := (blk_cell HR8.out 1).trans rfl
  have c2_ : w8.cell? ⟨w.heap.size + 1, 2, none⟩ = some (.slice none 0 0) := (blk_cell HR8.out 2).trans rfl
  exact bodyPost_ret (v := .tuple #[.agg #[.int .i64 0, .int .i64 0, .slice none 0 0], .int .i64 0, .int .i64 60]) (by simp [results, Try.results45, go_sem, c0_, c1_, c2_]) rfl ⟨_, rfl, Kd.R_nil _ _ _ _ _, HB8.out⟩

set_option maxRecDepth 100000 in
set_option maxHeartbeats 3200000 in
theorem takeM_good (A : Option Addr) (c : Nat) (b : List Int) (w : World) (hC : U8.C w A b.length b) (hc : b.length ≤ c) (hl : b.length < 140737488355328) (hb : Bytes b) (h0 : b.length ≠ 0) (h1 : b.getD 0 0 = 77) (h2 : (rdM b ⟨1, -1⟩).2.bad < 0) (h3 : (b.length : Int) ≤ (rdM b ⟨1, -1⟩).2.at_) (h4 : rightM (rdM b ⟨1, -1⟩).1.1 (rdM b ⟨1, -1⟩).1.2.1 (rdM b ⟨1, -1⟩).1.2.2 = true) :
    Calls Try.prog 45 #[.agg #[.int .u8 77, .func (.func 46) #[] #[], .func (.func 50) #[] #[]], .slice A b.length c] w fun e w' => ∃ v : Value, e = .returned (.tuple #[.agg #[.int .i64 (rdM b ⟨1, -1⟩).1.1, .int .i64 (rdM b ⟨1, -1⟩).1.2.1, v], .int .i64 0, .int .i64 0]) ∧ k43.R 43 w' w.heap.size (fun _ => True) v (rdM b ⟨1, -1⟩).1.2.2 ∧ Below w.heap.size w w' := by
  have HC := Aside0.mk hC
  have HY := Aside0.mk hb
  have H2 := Aside0.mk h2
  have H3 := Aside0.mk h3
  have HG4 := Aside0.mk h4
  clear h2 h3 h4
  have HWX := Aside0.mk (rdM_wf b ⟨1, -1⟩)
  have t0 : ((b.length : Int) == 0) = false := by rw [beq_eq_false_iff_ne]; omega
  have hpos : (0 : Int) < (b.length : Int) := by omega
  have t1 : (((77 : Int)) != 77) = false := by simp
  obtain ⟨ad, rfl, _⟩ := hC.2.2 (by omega)
  have HXE := Aside0.mk h1
  have HLT := Aside0.mk (show 0 < b.length by omega)
  clear h0 h1
  have HN := Aside0.mk (tk_new w #[.int .u8 77, .func (.func 46) #[] #[], .func (.func 50) #[] #[]] #[.int .i64 0, .int .i64 0, .slice none 0 0] 88 38)
  clear hC hb
  go_enter Try.func45, Try.ntmps45
  go_wp2_with fail
  obtain ⟨f0, r0, n0, b0, s0⟩ := HN.out
  clear HN
  generalize (((w.alloc (.cells #[.int .u8 77, .func (.func 46) #[] #[], .func (.func 50) #[] #[]] 88)).alloc (.cells #[.int .i64 0, .int .i64 0, .slice none 0 0] 38)).alloc (.cells #[.int .i64 0, .int .i64 0, .slice none 0 0] 38)) = w3 at *
  have HF0 := Aside0.mk f0
  have HR0 := Aside0.mk r0
  have HN0 := Aside0.mk n0
  have HB0 := Aside0.mk b0
  have HS0 := Aside0.mk s0
  have k0 : w3.cell? ⟨w.heap.size, 0, none⟩ = some (.int .u8 77) := (blk_cell f0 0).trans rfl
  clear f0 r0 n0 b0 s0
  have hx0 := at8 (Kd.C_below HC.out HB0.out) 0 HLT.out
  rw [HXE.out, Addr.add_zero'] at hx0
  go_quiet (fail)
  have HF3 := Aside0.mk (blk_drewN HF0.out nq)
  have HR3 := Aside0.mk (blk_drewN HR0.out nq)
  have HN3 := Aside0.mk (blk_drewN HN0.out nq)
  have HB3 := Aside0.mk (pw_below_drewN HB0.out nq)
  have HS3 := Aside0.mk (show (w3.drewN nq).heap.size = w.heap.size + 1 + 1 + 1 from HS0.out)
  clear k0 hx0
  generalize w3.drewN nq = wq at *
  have HRD := Aside0.mk (rd_new w wq (some ad) c b HC.out hc hl HY.out HB3.out)
  have HF4 := Aside0.mk (blk_alloc HF3.out (.cells #[.slice (some ad) b.length c, .int .i64 1, .bool false] 108))
  have HR4 := Aside0.mk (blk_alloc HR3.out (.cells #[.slice (some ad) b.length c, .int .i64 1, .bool false] 108))
  have HN4 := Aside0.mk (blk_alloc HN3.out (.cells #[.slice (some ad) b.length c, .int .i64 1, .bool false] 108))
  have HB4 := Aside0.mk (HB3.out.alloc HB3.out.size (.cells #[.slice (some ad) b.length c, .int .i64 1, .bool false] 108))
  have k1 : wq.cell? ⟨w.heap.size, 1, none⟩ = some (.func (.func 46) #[] #[]) := (blk_cell HF3.out 1).trans rfl
  have l3 : w.heap.size < wq.heap.size := by have := HS3.out; omega
  go_wp2_with fail
  generalize wq.alloc (.cells #[.slice (some ad) b.length c, .int .i64 1, .bool false] 108) = w4 at *
  clear k1
  refine (c46_any w wq.heap.size b ⟨1, -1⟩ _ HRD.out).mono ?_
  rintro e w5 ⟨v5, rfl, ho5, h5, f5⟩
  generalize hE : rdM b ⟨1, -1⟩ = rx at *
  have HE := Aside0.mk hE
  have HO5 := Aside0.mk (Kd.R_lower ho5 (show w.heap.size ≤ w4.heap.size from HB4.out.size))
  obtain ⟨A5, c5, rfl⟩ := Kd.R_slice ho5
  generalize hL : (rx.1.2.2).length = L at *
  have HL := Aside0.mk hL
  clear ho5 hE hL
  have HF5 := Aside0.mk (blk_alloc (f5.blk HF4.out (by simp [TR])) (.cells #[.int .i64 rx.1.1, .int .i64 rx.1.2.1, .slice A5 L c5] 38))
  have HR5 := Aside0.mk (blk_alloc (f5.blk HR4.out (by simp [TR])) (.cells #[.int .i64 rx.1.1, .int .i64 rx.1.2.1, .slice A5 L c5] 38))
  have HN5 := Aside0.mk (blk_alloc (f5.blk HN4.out (by simp [TR])) (.cells #[.int .i64 rx.1.1, .int .i64 rx.1.2.1, .slice A5 L c5] 38))
  have HX5 := Aside0.mk (blk_new w5 (.cells #[.int .i64 rx.1.1, .int .i64 rx.1.2.1, .slice A5 L c5] 38))
  have HD5 := Aside0.mk (h5.alloc (.cells #[.int .i64 rx.1.1, .int .i64 rx.1.2.1, .slice A5 L c5] 38))
  have HB5 := Aside0.mk ((HB4.out.trans f5.below).alloc (Nat.le_trans HB4.out.size f5.size) (.cells #[.int .i64 rx.1.1, .int .i64 rx.1.2.1, .slice A5 L c5] 38))
  have HO6 := Aside0.mk (Kd.R_alloc HO5.out (.cells #[.int .i64 rx.1.1, .int .i64 rx.1.2.1, .slice A5 L c5] 38))
  obtain ⟨A6, c6, hb6, hC6, hc6⟩ := h5.blk
  have g0 : w5.cell? ⟨wq.heap.size, 1, none⟩ = some (.int .i64 rx.2.at_) := (blk_cell hb6 1).trans rfl
  have g1 : w5.cell? ⟨wq.heap.size, 2, none⟩ = some (.bool (decide (0 ≤ rx.2.bad))) := (blk_cell hb6 2).trans rfl
  have l5 : wq.heap.size < w5.heap.size := blk_lt hb6
  have NE1 := Aside0.mk (show w.heap.size + 1 ≠ w5.heap.size by have := HS3.out; omega)
  have HSV := Aside0.mk (show w.heap.size + 1 + 1 < w5.heap.size by have := HS3.out; omega)
  have h3 := H3.out
  rw [decide_eq_false (show ¬ 0 ≤ rx.2.bad by have := H2.out; omega)] at g1
  have k2 : w5.cell? ⟨w.heap.size, 2, none⟩ = some (.func (.func 50) #[] #[]) := (blk_cell (f5.blk HF4.out (by simp [TR])) 2).trans rfl
  have l6 : w.heap.size < w5.heap.size := by have := HSV.out; omega
  clear hb6 hC6 hc6 h5 f5
  go_wp2_with fail
  have HS6 := Aside0.mk (show w5.heap.size < (w5.alloc (.cells #[.int .i64 rx.1.1, .int .i64 rx.1.2.1, .slice A5 L c5] 38)).heap.size by simp)
  generalize w5.alloc (.cells #[.int .i64 rx.1.1, .int .i64 rx.1.2.1, .slice A5 L c5] 38) = w6 at *
  clear g0 g1 k2
  have hcall := rightManifest_any rx.1.1 rx.1.2.1 rx.1.2.2 A5 c5 w6 (by have h9 := Kd.R_reads' HO6.out; exact h9.2.2) HWX.out
  rw [HG4.out, HL.out] at hcall
  refine hcall.mono ?_
  rintro e w7 ⟨rfl, hb7⟩
  have HR7 := Aside0.mk (blk_below HR5.out hb7)
  have HN7 := Aside0.mk (blk_below HN5.out hb7)
  have HX7 := Aside0.mk (blk_below HX5.out hb7)
  have HB7 := Aside0.mk (below_then HB5.out (HB5.out.size) hb7)
  have HO7 := Aside0.mk (Kd.R_below HO6.out hb7)
  clear hb7 hcall
  have a0_ : w7.cell? ⟨w5.heap.size, 0, none⟩ = some (.int .i64 rx.1.1) := (blk_cell HX7.out 0).trans rfl
  have b0_ : w7.cell? ⟨w.heap.size + 1, 0, none⟩ = some (.int .i64 0) := (blk_cell HR7.out 0).trans rfl
  have d0_ : w7.frozen? ⟨w.heap.size + 1, 0, none⟩ = false := blk_frozen HR7.out 0
  have a1_ : w7.cell? ⟨w5.heap.size, 1, none⟩ = some (.int .i64 rx.1.2.1) := (blk_cell HX7.out 1).trans rfl
  have b1_ : w7.cell? ⟨w.heap.size + 1, 1, none⟩ = some (.int .i64 0) := (blk_cell HR7.out 1).trans rfl
  have d1_ : w7.frozen? ⟨w.heap.size + 1, 1, none⟩ = false := blk_frozen HR7.out 1
  have a2_ : w7.cell? ⟨w5.heap.size, 2, none⟩ = some (.slice A5 L c5) := (blk_cell HX7.out 2).trans rfl
  have b2_ : w7.cell? ⟨w.heap.size + 1, 2, none⟩ = some (.slice none 0 0) := (blk_cell HR7.out 2).trans rfl
  have d2_ : w7.frozen? ⟨w.heap.size + 1, 2, none⟩ = false := blk_frozen HR7.out 2
  go_wp2_with fail
  have HR8 := Aside0.mk (st3 HR7.out (.int .i64 rx.1.1) (.int .i64 rx.1.2.1) (.slice A5 L c5))
  have HB8 := Aside0.mk (Below.setCell (Below.setCell (Below.setCell HB7.out (p := ⟨w.heap.size + 1, 0, none⟩) (Nat.le_succ _) (.int .i64 rx.1.1)) (p := ⟨w.heap.size + 1, 1, none⟩) (Nat.le_succ _) (.int .i64 rx.1.2.1)) (p := ⟨w.heap.size + 1, 2, none⟩) (Nat.le_succ _) (.slice A5 L c5))
  have HO8 := Aside0.mk (Kd.R_set (Kd.R_set (Kd.R_set HO7.out HR7.out (by simp [k43, Kd.iso, Kd.pair, Kd.int, Kd.scalar]) 0 (.int .i64 rx.1.1)) (blk_put HR7.out 0 (.int .i64 rx.1.1) rfl) (by simp [k43, Kd.iso, Kd.pair, Kd.int, Kd.scalar]) 1 (.int .i64 rx.1.2.1)) (blk_put (blk_put HR7.out 0 (.int .i64 rx.1.1) rfl) 1 (.int .i64 rx.1.2.1) rfl) (by simp [k43, Kd.iso, Kd.pair, Kd.int, Kd.scalar]) 2 (.slice A5 L c5))
  generalize ((w7.setCell ⟨w.heap.size + 1, 0, none⟩ (.int .i64 rx.1.1)).setCell ⟨w.heap.size + 1, 1, none⟩ (.int .i64 rx.1.2.1)).setCell ⟨w.heap.size + 1, 2, none⟩ (.slice A5 L c5) = w8 at *
  have c0_ : w8.cell? ⟨w.heap.size + 1, 0, none⟩ = some (.int .i64 rx.1.1) := (blk_cell HR8.out 0).trans rfl
  have c1_ : w8.cell? ⟨w.heap.size + 1, 1, none⟩ = some (.int .i64 rx.1.2.1) := (blk_cell HR8.out 1).trans rfl
  have c2_ : w8.cell? ⟨w.heap.size + 1, 2, none⟩ = some (.slice A5 L c5) := (blk_cell HR8.out 2).trans rfl
  exact bodyPost_ret (v := .tuple #[.agg #[.int .i64 rx.1.1, .int .i64 rx.1.2.1, .slice A5 L c5], .int .i64 0, .int .i64 0]) (by simp [results, Try.results45, go_sem, c0_, c1_, c2_]) rfl ⟨_, by rw [HE.out], by rw [HE.out]; exact HO8.out, HB8.out⟩

end Go.Proofs.Ytmemkmnnededgaa.H
