/- Contracts of the program's package record: the small tests, the writer's two methods. -/
import Derived.Test.YtmemkmnnededgaaHA
namespace Go.Proofs.Ytmemkmnnededgaa.H
open Go.RowKit Go.Proofs.YtmemkmnnededgaaW.PrintWords Go.Proofs.YtmemkmnnededgaaW.PrintLast Go.Proofs.YtmemkmnnededgaaW.PrintMore
attribute [local go_sem] max2_int min2_int max_two min_two max_three min_three max_four min_four
set_option linter.unusedVariables false
set_option linter.unusedSimpArgs false

def isKeyB (s : ByteArray) : Bool := decide (1 ≤ s.size ∧ s.size ≤ 16)
def isValB (s : ByteArray) : Bool := decide (s.size ≤ 64)
def isTimeB (t : Int) : Bool := decide (0 ≤ t ∧ t < 1099511627776)
def isNumB (t : Int) : Bool := decide (1 ≤ t ∧ t ≤ 2147483647)
theorem ret_bool {a b : Bool} (h : a = b) : Ending.returned (.bool a) = .returned (.bool b) := by rw [h]
theorem toList_nil (s : ByteArray) : s.toList = [] ↔ s.size = 0 := by
  rw [ByteArray.toList_eq]
  cases s with
  | mk d => simp [ByteArray.size]

set_option maxHeartbeats 400000 in
theorem isKey_any (s : ByteArray) (w : World) : Calls Try.prog 55 #[.string s] w fun e w' => e = .returned (.bool (isKeyB s)) ∧ w' = w := by
  by_cases h0 : s.toList = []
  · have HS := Aside0.mk ((toList_nil s).1 h0)
    go_enter Try.func55, Try.ntmps55
    go_wp2_with fail
    go_ret
    exact ⟨ret_bool (by simp [isKeyB, HS.out]), rfl⟩
  · have HS := Aside0.mk (show ¬ s.size = 0 from fun h => h0 ((toList_nil s).2 h))
    have h1 : s.toList.isEmpty = false := by simpa using h0
    clear h0
    go_enter Try.func55, Try.ntmps55
    go_wp2_with fail
    go_ret
    exact ⟨ret_bool (by have := HS.out; unfold isKeyB; rw [Bool.eq_iff_iff]; simp; omega), rfl⟩
theorem isVal_any (s : ByteArray) (w : World) : Calls Try.prog 63 #[.string s] w fun e w' => e = .returned (.bool (isValB s)) ∧ w' = w := by
  go_enter Try.func63, Try.ntmps63
  go_wp2_with fail
  go_ret
  exact ⟨ret_bool (by simp [isValB]; omega), rfl⟩
theorem isTime_any (t : Int) (w : World) : Calls Try.prog 64 #[.int .i64 t] w fun e w' => e = .returned (.bool (isTimeB t)) ∧ w' = w := by
  go_enter Try.func64, Try.ntmps64
  go_wp2_with fail
  all_goals
    go_ret
    exact ⟨ret_bool (by simp [isTimeB]; omega), rfl⟩
theorem isNum_any (t : Int) (w : World) : Calls Try.prog 79 #[.int .i64 t] w fun e w' => e = .returned (.bool (isNumB t)) ∧ w' = w := by
  go_enter Try.func79, Try.ntmps79
  go_wp2_with fail
  all_goals
    go_ret
    exact ⟨ret_bool (by simp [isNumB]; omega), rfl⟩

/-! ### The writer: a block of one cell, a row of bytes of one's own -/
def TW : List TypeId := [5, 60]
structure WrAt (B : Nat) (w : World) (g : Nat) (xs : List Int) : Prop where
  ge : B ≤ g
  blk : ∃ v, w.heap[g]? = some (.cells #[v] 60 (0, 0)) ∧ U8.R 5 w B (fun _ => True) v xs
def nb (n : Int) : List Int := numB (IntKind.u64.wrap n).toNat
def tb (s : ByteArray) : List Int := numB s.size ++ bytesOf s
theorem wrap_u64_range (n : Int) : 0 ≤ IntKind.u64.wrap n ∧ IntKind.u64.wrap n < 18446744073709551616 := by
  simp [IntKind.wrap, IntKind.bits, IntKind.signed]; omega

set_option maxHeartbeats 800000 in
theorem wnum_any (B g : Nat) (xs : List Int) (n : Int) (w : World) (hw : WrAt B w g xs) (hl : xs.length < 140737488355000) :
    Calls Try.prog 26 #[.pointer (some ⟨g, 0, none⟩), .int .i64 n] w fun e w' => e = .returned (.tuple #[]) ∧ WrAt B w' g (xs ++ nb n) ∧ FrT TW B w w' := by
  obtain ⟨hge, v, hb, ho⟩ := hw
  obtain ⟨A, c, rfl, hc, hr⟩ := Kd.R_reads ho
  have HB := Aside0.mk hb
  have HR := Aside0.mk hr
  have hcell : w.cell? ⟨g, 0, none⟩ = some (.slice A xs.length c) := (blk_cell hb 0).trans rfl
  clear hb hr ho
  obtain ⟨n0, n1⟩ := wrap_u64_range n
  have HN := Aside0.mk (And.intro n0 n1)
  clear n0 n1
  go_enter Try.func26, Try.ntmps26
  go_wp2_with fail
  obtain ⟨m, hm⟩ : ∃ m : Nat, IntKind.u64.wrap n = m := ⟨(IntKind.u64.wrap n).toNat, by have := HN.out; omega⟩
  rw [hm]
  have HM := Aside0.mk hm
  clear hm
  refine (numPut_any m A c xs _ (by have := HM.out; have := HN.out; omega) HR.out hl).mono ?_
  rintro e w1 ⟨v1, rfl, ho1, hb1⟩
  have HO1 := Aside0.mk ho1
  have HB1 := Aside0.mk hb1
  have hb2 := blk_below HB.out hb1
  have HB2 := Aside0.mk hb2
  have hf : w1.frozen? ⟨g, 0, none⟩ = false := blk_frozen hb2 0
  have hcell1 : w1.cell? ⟨g, 0, none⟩ = some (.slice A xs.length c) := (blk_cell hb2 0).trans rfl
  obtain ⟨A1, c1, rfl⟩ := Kd.R_slice ho1
  clear ho1 hb1 hb2 hcell
  go_wp2_with fail
  go_end0
  have hlt := blk_lt HB.out
  refine ⟨rfl, ⟨hge, _, blk_put HB2.out 0 _ rfl, ?_⟩, ?_⟩
  · have h2 := Kd.R_lower HO1.out (show B ≤ w.heap.size by omega)
    have h3 := Kd.R_set h2 HB2.out (by simp [U8, Kd.int, Kd.scalar]) 0 (.slice A1 (xs ++ numB m).length c1)
    rw [show nb n = numB m by unfold nb; rw [HM.out]; simp]
    simpa only [List.length_append] using h3
  · exact (FrT.of_fresh (show B ≤ w.heap.size by omega) HB1.out).setCell HB2.out (by simp [TW]) hge _ _
theorem bytesOf_len (s : ByteArray) : (bytesOf s).length = s.size := by unfold bytesOf; rw [List.length_map, Array.length_toList]; rfl
theorem tb_len (s : ByteArray) (h : s.size < 140737488350000) : (tb s).length ≤ s.size + 10 := by
  have := numB_len10 (n := s.size) (by omega)
  simp [tb, bytesOf_len]; omega
theorem nb_len (n : Int) : (nb n).length ≤ 10 := by
  have := wrap_u64_range n
  exact numB_len10 (by omega)

set_option maxHeartbeats 800000 in
theorem wtext_any (B g : Nat) (xs : List Int) (t : ByteArray) (w : World) (hw : WrAt B w g xs) (ht : t.size < 140737488350000) (hl : xs.length + t.size < 140737488355000) :
    Calls Try.prog 29 #[.pointer (some ⟨g, 0, none⟩), .string t] w fun e w' => e = .returned (.tuple #[]) ∧ WrAt B w' g (xs ++ tb t) ∧ FrT TW B w w' := by
  obtain ⟨hge, v, hb, ho⟩ := hw
  obtain ⟨A, c, rfl, hc, hr⟩ := Kd.R_reads ho
  have HB := Aside0.mk hb
  have HR := Aside0.mk hr
  have hcell : w.cell? ⟨g, 0, none⟩ = some (.slice A xs.length c) := (blk_cell hb 0).trans rfl
  clear hb hr ho
  go_enter Try.func29, Try.ntmps29
  go_wp2_with fail
  refine (numPutText_any t A c xs _ ht HR.out hl).mono ?_
  rintro e w1 ⟨v1, rfl, ho1, hb1⟩
  have HO1 := Aside0.mk ho1
  have HB1 := Aside0.mk hb1
  have hb2 := blk_below HB.out hb1
  have HB2 := Aside0.mk hb2
  have hf : w1.frozen? ⟨g, 0, none⟩ = false := blk_frozen hb2 0
  have hcell1 : w1.cell? ⟨g, 0, none⟩ = some (.slice A xs.length c) := (blk_cell hb2 0).trans rfl
  obtain ⟨A1, c1, rfl⟩ := Kd.R_slice ho1
  generalize hL : (xs ++ (numB t.size ++ bytesOf t)).length = L at *
  have HL := Aside0.mk hL
  clear ho1 hb1 hb2 hcell hL
  go_wp2_with fail
  go_end0
  have hlt := blk_lt HB.out
  refine ⟨rfl, ⟨hge, _, blk_put HB2.out 0 _ rfl, ?_⟩, ?_⟩
  · exact Kd.R_set (Kd.R_lower HO1.out (show B ≤ w.heap.size by omega)) HB2.out (by simp [U8, Kd.int, Kd.scalar]) 0 (.slice A1 L c1)
  · exact (FrT.of_fresh (show B ≤ w.heap.size by omega) HB1.out).setCell HB2.out (by simp [TW]) hge _ _
end Go.Proofs.Ytmemkmnnededgaa.H
