/- Contracts of the program's package record: PutRow, PutGone. -/
import Derived.Test.YtmemkmnnededgaaHI
namespace Go.Proofs.Ytmemkmnnededgaa.H
open Go.RowKit Go.Proofs.YtmemkmnnededgaaW.PrintWords Go.Proofs.YtmemkmnnededgaaW.PrintLast Go.Proofs.YtmemkmnnededgaaW.PrintMore
attribute [local go_sem] max2_int min2_int max_two min_two max_three min_three max_four min_four
set_option linter.unusedVariables false
set_option linter.unusedSimpArgs false

/-- The writer of a row, of what is gone, as it is made: a byte, its struct. -/
theorem wr_new2 (w : World) (x : Int) :
    WrAt w.heap.size ((w.alloc (.cells #[.int .u8 x] 5)).alloc (.cells #[.slice (some ⟨w.heap.size, 0, none⟩) 1 1] 60)) (w.heap.size + 1) [x] ∧
    Below w.heap.size w ((w.alloc (.cells #[.int .u8 x] 5)).alloc (.cells #[.slice (some ⟨w.heap.size, 0, none⟩) 1 1] 60)) := by
  refine ⟨⟨by omega, _, ?_, Kd.R_alloc (R_lit8 w [x] _ 1 _ _ rfl rfl (Nat.le_refl _) trivial (by simp)) _⟩, ?_⟩
  · have := blk_new (w.alloc (.cells #[.int .u8 x] 5)) (.cells #[.slice (some ⟨w.heap.size, 0, none⟩) 1 1] 60)
    rwa [size_alloc] at this
  · exact below_alloc (below_alloc (Below.refl _ _) _) _

def rightR (key val : ByteArray) (t : Int) : Bool := isKeyB key && (isValB val && isTimeB t)
def rightG (key : ByteArray) (t : Int) : Bool := isKeyB key && isTimeB t
def rowB (key val : ByteArray) (t : Int) : List Int := 82 :: (tb key ++ (tb val ++ nb t))
def goneB (key : ByteArray) (t : Int) : List Int := 71 :: (tb key ++ nb t)
def putR (key val : ByteArray) (t : Int) : List Int × Int := if rightR key val t = true then (rowB key val t, 0) else ([], 60)
def putG (key : ByteArray) (t : Int) : List Int × Int := if rightG key t = true then (goneB key t, 0) else ([], 60)

set_option maxRecDepth 100000 in
set_option maxHeartbeats 1600000 in
theorem putRow_nokey (key val : ByteArray) (t : Int) (w : World) (hk : isKeyB key = false) :
    Calls Try.prog 23 #[.agg #[.string key, .string val, .int .i64 t]] w fun e w' => ∃ v : Value, e = .returned (.tuple #[v, .int .i64 60]) ∧ U8.R 5 w' w.heap.size (fun _ => True) v [] ∧ Below w.heap.size w w' := by
  have HK := Aside0.mk hk
  clear hk
  go_enter Try.func23, Try.ntmps23
  go_wp2_with fail
  refine (isKey_is key _ HK.out _).mono ?_
  rintro e w1 ⟨rfl, rfl⟩
  go_wp2_with fail
  go_ret2
  exact ⟨_, rfl, Kd.R_nil _ _ _ _ _, below_alloc (Below.refl _ _) _⟩

set_option maxRecDepth 100000 in
set_option maxHeartbeats 1600000 in
theorem putRow_noval (key val : ByteArray) (t : Int) (w : World) (hk : isKeyB key = true) (hv : isValB val = false) :
    Calls Try.prog 23 #[.agg #[.string key, .string val, .int .i64 t]] w fun e w' => ∃ v : Value, e = .returned (.tuple #[v, .int .i64 60]) ∧ U8.R 5 w' w.heap.size (fun _ => True) v [] ∧ Below w.heap.size w w' := by
  have HK := Aside0.mk hk
  have HV := Aside0.mk hv
  clear hk hv
  go_enter Try.func23, Try.ntmps23
  go_wp2_with fail
  refine (isKey_is key _ HK.out _).mono ?_
  rintro e w1 ⟨rfl, rfl⟩
  go_wp2_with fail
  refine (isVal_is val _ HV.out _).mono ?_
  rintro e w1 ⟨rfl, rfl⟩
  go_wp2_with fail
  go_ret2
  exact ⟨_, rfl, Kd.R_nil _ _ _ _ _, below_alloc (Below.refl _ _) _⟩

set_option maxRecDepth 100000 in
set_option maxHeartbeats 1600000 in
theorem putRow_notime (key val : ByteArray) (t : Int) (w : World) (hk : isKeyB key = true) (hv : isValB val = true) (ht : isTimeB t = false) :
    Calls Try.prog 23 #[.agg #[.string key, .string val, .int .i64 t]] w fun e w' => ∃ v : Value, e = .returned (.tuple #[v, .int .i64 60]) ∧ U8.R 5 w' w.heap.size (fun _ => True) v [] ∧ Below w.heap.size w w' := by
  have HK := Aside0.mk hk
  have HV := Aside0.mk hv
  have HT := Aside0.mk ht
  clear hk hv ht
  go_enter Try.func23, Try.ntmps23
  go_wp2_with fail
  refine (isKey_is key _ HK.out _).mono ?_
  rintro e w1 ⟨rfl, rfl⟩
  go_wp2_with fail
  refine (isVal_is val _ HV.out _).mono ?_
  rintro e w1 ⟨rfl, rfl⟩
  go_wp2_with fail
  refine (isTime_is t _ HT.out _).mono ?_
  rintro e w1 ⟨rfl, rfl⟩
  go_wp2_with fail
  go_ret2
  exact ⟨_, rfl, Kd.R_nil _ _ _ _ _, below_alloc (Below.refl _ _) _⟩

set_option maxRecDepth 100000 in
set_option maxHeartbeats 1600000 in
theorem putGone_nokey (key : ByteArray) (t : Int) (w : World) (hk : isKeyB key = false) :
    Calls Try.prog 24 #[.agg #[.string key, .int .i64 t]] w fun e w' => ∃ v : Value, e = .returned (.tuple #[v, .int .i64 60]) ∧ U8.R 5 w' w.heap.size (fun _ => True) v [] ∧ Below w.heap.size w w' := by
  have HK := Aside0.mk hk
  clear hk
  go_enter Try.func24, Try.ntmps24
  go_wp2_with fail
  refine (isKey_is key _ HK.out _).mono ?_
  rintro e w1 ⟨rfl, rfl⟩
  go_wp2_with fail
  go_ret2
  exact ⟨_, rfl, Kd.R_nil _ _ _ _ _, below_alloc (Below.refl _ _) _⟩

set_option maxRecDepth 100000 in
set_option maxHeartbeats 1600000 in
theorem putGone_notime (key : ByteArray) (t : Int) (w : World) (hk : isKeyB key = true) (ht : isTimeB t = false) :
    Calls Try.prog 24 #[.agg #[.string key, .int .i64 t]] w fun e w' => ∃ v : Value, e = .returned (.tuple #[v, .int .i64 60]) ∧ U8.R 5 w' w.heap.size (fun _ => True) v [] ∧ Below w.heap.size w w' := by
  have HK := Aside0.mk hk
  have HT := Aside0.mk ht
  clear hk ht
  go_enter Try.func24, Try.ntmps24
  go_wp2_with fail
  refine (isKey_is key _ HK.out _).mono ?_
  rintro e w1 ⟨rfl, rfl⟩
  go_wp2_with fail
  refine (isTime_is t _ HT.out _).mono ?_
  rintro e w1 ⟨rfl, rfl⟩
  go_wp2_with fail
  go_ret2
  exact ⟨_, rfl, Kd.R_nil _ _ _ _ _, below_alloc (Below.refl _ _) _⟩

set_option maxRecDepth 100000 in
set_option maxHeartbeats 1600000 in
theorem putRow_good (key val : ByteArray) (t : Int) (w : World) (hk : isKeyB key = true) (hv : isValB val = true) (ht : isTimeB t = true) (hks : key.size ≤ 1000) (hvs : val.size ≤ 1000) :
    Calls Try.prog 23 #[.agg #[.string key, .string val, .int .i64 t]] w fun e w' => ∃ v : Value, e = .returned (.tuple #[v, .int .i64 0]) ∧ U8.R 5 w' w.heap.size (fun _ => True) v (rowB key val t) ∧ Below w.heap.size w w' := by
  have HK := Aside0.mk hk
  have HV := Aside0.mk hv
  have HT := Aside0.mk ht
  clear hk hv ht
  have HX := Aside0.mk (blk_new w (.cells #[.string key, .string val, .int .i64 t] 45))
  have HB := Aside0.mk (below_alloc (Below.refl w.heap.size w) (.cells #[.string key, .string val, .int .i64 t] 45))
  have HTK := Aside0.mk (tb_len key (by omega))
  have HTV := Aside0.mk (tb_len val (by omega))
  have hsz : w.heap.size < (w.alloc (.cells #[.string key, .string val, .int .i64 t] 45)).heap.size := blk_lt HX.out
  have HSZ := Aside0.mk hsz
  have hW := wr_new2 (w.alloc (.cells #[.string key, .string val, .int .i64 t] 45)) 82
  have hX0 := blk_below HX.out hW.2
  have hB0 := below_then HB.out (Nat.le_of_lt hsz) hW.2
  simp only [size_alloc] at hW hX0 hB0
  have HX0 := Aside0.mk hX0
  have HB0 := Aside0.mk hB0
  have HW0 := Aside0.mk hW.1
  clear hW hX0 hB0
  clear hsz
  go_enter Try.func23, Try.ntmps23
  go_wp2_with fail
  refine (isKey_is key _ HK.out _).mono ?_
  rintro e w1 ⟨rfl, rfl⟩
  go_wp2_with fail
  refine (isVal_is val _ HV.out _).mono ?_
  rintro e w1 ⟨rfl, rfl⟩
  go_wp2_with fail
  refine (isTime_is t _ HT.out _).mono ?_
  rintro e w1 ⟨rfl, rfl⟩
  go_wp2_with fail
  refine (wtext_any _ _ _ key _ HW0.out (by omega) (by have := HTK.out; have := HTV.out; simp; omega)).mono ?_
  rintro e w2 ⟨rfl, hw1, hf1⟩
  have HW1 := Aside0.mk hw1
  have HX1 := Aside0.mk (hf1.blk HX0.out (by simp [TW]))
  have HB1 := Aside0.mk (HB0.out.trans (hf1.below.mono (Nat.le_succ _)))
  have q1 : w2.cell? ⟨w.heap.size, 1, none⟩ = some (.string val) := (blk_cell HX1.out 1).trans rfl
  clear hf1 hw1
  go_wp2_with fail
  refine (wtext_any _ _ _ val _ HW1.out (by omega) (by have := HTK.out; have := HTV.out; simp; omega)).mono ?_
  rintro e w3 ⟨rfl, hw2, hf2⟩
  have HW2 := Aside0.mk hw2
  have HX2 := Aside0.mk (hf2.blk HX1.out (by simp [TW]))
  have HB2 := Aside0.mk (HB1.out.trans (hf2.below.mono (Nat.le_succ _)))
  have q2 : w3.cell? ⟨w.heap.size, 2, none⟩ = some (.int .i64 t) := (blk_cell HX2.out 2).trans rfl
  clear hf2 hw2 q1
  go_wp2_with fail
  refine (wnum_any _ _ _ t _ HW2.out (by have := HTK.out; have := HTV.out; simp; omega)).mono ?_
  rintro e w4 ⟨rfl, hw3, hf3⟩
  have HW3 := Aside0.mk hw3
  have HX3 := Aside0.mk (hf3.blk HX2.out (by simp [TW]))
  have HB3 := Aside0.mk (HB2.out.trans (hf3.below.mono (Nat.le_succ _)))
  obtain ⟨_, v, hv5, ho5⟩ := hw3
  have hg5 : w4.cell? ⟨w.heap.size + 1 + 1, 0, none⟩ = some v := (blk_cell hv5 0).trans rfl
  have HO5 := Aside0.mk ho5
  clear hv5 ho5
  clear hf3 q2
  go_wp2_with fail
  go_ret2
  refine ⟨v, rfl, ?_, HB3.out⟩
  have h6 := Kd.R_lower HO5.out (Nat.le_succ _)
  simpa [rowB, goneB] using h6

set_option maxRecDepth 100000 in
set_option maxHeartbeats 1600000 in
theorem putGone_good (key : ByteArray) (t : Int) (w : World) (hk : isKeyB key = true) (ht : isTimeB t = true) (hks : key.size ≤ 1000) :
    Calls Try.prog 24 #[.agg #[.string key, .int .i64 t]] w fun e w' => ∃ v : Value, e = .returned (.tuple #[v, .int .i64 0]) ∧ U8.R 5 w' w.heap.size (fun _ => True) v (goneB key t) ∧ Below w.heap.size w w' := by
  have HK := Aside0.mk hk
  have HT := Aside0.mk ht
  clear hk ht
  have HX := Aside0.mk (blk_new w (.cells #[.string key, .int .i64 t] 49))
  have HB := Aside0.mk (below_alloc (Below.refl w.heap.size w) (.cells #[.string key, .int .i64 t] 49))
  have HTK := Aside0.mk (tb_len key (by omega))
  have hsz : w.heap.size < (w.alloc (.cells #[.string key, .int .i64 t] 49)).heap.size := blk_lt HX.out
  have HSZ := Aside0.mk hsz
  have hW := wr_new2 (w.alloc (.cells #[.string key, .int .i64 t] 49)) 71
  have hX0 := blk_below HX.out hW.2
  have hB0 := below_then HB.out (Nat.le_of_lt hsz) hW.2
  simp only [size_alloc] at hW hX0 hB0
  have HX0 := Aside0.mk hX0
  have HB0 := Aside0.mk hB0
  have HW0 := Aside0.mk hW.1
  clear hW hX0 hB0
  clear hsz
  go_enter Try.func24, Try.ntmps24
  go_wp2_with fail
  refine (isKey_is key _ HK.out _).mono ?_
  rintro e w1 ⟨rfl, rfl⟩
  go_wp2_with fail
  refine (isTime_is t _ HT.out _).mono ?_
  rintro e w1 ⟨rfl, rfl⟩
  go_wp2_with fail
  refine (wtext_any _ _ _ key _ HW0.out (by omega) (by have := HTK.out; simp; omega)).mono ?_
  rintro e w2 ⟨rfl, hw1, hf1⟩
  have HW1 := Aside0.mk hw1
  have HX1 := Aside0.mk (hf1.blk HX0.out (by simp [TW]))
  have HB1 := Aside0.mk (HB0.out.trans (hf1.below.mono (Nat.le_succ _)))
  have q1 : w2.cell? ⟨w.heap.size, 1, none⟩ = some (.int .i64 t) := (blk_cell HX1.out 1).trans rfl
  clear hf1 hw1
  go_wp2_with fail
  refine (wnum_any _ _ _ t _ HW1.out (by have := HTK.out; simp; omega)).mono ?_
  rintro e w3 ⟨rfl, hw2, hf2⟩
  have HW2 := Aside0.mk hw2
  have HX2 := Aside0.mk (hf2.blk HX1.out (by simp [TW]))
  have HB2 := Aside0.mk (HB1.out.trans (hf2.below.mono (Nat.le_succ _)))
  obtain ⟨_, v, hv5, ho5⟩ := hw2
  have hg5 : w3.cell? ⟨w.heap.size + 1 + 1, 0, none⟩ = some v := (blk_cell hv5 0).trans rfl
  have HO5 := Aside0.mk ho5
  clear hv5 ho5
  clear hf2 q1
  go_wp2_with fail
  go_ret2
  refine ⟨v, rfl, ?_, HB2.out⟩
  have h6 := Kd.R_lower HO5.out (Nat.le_succ _)
  simpa [rowB, goneB] using h6

theorem putRow_any (key val : ByteArray) (t : Int) (w : World) :
    Calls Try.prog 23 #[.agg #[.string key, .string val, .int .i64 t]] w fun e w' => ∃ v : Value, e = .returned (.tuple #[v, .int .i64 (putR key val t).2]) ∧ U8.R 5 w' w.heap.size (fun _ => True) v (putR key val t).1 ∧ Below w.heap.size w w' := by
  unfold putR rightR
  cases hk : isKeyB key with
  | false => simpa using putRow_nokey key val t w hk
  | true =>
    cases hv : isValB val with
    | false => simpa using putRow_noval key val t w hk hv
    | true =>
      cases ht : isTimeB t with
      | false => simpa using putRow_notime key val t w hk hv ht
      | true => simpa using putRow_good key val t w hk hv ht (by simp [isKeyB] at hk; omega) (by simp [isValB] at hv; omega)
theorem putGone_any (key : ByteArray) (t : Int) (w : World) :
    Calls Try.prog 24 #[.agg #[.string key, .int .i64 t]] w fun e w' => ∃ v : Value, e = .returned (.tuple #[v, .int .i64 (putG key t).2]) ∧ U8.R 5 w' w.heap.size (fun _ => True) v (putG key t).1 ∧ Below w.heap.size w w' := by
  unfold putG rightG
  cases hk : isKeyB key with
  | false => simpa using putGone_nokey key t w hk
  | true =>
    cases ht : isTimeB t with
    | false => simpa using putGone_notime key t w hk ht
    | true => simpa using putGone_good key t w hk ht (by simp [isKeyB] at hk; omega)
end Go.Proofs.Ytmemkmnnededgaa.H
