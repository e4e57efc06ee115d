/- Contracts of the reference's writers: Number, Put, number, PutText, text, timed, IsKey, IsVal. -/
import Derived.Test.YtmemkmnnededgaaHC
namespace Go.Proofs.Ytmemkmnnededgaa.H
open Go.RowKit Go.Proofs.YtmemkmnnededgaaW.PrintWords Go.Proofs.YtmemkmnnededgaaW.PrintLast Go.Proofs.YtmemkmnnededgaaW.PrintMore
attribute [local go_sem] max2_int min2_int max_two min_two max_three min_three max_four min_four
set_option linter.unusedVariables false
set_option linter.unusedSimpArgs false

set_option maxHeartbeats 800000 in
set_option maxRecDepth 100000 in
theorem refNumber_any (n : Nat) (w : World) (hn : n < 18446744073709551616) :
    Calls Try.prog 84 #[.int .u64 n] w fun e w' => ∃ v' : Value, e = .returned v' ∧ U8.R 5 w' w.heap.size (fun _ => True) v' (numB n) ∧ Below w.heap.size w w' := by
  have HL := Aside0.mk (numB_len10 hn)
  have HB := Aside0.mk (Below.refl w.heap.size w)
  have HO := Aside0.mk (Kd.R_nil (d := U8) 5 w w.heap.size (fun _ => True))
  go_enter Try.func84, Try.ntmps84
  go_wp2
  go_loopw [0, 3] (fun v0 v3 w' => ∃ (ys : List Int) (m : Nat), v0 = .int .u64 m ∧ m < 18446744073709551616 ∧ Aside0 (ys ++ numB m = numB n) ∧ Aside0 (U8.R 5 w' w.heap.size (fun _ => True) v3 ys) ∧ Aside0 (Below w.heap.size w w')) (fun v0 _ _ => (intOf v0).toNat)
  case atStart => exact ⟨[], n, rfl, hn, ⟨rfl⟩, ⟨Kd.R_nil _ _ _ _ _⟩, HB⟩
  case round =>
    obtain ⟨ys, m, rfl, hm, HE, HO', HB'⟩ := hrel
    have HLy := Aside0.mk (show ys.length < 1000 by have h1 := congrArg List.length HE.out; have h2 := HL.out; simp at h1; omega)
    by_cases hb : (128 : Int) ≤ (m : Int)
    · have h1 : decide ((128 : Int) ≤ (m : Int)) = true := decide_eq_true hb
      go_wp2_with (at_builtin; go_must (refine app8 w.heap.size rfl (.tmp 6) (.tmp 11) rfl _ ys _ (fun _ => True) rfl rfl (fun _ _ => trivial) HO'.out HB'.out HB'.out.size (by have := HLy.out; omega) ?_; intro v1 w1 ho hb1 hg; have HO1 := Aside0.mk ho; have HB1 := Aside0.mk hb1; clear ho hb1 hg))
      go_roundw
      case measure => simp [intOf]; omega
      case rel =>
        refine ⟨_, m / 128, rfl, by omega, ⟨?_⟩, HO1, HB1⟩
        have := HE.out
        rw [numB_big (by omega)] at this
        have eb : (m : Int) % 128 + 128 = ((m % 128 + 128 : Nat) : Int) := by omega
        rw [eb, ← this]
        simp
    · have h1 : decide ((128 : Int) ≤ (m : Int)) = false := decide_eq_false hb
      go_wp2_with (at_builtin; go_must (refine app8 w.heap.size rfl (.tmp 15) (.tmp 18) rfl _ ys _ (fun _ => True) rfl rfl (fun _ _ => trivial) HO'.out HB'.out HB'.out.size (by have := HLy.out; omega) ?_; intro v1 w1 ho hb1 hg; have HO1 := Aside0.mk ho; have HB1 := Aside0.mk hb1; clear ho hb1 hg))
      go_ret
      have h2 := HE.out
      rw [numB_small (by omega)] at h2
      have h4 := HO1.out
      rw [h2] at h4
      exact ⟨v1, rfl, h4, HB1.out⟩

set_option maxHeartbeats 800000 in
set_option maxRecDepth 100000 in
theorem refPut_any (n : Nat) (A : Option Addr) (c : Nat) (xs : List Int) (w : World) (hn : n < 18446744073709551616) (hr : U8.C w A xs.length xs) (hl : xs.length < 140737488355000) :
    Calls Try.prog 72 #[.slice A xs.length c, .int .u64 n] w fun e w' => ∃ v' : Value, e = .returned v' ∧ U8.R 5 w' w.heap.size (fun _ => True) v' (xs ++ numB n) ∧ Below w.heap.size w w' := by
  have HR := Aside0.mk hr
  have HL := Aside0.mk (numB_len10 hn)
  clear hr
  go_enter Try.func72, Try.ntmps72
  go_wp2_with (at_builtin; go_must (refine Kd.R_append_rows (Kd.int .u8) (w0 := w) w.heap.size rfl (.tmp 6) (.tmp 7) 28 5 (.int .u8 0) 1 rfl Try.underlying28 info5 rfl (by decide) (by omega) _ ([] : List Int) xs _ _ _ (fun _ => True) (fun _ => False) rfl rfl (Kd.R_nil _ _ _ _ _) HR.out (fun _ _ h => h) (fun _ h => h.elim) (fun _ _ => trivial) (Below.refl _ _) (Nat.le_refl _) (by simp; omega) ?_; intro v1 w1 ho hb hg hat; have HO := Aside0.mk ho; have HB := Aside0.mk hb; clear ho hb hg hat))
  refine (refNumber_any n _ hn).mono ?_
  rintro e w2 ⟨v2, rfl, ho, hb⟩
  have HO2 := Aside0.mk (Kd.R_below HO.out hb)
  have HB2 := Aside0.mk (below_then HB.out HB.out.size hb)
  obtain ⟨A2, c2, rfl⟩ := Kd.R_slice ho
  have HR2 := Aside0.mk (Kd.R_reads' ho).2.2
  clear ho hb
  go_wp2_with (at_builtin; go_must (refine Kd.R_append_rows (Kd.int .u8) (w0 := w) w.heap.size rfl (.tmp 9) (.tmp 11) 28 5 (.int .u8 0) 1 rfl Try.underlying28 info5 rfl (by decide) (by omega) _ ([] ++ xs) (numB n) _ _ _ (fun _ => True) (fun _ => False) rfl rfl HO2.out HR2.out (fun _ _ h => h) (fun _ h => h.elim) (fun _ _ => trivial) HB2.out HB2.out.size (by have := HL.out; simp; omega) ?_; intro v3 w3 ho hb hg hat; have HO3 := Aside0.mk ho; have HB3 := Aside0.mk hb; clear ho hb hg hat))
  go_ret
  exact ⟨_, rfl, HO3.out, HB3.out⟩

set_option maxHeartbeats 800000 in
set_option maxRecDepth 100000 in
theorem refnum_any (n : Int) (A : Option Addr) (c : Nat) (xs : List Int) (w : World) (hr : U8.C w A xs.length xs) (hl : xs.length < 140737488355000) :
    Calls Try.prog 31 #[.slice A xs.length c, .int .i64 n] w fun e w' => ∃ v' : Value, e = .returned v' ∧ U8.R 5 w' w.heap.size (fun _ => True) v' (xs ++ nb n) ∧ Below w.heap.size w w' := by
  have HR := Aside0.mk hr
  obtain ⟨r0, r1⟩ := wrap_u64_range n
  have hw : ((IntKind.u64.wrap n).toNat : Int) = IntKind.u64.wrap n := Int.toNat_of_nonneg r0
  have HW := Aside0.mk hw
  have hcall := refPut_any (IntKind.u64.wrap n).toNat A c xs w (by omega) hr hl
  rw [hw] at hcall
  have HX := Aside0.mk hcall
  clear hr hw hcall
  unfold nb
  go_enter Try.func31, Try.ntmps31
  go_wp2_with fail
  refine HX.out.mono ?_
  rintro e w1 ⟨v1, rfl, ho, hb⟩
  have HO := Aside0.mk ho
  have HB := Aside0.mk hb
  clear ho hb
  go_wp2_with fail
  go_ret
  exact ⟨v1, rfl, HO.out, HB.out⟩

set_option maxHeartbeats 800000 in
set_option maxRecDepth 100000 in
theorem refPutText_any (t : ByteArray) (A : Option Addr) (c : Nat) (xs : List Int) (w : World) (hn : t.size < 140737488350000) (hr : U8.C w A xs.length xs) (hl : xs.length + t.size < 140737488355000) :
    Calls Try.prog 73 #[.slice A xs.length c, .string t] w fun e w' => ∃ v' : Value, e = .returned v' ∧ U8.R 5 w' w.heap.size (fun _ => True) v' (xs ++ tb t) ∧ Below w.heap.size w w' := by
  have HR := Aside0.mk hr
  have HL := Aside0.mk (numB_len10 (n := t.size) (by omega))
  have HX := Aside0.mk (refPut_any t.size A c xs w (by omega) hr (by omega))
  clear hr
  go_enter Try.func73, Try.ntmps73
  go_wp2_with fail
  refine HX.out.mono ?_
  rintro e w2 ⟨v2, rfl, ho, hb⟩
  have HO2 := Aside0.mk ho
  have HB2 := Aside0.mk hb
  clear ho hb
  go_wp2_with (at_builtin; go_must (refine print_append_str (w0 := w) w.heap.size rfl (.tmp 11) (.tmp 12) 28 9 5 rfl Try.underlying28 Try.underlying9 info5 v2 (xs ++ numB t.size) t rfl rfl (Kd.own_of_R HO2.out) HB2.out HB2.out.size (by have := HL.out; simp; omega) ?_; intro v1 w1 ho hb1 hg; have HO3 := Aside0.mk ho; have HB3 := Aside0.mk hb1; clear ho hb1 hg))
  go_ret
  refine ⟨_, rfl, ?_, HB3.out⟩
  have := HO3.out
  rw [List.append_assoc] at this
  exact Kd.R_of_own this (fun _ _ => trivial)

set_option maxHeartbeats 800000 in
set_option maxRecDepth 100000 in
theorem reftext_any (t : ByteArray) (A : Option Addr) (c : Nat) (xs : List Int) (w : World) (hn : t.size < 140737488350000) (hr : U8.C w A xs.length xs) (hl : xs.length + t.size < 140737488355000) :
    Calls Try.prog 32 #[.slice A xs.length c, .string t] w fun e w' => ∃ v' : Value, e = .returned v' ∧ U8.R 5 w' w.heap.size (fun _ => True) v' (xs ++ tb t) ∧ Below w.heap.size w w' := by
  have HX := Aside0.mk (refPutText_any t A c xs w hn hr hl)
  clear hr
  go_enter Try.func32, Try.ntmps32
  go_wp2_with fail
  refine HX.out.mono ?_
  rintro e w1 ⟨v1, rfl, ho, hb⟩
  have HO := Aside0.mk ho
  have HB := Aside0.mk hb
  clear ho hb
  go_wp2_with fail
  go_ret
  exact ⟨v1, rfl, HO.out, HB.out⟩

theorem refIsKey_any (s : ByteArray) (w : World) : Calls Try.prog 70 #[.string s] w fun e w' => e = .returned (.bool (isKeyB s)) ∧ w' = w := by
  go_enter Try.func70, Try.ntmps70
  go_wp2_with fail
  all_goals
    go_ret
    exact ⟨ret_bool (by unfold isKeyB; rw [Bool.eq_iff_iff]; simp; omega), rfl⟩
theorem refIsVal_any (s : ByteArray) (w : World) : Calls Try.prog 71 #[.string s] w fun e w' => e = .returned (.bool (isValB s)) ∧ w' = w := by
  go_enter Try.func71, Try.ntmps71
  go_wp2_with fail
  go_ret
  exact ⟨ret_bool (by simp [isValB]; omega), rfl⟩
theorem refTimed_any (t : Int) (w : World) : Calls Try.prog 69 #[.int .i64 t] w fun e w' => e = .returned (.bool (isTimeB t)) ∧ w' = w := by
  go_enter Try.func69, Try.ntmps69
  go_wp2_with fail
  all_goals
    go_ret
    exact ⟨ret_bool (by simp [isTimeB]; omega), rfl⟩
theorem refIsKey_is (s : ByteArray) (b : Bool) (h : isKeyB s = b) (w : World) : Calls Try.prog 70 #[.string s] w fun e w' => e = .returned (.bool b) ∧ w' = w := h ▸ refIsKey_any s w
theorem refIsVal_is (s : ByteArray) (b : Bool) (h : isValB s = b) (w : World) : Calls Try.prog 71 #[.string s] w fun e w' => e = .returned (.bool b) ∧ w' = w := h ▸ refIsVal_any s w
theorem refTimed_is (t : Int) (b : Bool) (h : isTimeB t = b) (w : World) : Calls Try.prog 69 #[.int .i64 t] w fun e w' => e = .returned (.bool b) ∧ w' = w := h ▸ refTimed_any t w
end Go.Proofs.Ytmemkmnnededgaa.H
