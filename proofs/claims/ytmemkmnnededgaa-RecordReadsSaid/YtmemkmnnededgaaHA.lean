/- Contracts of the program's package num: Clone, number, Put, PutText. -/
import Derived.Test.YtmemkmnnededgaaH0
import Derived.Test.YtmemkmnnededgaaHP
namespace Go.Proofs.Ytmemkmnnededgaa.H
open Go.RowKit Go.Proofs.YtmemkmnnededgaaW.PrintWords Go.Proofs.YtmemkmnnededgaaW.PrintLast Go.Proofs.YtmemkmnnededgaaW.PrintMore
attribute [local go_sem] max2_int min2_int max_two min_two max_three min_three max_four min_four
set_option linter.unusedVariables false
set_option linter.unusedSimpArgs false

set_option maxHeartbeats 400000 in
set_option maxRecDepth 100000 in
theorem clone_any (A : Option Addr) (c : Nat) (xs : List Int) (w : World) (hr : U8.C w A xs.length xs) (hl : xs.length < 140737488355328) :
    Calls Try.prog 83 #[.slice A xs.length c] w fun e w' => ∃ v : Value, e = .returned v ∧ U8.R 5 w' w.heap.size (fun _ => True) v xs ∧ Below w.heap.size w w' := by
  have hE := fun w a n c => Lib.run_eql_slice_nil (P := Try.prog) w 28 5 a n c 0 0 Try.underlying28
  cases A with
  | none =>
    obtain rfl := C_none hr
    go_enter Try.func83, Try.ntmps83
    go_wp2_with fail
    go_ret
    exact ⟨_, rfl, Kd.R_nil _ _ _ _ _, Below.refl _ _⟩
  | some ad =>
    have HR := Aside0.mk hr
    clear hr
    go_enter Try.func83, Try.ntmps83
    go_wp2_with (at_builtin; go_must (refine Kd.R_append_rows (Kd.int .u8) (w0 := w) w.heap.size rfl (.tmp 5) (.tmp 6) 28 5 (.int .u8 0) 1 rfl Try.underlying28 info5 rfl (by decide) (by omega) _ ([] : List Int) xs _ _ _ (fun _ => True) (fun _ => False) rfl rfl (R_lit8 w [] #[] 0 _ _ rfl rfl (Nat.le_refl _) trivial (by simp)) (Kd.C_alloc HR.out _) (fun _ _ h => h) (fun _ h => h.elim) (fun _ _ => trivial) (below_alloc (Below.refl _ _) _) (by simp) (by simp; omega) ?_; intro v1 w1 ho hb hg hat))
    go_ret
    exact ⟨_, rfl, ho, hb⟩

set_option maxRecDepth 100000 in
theorem bits_or128 (m : Nat) : Go.bits .or .u8 ((m : Int) % 256) 128 = ((m % 128 + 128 : Nat) : Int) := by
  have h := (bits_nat .u8 8 (by decide) wraps_u8 (m % 256) 128 (by omega) (by omega)).2
  have e : ((m : Int) % 256) = ((m % 256 : Nat) : Int) := by omega
  have g : ∀ a : Fin 256, a.val ||| 128 = a.val % 128 + 128 := by decide
  rw [e, show (128 : Int) = ((128 : Nat) : Int) from rfl, h, g ⟨m % 256, by omega⟩]
  congr 2
  show m % 256 % 128 = m % 128
  omega

set_option maxHeartbeats 800000 in
set_option maxRecDepth 100000 in
theorem number_any (n : Nat) (v : Value) (xs : List Int) (base : Nat) (ok : Nat → Prop) (w : World) (hn : n < 18446744073709551616) (hbase : base ≤ w.heap.size) (ho : U8.R 5 w base ok v xs) (hl : xs.length < 140737488355000) :
    Calls Try.prog 82 #[v, .int .u64 n] w fun e w' => ∃ v' : Value, e = .returned v' ∧ U8.R 5 w' base (fun k => ok k ∨ w.heap.size ≤ k) v' (xs ++ numB n) ∧ Below base w w' ∧ Kept w w' ok := by
  have HO := Aside0.mk (Kd.R_mono ho (fun k hk => (Or.inl hk : ok k ∨ w.heap.size ≤ k)))
  clear ho
  have HL := Aside0.mk (show xs.length + (numB n).length < 140737488355100 by have := numB_len10 hn; omega)
  have HB := Aside0.mk (Below.refl base w)
  have HK := Aside0.mk (Kept.refl w ok)
  go_enter Try.func82, Try.ntmps82
  go_wp2
  go_loopw [0, 1] (fun v0 v1 w' => ∃ (ys : List Int) (m : Nat), v1 = .int .u64 m ∧ m < 18446744073709551616 ∧ Aside0 (ys ++ numB m = xs ++ numB n) ∧ Aside0 (U8.R 5 w' base (fun k => ok k ∨ w.heap.size ≤ k) v0 ys) ∧ Aside0 (Below base w w') ∧ Aside0 (Kept w w' ok)) (fun _ v1 _ => (intOf v1).toNat)
  case atStart => exact ⟨xs, n, rfl, hn, ⟨rfl⟩, HO, HB, HK⟩
  case round =>
    obtain ⟨ys, m, rfl, hm, HE, HO', HB', HK'⟩ := hrel
    have HLy := Aside0.mk (show ys.length < 140737488355100 by have h1 := congrArg List.length HE.out; have h2 := HL.out; simp at h1; omega)
    have hs := Aside0.mk (HK'.out.1)
    by_cases hb : (128 : Int) ≤ (m : Int)
    · have h1 : decide ((128 : Int) ≤ (m : Int)) = true := decide_eq_true hb
      go_wp2_with (at_builtin; go_must (refine app8 base rfl (.tmp 7) (.tmp 11) rfl _ ys _ (fun k => ok k ∨ w.heap.size ≤ k) rfl rfl (fun k hk => .inr (Nat.le_trans hs.out hk)) HO'.out HB'.out (Nat.le_trans hbase hs.out) (by have := HLy.out; omega) ?_; intro v1 w1 ho hb1 hg; have HO1 := Aside0.mk ho; have HB1 := Aside0.mk hb1; have HK1 := Aside0.mk (Kept.of_grown hg HK'.out (fun k e => HO'.out.1 k e)); clear ho hb1 hg))
      go_roundw
      case measure => simp [intOf]; omega
      case rel =>
        refine ⟨_, m / 128, rfl, by omega, ⟨?_⟩, HO1, HB1, HK1⟩
        have := HE.out
        rw [numB_big (by omega)] at this
        rw [bits_or128, ← this]
        simp
    · have h1 : decide ((128 : Int) ≤ (m : Int)) = false := decide_eq_false hb
      go_wp2_with (at_builtin; go_must (refine app8 base rfl (.tmp 15) (.tmp 18) rfl _ ys _ (fun k => ok k ∨ w.heap.size ≤ k) rfl rfl (fun k hk => .inr (Nat.le_trans hs.out hk)) HO'.out HB'.out (Nat.le_trans hbase hs.out) (by have := HLy.out; omega) ?_; intro v1 w1 ho hb1 hg; have HO1 := Aside0.mk ho; have HB1 := Aside0.mk hb1; have HK1 := Aside0.mk (Kept.of_grown hg HK'.out (fun k e => HO'.out.1 k e)); clear ho hb1 hg))
      go_ret
      have h2 := HE.out
      rw [numB_small (by omega)] at h2
      have h4 := HO1.out
      rw [h2] at h4
      exact ⟨v1, rfl, h4, HB1.out, HK1.out⟩

set_option maxHeartbeats 800000 in
set_option maxRecDepth 100000 in
theorem numPut_any (n : Nat) (A : Option Addr) (c : Nat) (xs : List Int) (w : World) (hn : n < 18446744073709551616) (hr : U8.C w A xs.length xs) (hl : xs.length < 140737488355000) :
    Calls Try.prog 67 #[.slice A xs.length c, .int .u64 n] w fun e w' => ∃ v' : Value, e = .returned v' ∧ U8.R 5 w' w.heap.size (fun _ => True) v' (xs ++ numB n) ∧ Below w.heap.size w w' := by
  have HR := Aside0.mk hr
  clear hr
  go_enter Try.func67, Try.ntmps67
  go_wp2_with fail
  refine (clone_any _ _ xs _ HR.out (by omega)).mono ?_
  rintro e w1 ⟨v1, rfl, ho, hb⟩
  have HO := Aside0.mk ho
  have HB := Aside0.mk hb
  have HS := Aside0.mk hb.size
  clear ho hb
  go_wp2_with fail
  refine (number_any n _ xs w.heap.size (fun _ => True) _ hn HS.out HO.out (by omega)).mono ?_
  rintro e w2 ⟨v2, rfl, ho, hb, hk⟩
  have HO2 := Aside0.mk ho
  have HB2 := Aside0.mk (HB.out.trans hb)
  clear ho hb hk
  go_wp2_with fail
  go_ret
  exact ⟨v2, rfl, Kd.R_mono HO2.out (fun _ _ => trivial), HB2.out⟩

set_option maxHeartbeats 800000 in
set_option maxRecDepth 100000 in
theorem numPutText_any (t : ByteArray) (A : Option Addr) (c : Nat) (xs : List Int) (w : World) (hn : t.size < 140737488350000) (hr : U8.C w A xs.length xs) (hl : xs.length + t.size < 140737488355000) :
    Calls Try.prog 68 #[.slice A xs.length c, .string t] w fun e w' => ∃ v' : Value, e = .returned v' ∧ U8.R 5 w' w.heap.size (fun _ => True) v' (xs ++ (numB t.size ++ bytesOf t)) ∧ Below w.heap.size w w' := by
  have HR := Aside0.mk hr
  clear hr
  have HL := Aside0.mk (numB_len10 (n := t.size) (by omega))
  go_enter Try.func68, Try.ntmps68
  go_wp2_with fail
  refine (clone_any _ _ xs _ HR.out (by omega)).mono ?_
  rintro e w1 ⟨v1, rfl, ho, hb⟩
  have HO := Aside0.mk ho
  have HB := Aside0.mk hb
  have HS := Aside0.mk hb.size
  clear ho hb
  go_wp2_with fail
  refine (number_any t.size _ xs w.heap.size (fun _ => True) _ (by omega) HS.out HO.out (by omega)).mono ?_
  rintro e w2 ⟨v2, rfl, ho, hb, hk⟩
  have HO2 := Aside0.mk ho
  have HB2 := Aside0.mk (HB.out.trans hb)
  have HS2 := Aside0.mk hb.size
  clear ho hb hk
  go_wp2_with (at_builtin; go_must (refine print_append_str (w0 := w) w.heap.size rfl (.tmp 10) (.tmp 11) 28 9 5 rfl Try.underlying28 Try.underlying9 info5 v2 (xs ++ numB t.size) t rfl rfl (Kd.own_of_R HO2.out) HB2.out (Nat.le_trans HS.out HS2.out) (by have := HL.out; simp; omega) ?_; intro v1 w1 ho hb1 hg; have HO3 := Aside0.mk ho; have HB3 := Aside0.mk hb1; clear ho hb1 hg))
  go_ret
  refine ⟨_, rfl, ?_, HB3.out⟩
  have := HO3.out
  rw [List.append_assoc] at this
  exact Kd.R_of_own this (fun _ _ => trivial)
end Go.Proofs.Ytmemkmnnededgaa.H
