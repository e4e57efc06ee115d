/- Contracts of the program's package record: put over pairs; PutRow, PutGone. -/
import Derived.Test.YtmemkmnnededgaaHG
namespace Go.Proofs.Ytmemkmnnededgaa.H
open Go.RowKit Go.Proofs.YtmemkmnnededgaaW.PrintWords Go.Proofs.YtmemkmnnededgaaW.PrintLast Go.Proofs.YtmemkmnnededgaaW.PrintMore
attribute [local go_sem] max2_int min2_int max_two min_two max_three min_three max_four min_four
set_option linter.unusedVariables false
set_option linter.unusedSimpArgs false

structure P43 where
  num : Int
  from_ : Int
  to_ : Int
def k43 : Kd P43 := Kd.iso (Kd.pair (Kd.int .i64) (Kd.pair (Kd.int .i64) (Kd.int .i64))) (fun x : P43 => (x.num, x.from_, x.to_))
def pB (x : P43) : List Int := nb x.num ++ (nb x.from_ ++ nb x.to_)
def psB (l : List P43) : List Int := (l.map pB).flatten
theorem pB_len (x : P43) : (pB x).length ≤ 30 := by
  have := nb_len x.num; have := nb_len x.from_; have := nb_len x.to_
  unfold pB; simp; omega
theorem psB_len (l : List P43) : (psB l).length ≤ l.length * 30 := by
  induction l with
  | nil => simp [psB]
  | cons x l ih =>
    have h1 := pB_len x
    simp [psB] at ih ⊢
    omega
theorem psB_snoc (l : List P43) (k : Nat) (h : k < l.length) : psB (l.take (k + 1)) = psB (l.take k) ++ pB l[k] := by
  unfold psB
  rw [List.take_succ_eq_append_getElem h, List.map_append, List.flatten_append]
  simp
theorem heap_k43 : Kd.Heap k43 := ⟨fun _ h => h⟩
theorem k43_cells {w : World} {ad : Addr} {n : Nat} {l : List P43} (h : k43.C w (some ad) n l) (j : Nat) (hj : j < l.length) :
    w.cell? (ad.add (j * 3)) = some (.int .i64 l[j].num) ∧ w.cell? ⟨(ad.add (j * 3)).block, (ad.add (j * 3)).off + 1, none⟩ = some (.int .i64 l[j].from_) ∧ w.cell? ⟨(ad.add (j * 3)).block, (ad.add (j * 3)).off + 2, none⟩ = some (.int .i64 l[j].to_) := by
  obtain ⟨ad', e, hh⟩ := h.2.2 (by have := h.1; omega)
  cases e
  obtain ⟨c, _, hK, hc⟩ := hh j _ (List.getElem?_eq_getElem hj)
  obtain ⟨_, _, rfl, rfl, ⟨_, _, rfl, rfl, rfl⟩⟩ := hK
  exact ⟨hc 0 _ rfl, by rw [← add_field _ _ 1 (by omega)]; exact hc 1 _ rfl, by rw [← add_field _ _ 2 (by omega)]; exact hc 2 _ rfl⟩

set_option maxRecDepth 100000 in
set_option maxHeartbeats 1600000 in
theorem c62_any (B g cw : Nat) (xs : List Int) (a b c : Int) (w : World) (hw : WrAt B w g xs) (hcw : w.heap[cw]? = some (.cells #[.pointer (some ⟨g, 0, none⟩)] 58 (0, 0))) (hl : xs.length < 140737488350000) :
    Calls Try.prog 62 #[.agg #[.int .i64 a, .int .i64 b, .int .i64 c], .pointer (some ⟨cw, 0, none⟩)] w fun e w' => e = .returned (.tuple #[]) ∧ WrAt B w' g (xs ++ pB ⟨a, b, c⟩) ∧ FrT TW B w w' := by
  have hge := hw.ge
  have lg : g < w.heap.size := by obtain ⟨v, hv, _⟩ := hw.blk; exact blk_lt hv
  have HW := Aside0.mk (hw.alloc (.cells #[.int .i64 a, .int .i64 b, .int .i64 c] 43))
  have HC := Aside0.mk (blk_alloc hcw (.cells #[.int .i64 a, .int .i64 b, .int .i64 c] 43))
  have HX := Aside0.mk (blk_new w (.cells #[.int .i64 a, .int .i64 b, .int .i64 c] 43))
  have HF := Aside0.mk ((FrT.refl TW B w).alloc (by omega) (.cells #[.int .i64 a, .int .i64 b, .int .i64 c] 43))
  have q0 : (w.alloc (.cells #[.int .i64 a, .int .i64 b, .int .i64 c] 43)).cell? ⟨cw, 0, none⟩ = some (.pointer (some ⟨g, 0, none⟩)) := (blk_cell HC.out 0).trans rfl
  have HN := Aside0.mk (And.intro (nb_len a) (nb_len b))
  clear hw hcw
  go_enter Try.func62, Try.ntmps62
  go_wp2_with fail
  refine (wnum_any B g _ a _ HW.out (by omega)).mono ?_
  rintro e w1 ⟨rfl, hw1, hf1⟩
  have HW1 := Aside0.mk hw1
  have HF1 := Aside0.mk (HF.out.trans hf1)
  have HC1 := Aside0.mk (hf1.blk HC.out (by simp [TW]))
  have HX1 := Aside0.mk (hf1.blk HX.out (by simp [TW]))
  have q1 : w1.cell? ⟨cw, 0, none⟩ = some (.pointer (some ⟨g, 0, none⟩)) := (blk_cell HC1.out 0).trans rfl
  have r1 : w1.cell? ⟨w.heap.size, 1, none⟩ = some (.int .i64 b) := (blk_cell HX1.out 1).trans rfl
  clear hw1 hf1 q0
  go_wp2_with fail
  refine (wnum_any B g _ b _ HW1.out (by have := HN.out; simp; omega)).mono ?_
  rintro e w2 ⟨rfl, hw2, hf2⟩
  have HW2 := Aside0.mk hw2
  have HF2 := Aside0.mk (HF1.out.trans hf2)
  have HC2 := Aside0.mk (hf2.blk HC1.out (by simp [TW]))
  have HX2 := Aside0.mk (hf2.blk HX1.out (by simp [TW]))
  have q2 : w2.cell? ⟨cw, 0, none⟩ = some (.pointer (some ⟨g, 0, none⟩)) := (blk_cell HC2.out 0).trans rfl
  have r2 : w2.cell? ⟨w.heap.size, 2, none⟩ = some (.int .i64 c) := (blk_cell HX2.out 2).trans rfl
  clear hw2 hf2 q1 r1
  go_wp2_with fail
  refine (wnum_any B g _ c _ HW2.out (by have := HN.out; simp; omega)).mono ?_
  rintro e w3 ⟨rfl, hw3, hf3⟩
  have HW3 := Aside0.mk hw3
  have HF3 := Aside0.mk (HF2.out.trans hf3)
  clear hw3 hf3 q2 r2
  go_wp2_with fail
  go_end0
  have := HW3.out
  rw [List.append_assoc, List.append_assoc] at this
  exact ⟨rfl, this, HF3.out⟩

set_option maxRecDepth 100000 in
set_option maxHeartbeats 1600000 in
theorem put43_any (B g cw : Nat) (xs : List Int) (l : List P43) (A : Option Addr) (c : Nat) (w0 w : World) (hw : WrAt B w g xs) (hcw : w.heap[cw]? = some (.cells #[.pointer (some ⟨g, 0, none⟩)] 58 (0, 0)))
    (hr : k43.C w0 A l.length l) (h0 : w0.heap.size ≤ B) (hb : Below w0.heap.size w0 w) (hn : l.length ≤ 1000) (hl : xs.length ≤ 1000000) (fv : Value) (hfv : fv = .func (.func 62) #[] #[.pointer (some ⟨cw, 0, none⟩)]) :
    Calls Try.prog 61 #[.pointer (some ⟨g, 0, none⟩), .slice A l.length c, fv] w fun e w' => e = .returned (.tuple #[]) ∧ WrAt B w' g (xs ++ nb l.length ++ psB l) ∧ FrT TW B w w' := by
  subst hfv
  have hge := hw.ge
  have lg : g < w.heap.size := by obtain ⟨v, hv, _⟩ := hw.blk; exact blk_lt hv
  have HW := Aside0.mk hw
  have HC := Aside0.mk hcw
  have HR := Aside0.mk hr
  have H0 := Aside0.mk hb
  have HNL := Aside0.mk (nb_len l.length)
  clear hw hcw hr hb
  go_enter Try.func61, Try.ntmps61
  go_wp2_with fail
  refine (wnum_any B g xs _ _ HW.out (by omega)).mono ?_
  rintro e w1 ⟨rfl, hw1, hf1⟩
  have HW1 := Aside0.mk hw1
  have HF1 := Aside0.mk hf1
  have HC1 := Aside0.mk (hf1.blk HC.out (by simp [TW]))
  clear hw1 hf1
  go_wp2_with fail
  go_loopw [14] (fun v14 w' => ∃ k : Nat, k ≤ l.length ∧ v14 = .int .i64 k ∧ Aside0 (WrAt B w' g (xs ++ nb l.length ++ psB (l.take k))) ∧ Aside0 (FrT TW B w w') ∧ Aside0 (w'.heap[cw]? = some (.cells #[.pointer (some ⟨g, 0, none⟩)] 58 (0, 0)))) (fun v14 _ => l.length - (intOf v14).toNat)
  case atStart => exact ⟨0, Nat.zero_le _, rfl, ⟨by simpa [psB] using HW1.out⟩, HF1, HC1⟩
  case round =>
    obtain ⟨k, hk, rfl, HW2, HF2, HC2⟩ := hrel
    by_cases hlt : k < l.length
    · have hr2 := C_lives heap_k43 HR.out h0 H0.out HF2.out
      obtain ⟨ad, rfl, _⟩ := hr2.2.2 (by omega)
      obtain ⟨q0, q1, q2⟩ := k43_cells hr2 k hlt
      clear hr2
      go_wp2_with fail
      refine (c62_any B g cw _ l[k].num l[k].from_ l[k].to_ _ (HW2.out.alloc _) (blk_alloc HC2.out _) ?_).mono ?_
      · have h1 := psB_len (l.take k)
        have h2 := HNL.out
        rw [List.length_append, List.length_append]
        rw [List.length_take] at h1
        omega
      rintro e w3 ⟨rfl, hw3, hf3⟩
      have HW3 := Aside0.mk hw3
      have HC3 := Aside0.mk (hf3.blk (blk_alloc HC2.out _) (by simp [TW]))
      have HF3 := Aside0.mk ((HF2.out.alloc (by have := HF2.out.size; omega) _).trans hf3)
      clear hw3 hf3 q0 q1 q2
      go_wp2_with fail
      refine ⟨⟨k + 1, by omega, by go_num, ⟨?_⟩, HF3, HC3⟩, by simp [intOf]; omega⟩
      have := HW3.out
      rw [List.append_assoc, ← psB_snoc l k hlt] at this
      exact this
    · obtain rfl : k = l.length := by omega
      go_wp2_with fail
      go_end0
      have := HW2.out
      rw [List.take_length] at this
      exact ⟨rfl, this, HF2.out⟩
end Go.Proofs.Ytmemkmnnededgaa.H
