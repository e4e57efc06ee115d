/- Contracts of the program's package record: put over writes. -/
import Derived.Test.YtmemkmnnededgaaHD
namespace Go.Proofs.Ytmemkmnnededgaa.H
open Go.RowKit Go.Proofs.YtmemkmnnededgaaW.PrintWords Go.Proofs.YtmemkmnnededgaaW.PrintLast Go.Proofs.YtmemkmnnededgaaW.PrintMore
attribute [local go_sem] max2_int min2_int max_two min_two max_three min_three max_four min_four
set_option linter.unusedVariables false
set_option linter.unusedSimpArgs false

def wsB (l : List W27) : List Int := (l.map wB).flatten
def smallW (x : W27) : Prop := x.key.size ≤ 1000 ∧ x.val.size ≤ 1000
theorem wB_len (x : W27) (h : smallW x) : (wB x).length ≤ 2100 := by
  have h1 := tb_len x.key (by have := h.1; omega)
  have h2 := tb_len x.val (by have := h.2; omega)
  have := h.1; have := h.2
  unfold wB
  split <;> simp <;> omega
theorem wsB_len (l : List W27) (h : ∀ x ∈ l, smallW x) : (wsB l).length ≤ l.length * 2100 := by
  induction l with
  | nil => simp [wsB]
  | cons x l ih =>
    have h1 := wB_len x (h x List.mem_cons_self)
    have h2 := ih (fun y hy => h y (List.mem_cons_of_mem _ hy))
    simp [wsB] at h2 ⊢
    omega
theorem wsB_snoc (l : List W27) (k : Nat) (h : k < l.length) : wsB (l.take (k + 1)) = wsB (l.take k) ++ wB l[k] := by
  unfold wsB
  rw [List.take_succ_eq_append_getElem h, List.map_append, List.flatten_append]
  simp
theorem heap_k27 : Kd.Heap k27 := ⟨fun _ h => h⟩
theorem k27_cells {w : World} {ad : Addr} {n : Nat} {l : List W27} (h : k27.C w (some ad) n l) (j : Nat) (hj : j < l.length) :
    w.cell? (ad.add (j * 3)) = some (.string l[j].key) ∧ w.cell? ⟨(ad.add (j * 3)).block, (ad.add (j * 3)).off + 1, none⟩ = some (.string l[j].val) ∧ w.cell? ⟨(ad.add (j * 3)).block, (ad.add (j * 3)).off + 2, none⟩ = some (.bool l[j].gone) := by
  obtain ⟨ad', e, hh⟩ := h.2.2 (by have := h.1; omega)
  cases e
  obtain ⟨c, _, hK, hc⟩ := hh j _ (List.getElem?_eq_getElem hj)
  obtain ⟨_, _, rfl, rfl, ⟨_, _, rfl, rfl, rfl⟩⟩ := hK
  exact ⟨hc 0 _ rfl, by rw [← add_field _ _ 1 (by omega)]; exact hc 1 _ rfl, by rw [← add_field _ _ 2 (by omega)]; exact hc 2 _ rfl⟩

theorem WrAt.alloc {B : Nat} {w : World} {g : Nat} {xs : List Int} (h : WrAt B w g xs) (o : Obj) : WrAt B (w.alloc o) g xs := by
  obtain ⟨hge, v, hb, ho⟩ := h
  exact ⟨hge, v, blk_alloc hb o, Kd.R_alloc ho o⟩

set_option maxRecDepth 100000 in
set_option maxHeartbeats 1600000 in
theorem put27_any (B g cw : Nat) (xs : List Int) (l : List W27) (A : Option Addr) (c : Nat) (w0 w : World) (hw : WrAt B w g xs) (hcw : w.heap[cw]? = some (.cells #[.pointer (some ⟨g, 0, none⟩)] 58 (0, 0)))
    (hr : k27.C w0 A l.length l) (h0 : w0.heap.size ≤ B) (hb : Below w0.heap.size w0 w) (hs : ∀ x ∈ l, smallW x) (hn : l.length ≤ 1000) (hl : xs.length ≤ 1000000) (fv : Value) (hfv : fv = .func (.func 28) #[] #[.pointer (some ⟨cw, 0, none⟩)]) :
    Calls Try.prog 27 #[.pointer (some ⟨g, 0, none⟩), .slice A l.length c, fv] w fun e w' => e = .returned (.tuple #[]) ∧ WrAt B w' g (xs ++ nb l.length ++ wsB l) ∧ FrT TW B w w' := by
  subst hfv
  have hge := hw.ge
  have lg : g < w.heap.size := by obtain ⟨v, hv, _⟩ := hw.blk; exact blk_lt hv
  have HW := Aside0.mk hw
  have HC := Aside0.mk hcw
  have HR := Aside0.mk hr
  have H0 := Aside0.mk hb
  have HS := Aside0.mk hs
  have HNL := Aside0.mk (nb_len l.length)
  clear hw hcw hr hb hs
  go_enter Try.func27, Try.ntmps27
  go_wp2_with fail
  refine (wnum_any B g xs _ _ HW.out (by omega)).mono ?_
  rintro e w1 ⟨rfl, hw1, hf1⟩
  have HW1 := Aside0.mk hw1
  have HF1 := Aside0.mk hf1
  have HC1 := Aside0.mk (hf1.blk HC.out (by simp [TW]))
  clear hw1 hf1
  go_wp2_with fail
  go_loopw [14] (fun v14 w' => ∃ k : Nat, k ≤ l.length ∧ v14 = .int .i64 k ∧ Aside0 (WrAt B w' g (xs ++ nb l.length ++ wsB (l.take k))) ∧ Aside0 (FrT TW B w w') ∧ Aside0 (w'.heap[cw]? = some (.cells #[.pointer (some ⟨g, 0, none⟩)] 58 (0, 0)))) (fun v14 _ => l.length - (intOf v14).toNat)
  case atStart => exact ⟨0, Nat.zero_le _, rfl, ⟨by simpa [wsB] using HW1.out⟩, HF1, HC1⟩
  case round =>
    obtain ⟨k, hk, rfl, HW2, HF2, HC2⟩ := hrel
    by_cases hlt : k < l.length
    · have hr2 := C_lives heap_k27 HR.out h0 H0.out HF2.out
      obtain ⟨ad, rfl, _⟩ := hr2.2.2 (by omega)
      obtain ⟨q0, q1, q2⟩ := k27_cells hr2 k hlt
      clear hr2
      go_wp2_with fail
      refine (c28_any B g cw _ l[k] _ (HW2.out.alloc _) (blk_alloc HC2.out _) (HS.out _ (List.getElem_mem hlt)).1 (HS.out _ (List.getElem_mem hlt)).2 ?_).mono ?_
      · have h1 := wsB_len (l.take k) (fun x hx => HS.out x (List.mem_of_mem_take hx))
        have h2 := HNL.out
        rw [List.length_append, List.length_append]
        rw [List.length_take] at h1
        omega
      rintro e w3 ⟨rfl, hw3, hf3⟩
      have HW3 := Aside0.mk hw3
      have HC3 := Aside0.mk (hf3.blk (blk_alloc HC2.out _) (by simp [TW]))
      have HF3 := Aside0.mk ((HF2.out.alloc (by have := HF2.out.size; omega) _).trans hf3)
      clear hw3 hf3 q0 q1 q2
      go_wp2_with fail
      refine ⟨⟨k + 1, by omega, by go_num, ⟨?_⟩, HF3, HC3⟩, by simp [intOf]; omega⟩
      have := HW3.out
      rw [List.append_assoc, ← wsB_snoc l k hlt] at this
      exact this
    · obtain rfl : k = l.length := by omega
      go_wp2_with fail
      go_end0
      have := HW2.out
      rw [List.take_length] at this
      exact ⟨rfl, this, HF2.out⟩
end Go.Proofs.Ytmemkmnnededgaa.H
