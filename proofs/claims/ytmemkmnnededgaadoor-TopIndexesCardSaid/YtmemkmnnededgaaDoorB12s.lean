/- Contract: a row of strings of one's own, sorted. -/
import Derived.Test.YtmemkmnnededgaaDoorH0
import Derived.Test.YtmemkmnnededgaaDoorShelf
import Derived.Shelf.Slices.In.SortNone
import Derived.Sort.OwnSorted
namespace Go.Proofs.YtmemkmnnededgaaDoor.H
open Go.Sort Go.RowKit Go.Proofs.YtmemkmnnededgaaDoorW.PrintWords Go.Proofs.YtmemkmnnededgaaDoorW.PrintLast Go.Proofs.YtmemkmnnededgaaDoorW.PrintMore
set_option linter.unusedVariables false
set_option linter.unusedSimpArgs false

def sortB (l : List ByteArray) : List ByteArray := ((l.map (fun b => b.data.toList)).mergeSort (fun x y => decide (x ≤ y))).map (fun x => ⟨x.toArray⟩)
theorem sortB_length (l : List ByteArray) : (sortB l).length = l.length := by simp [sortB]
theorem encs_sortB (l : List ByteArray) : encs Value.string (sortB l) = ((l.map (fun b => b.data.toList)).mergeSort (fun x y => decide (x ≤ y))).map encStr := by
  simp [encs, sortB, encStr]
theorem encs_str (l : List ByteArray) : encs Value.string l = (l.map (fun b => b.data.toList)).map encStr := by
  simp [encs, encStr]
theorem inner_str {w : World} {e base : Nat} {ok : Nat → Prop} {v : Value} {xs : List ByteArray} (h : Kd.string.R e w base ok v xs) : w.ownsRow base e 1 v xs.length (encs Value.string xs) := by
  obtain ⟨_, inner, ho, hlen, hr⟩ := h
  have e2 : inner = encs Value.string xs := by
    apply List.ext_getElem?
    intro j
    by_cases hj : j < xs.length
    · have h1 := hr j _ (List.getElem?_eq_getElem hj)
      have hj2 : j < inner.length := by rw [hlen]; simpa [Kd.string, Kd.scalar] using hj
      have h3 : (inner.drop j).take 1 = [Value.string xs[j]] := by simpa [Kd.string, Kd.scalar] using h1
      rw [List.drop_eq_getElem_cons hj2] at h3
      simp only [List.take_succ_cons, List.take_zero] at h3
      injection h3 with h3
      rw [List.getElem?_eq_getElem hj2, h3]
      simp [encs, hj]
    · rw [List.getElem?_eq_none (by rw [hlen]; simp [Kd.string, Kd.scalar]; omega), List.getElem?_eq_none (by simp [encs]; omega)]
  rw [← e2]
  exact ho
theorem sort_any (w : World) (base : Nat) (v : Value) (xs : List ByteArray) (hl : xs.length < 1000000) (h : Kd.string.R 9 w base (fun _ => True) v xs) :
    Calls Tryd.prog 21 #[v] w fun e w' => e = .returned (.tuple #[]) ∧ Kd.string.R 9 w' base (fun _ => True) v (sortB xs) ∧ w.grownBy w' v.ownBlock := by
  obtain ⟨h1, h2 | ⟨g, cap, cur, hv, hg, hb, hn, hc, hs, ht⟩⟩ := inner_str h
  · obtain ⟨rfl, hx⟩ := h2
    have hx' : xs = [] := List.length_eq_zero_iff.1 hx
    subst hx'
    refine (Any.slices_Sort_string_none Tryd.lays190 none 0 w).mono ?_
    rintro e w' ⟨rfl, rfl⟩
    exact ⟨rfl, by simpa [sortB] using h, ⟨rfl, rfl, rfl, Nat.le_refl _, fun _ _ _ => rfl⟩⟩
  · subst hv
    rw [encs_str] at ht
    have hH := holds_of_block (ss := xs.map (fun b => b.data.toList)) hb (by simpa using ht)
    have hq := Any.slices_Sort_string Tryd.lays190 g 0 cap (xs.map (fun b => b.data.toList)) w hH (blk_lt hb) (by simp; omega)
    rw [List.length_map] at hq
    refine hq.mono ?_
    rintro e w' ⟨rfl, n, os, rfl⟩
    refine ⟨rfl, Kd.R_of_own ?_ (fun _ _ => trivial), grownBy_sorted _⟩
    rw [encs_sortB, sortB_length]
    have := ownsRow_sorted (n := n) (os := os) (ss := xs.map (fun b => b.data.toList)) (ts := (xs.map (fun b => b.data.toList)).mergeSort (fun x y => decide (x ≤ y))) (by simp) hg hb (by simpa using hn) hc hs
    simpa using this
end Go.Proofs.YtmemkmnnededgaaDoor.H
