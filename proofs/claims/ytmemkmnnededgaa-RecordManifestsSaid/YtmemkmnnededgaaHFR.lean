/- What the arguments of the laws are read as: commits, rows, manifests that came in, opened. -/
import Derived.Test.YtmemkmnnededgaaRows
import Derived.Test.YtmemkmnnededgaaHZ
import Derived.ProofKit
import Derived.OpenShut
import Derived.ShutString
import Derived.ChangeOld
import Derived.SizedLaws
import Derived.Deep.Slices
import Derived.Deep.SlicePairs
import Derived.Deep.Strs
namespace Go.Proofs.Ytmemkmnnededgaa.H
open Go.ChangeShapes Go.WideShapes Go.ChangeAt Go.RowKit Go.Proofs.YtmemkmnnededgaaW.PrintWords
set_option linter.unusedVariables false
set_option linter.unusedSimpArgs false
theorem cells2 : Try.prog.cellsOf 2 = 1 := by kernel_rfl
theorem cells3 : Try.prog.cellsOf 3 = 1 := by kernel_rfl
theorem cells4 : Try.prog.cellsOf 4 = 1 := by kernel_rfl
theorem cells9 : Try.prog.cellsOf 9 = 1 := by kernel_rfl
theorem cells22 : Try.prog.cellsOf 22 = 1 := by kernel_rfl
theorem cells36 : Try.prog.cellsOf 36 = 1 := by kernel_rfl
theorem cells24 : Try.prog.cellsOf 24 = 2 := by kernel_rfl
theorem cells27 : Try.prog.cellsOf 27 = 3 := by kernel_rfl
theorem cells38 : Try.prog.cellsOf 38 = 3 := by kernel_rfl
theorem cells43 : Try.prog.cellsOf 43 = 3 := by kernel_rfl
theorem cells45 : Try.prog.cellsOf 45 = 3 := by kernel_rfl
theorem bytes27 : Try.prog.bytesOf 27 = 40 := by kernel_rfl
theorem bytes43 : Try.prog.bytesOf 43 = 24 := by kernel_rfl
theorem list1 {α : Type} {c : List α} (h : c.length = 1) : ∃ a, c = [a] := by
  match c, h with
  | [a], _ => exact ⟨a, rfl⟩
theorem list2 {α : Type} {c : List α} (h : c.length = 2) : ∃ a b, c = [a, b] := by
  match c, h with
  | [a, b], _ => exact ⟨a, b, rfl⟩
theorem list3 {α : Type} {c : List α} (h : c.length = 3) : ∃ a b d, c = [a, b, d] := by
  match c, h with
  | [a, b, d], _ => exact ⟨a, b, d, rfl⟩
instance : Inhabited W27 := ⟨⟨⟨#[]⟩, ⟨#[]⟩, false⟩⟩
instance : Inhabited P43 := ⟨⟨0, 0, 0⟩⟩
section
variable {H : Type} {enc : TypeId × Value → H} {W : World} {spare : Nat → Bool} {held : Bool} {base : Nat}
theorem open_w27 {fuel : Nat} {cs : List Value} {x : DataW H × List MemPlace} (h : DataW.trod enc Try.prog W base spare held fuel 27 cs = some x) : ∃ y : W27, cs = [.string y.key, .string y.val, .bool y.gone] := by
  obtain ⟨y0, y1, y2, n, _, hl, h0, h1, h2⟩ := Go.Deep.trod_struct3 Try.underlying27 h
  rw [cells27] at hl
  obtain ⟨a, b, d, rfl⟩ := list3 hl
  simp only [cells9, cells4, List.drop_zero, List.drop_succ_cons, List.take_succ_cons, List.take_zero] at h0 h1 h2
  obtain ⟨s0, e0, _⟩ := DataW.trod_string Try.underlying9 h0
  obtain ⟨s1, e1, _⟩ := DataW.trod_string Try.underlying9 h1
  obtain ⟨s2, e2, _⟩ := DataW.trod_bool Try.underlying4 h2
  cases e0; cases e1; cases e2
  exact ⟨⟨s0, s1, s2⟩, rfl⟩
theorem open_p43 {fuel : Nat} {cs : List Value} {x : DataW H × List MemPlace} (h : DataW.trod enc Try.prog W base spare held fuel 43 cs = some x) : ∃ y : P43, cs = [.int .i64 y.num, .int .i64 y.from_, .int .i64 y.to_] ∧ (Lit.int .i64 y.num).wf = true := by
  obtain ⟨y0, y1, y2, n, _, hl, h0, h1, h2⟩ := Go.Deep.trod_struct3 Try.underlying43 h
  rw [cells43] at hl
  obtain ⟨a, b, d, rfl⟩ := list3 hl
  simp only [cells3, cells2, List.drop_zero, List.drop_succ_cons, List.take_succ_cons, List.take_zero] at h0 h1 h2
  obtain ⟨s0, e0, _, w0⟩ := DataW.trod_int Try.underlying3 h0
  obtain ⟨s1, e1, _⟩ := DataW.trod_int Try.underlying2 h1
  obtain ⟨s2, e2, _⟩ := DataW.trod_int Try.underlying2 h2
  cases e0; cases e1; cases e2
  exact ⟨⟨s0, s1, s2⟩, rfl, w0⟩
/-- A slice of writes that came in. -/
theorem open_22 {fuel : Nat} {cs : List Value} {x : DataW H × List MemPlace} (h : DataW.trod enc Try.prog W base spare held fuel 22 cs = some x) :
    ∃ (A : Option Addr) (c : Nat) (l : List W27), cs = [.slice A l.length c] ∧ l.length ≤ c ∧ k27.C W A l.length l ∧ ((x.1 = .nil ∧ l = []) ∨ ∃ es ss, x.1 = .slice es ss ∧ es.length = l.length) := by
  rcases Go.Deep.open_slice Try.underlying22 h with ⟨rfl, rfl⟩ | ⟨a, len, cap, m, n, D, Pl, rfl, _, hl, hm, hmm, rfl, hx⟩
  · exact ⟨none, 0, [], rfl, Nat.le_refl _, Kd.C_nil _ _, Or.inl ⟨rfl, rfl⟩⟩
  · have hle : len ≤ m := by rw [hmm]; split <;> omega
    have each : ∀ i, i < len → ∃ y : W27, ∀ q u, [Value.string y.key, .string y.val, .bool y.gone][q]? = some u → W.cell? (a.add (i * 3 + q)) = some u := by
      intro i hi
      obtain ⟨cs', h1, h2⟩ := hx i (by omega)
      rw [cells27] at h1
      obtain ⟨_, hlen, hcell⟩ := World.cells?_some h1
      obtain ⟨y, rfl⟩ := open_w27 h2
      refine ⟨y, fun q u hq => ?_⟩
      have hq3 : q < 3 := (List.getElem?_eq_some_iff.1 hq).1
      have := hcell q hq3
      rw [Go.Proofs.Ytmemkmnnededgaa.H.add_add] at this
      rw [this]
      exact hq
    obtain ⟨f, hf⟩ := Go.Deep.choose_lt each
    have hlen : ((List.range len).map f).length = len := by simp
    refine ⟨some a, cap, (List.range len).map f, by rw [hlen], by rw [hlen]; exact hl, ?_, Or.inr ⟨_, _, rfl, by simp⟩⟩
    rw [hlen]
    refine ⟨hlen, by simp only [maxLen] at hm; omega, fun _ => ⟨a, rfl, fun j p hj => ?_⟩⟩
    have hjl : j < len := by have := (List.getElem?_eq_some_iff.1 hj).1; simpa using this
    have hp : p = f j := by
      rw [List.getElem?_map, List.getElem?_range hjl] at hj
      simpa using hj.symm
    subst hp
    exact ⟨[.string (f j).key, .string (f j).val, .bool (f j).gone], rfl, ⟨_, _, rfl, rfl, ⟨_, _, rfl, rfl, rfl⟩⟩, hf j hjl⟩
/-- A slice of pairs that came in. -/
theorem open_36 {fuel : Nat} {cs : List Value} {x : DataW H × List MemPlace} (h : DataW.trod enc Try.prog W base spare held fuel 36 cs = some x) :
    ∃ (A : Option Addr) (c : Nat) (l : List P43), cs = [.slice A l.length c] ∧ l.length ≤ c ∧ k43.C W A l.length l ∧ (∀ y ∈ l, (Lit.int .i64 y.num).wf = true) ∧ ((x.1 = .nil ∧ l = []) ∨ ∃ es ss, x.1 = .slice es ss ∧ es.length = l.length) := by
  rcases Go.Deep.open_slice Try.underlying36 h with ⟨rfl, rfl⟩ | ⟨a, len, cap, m, n, D, Pl, rfl, _, hl, hm, hmm, rfl, hx⟩
  · exact ⟨none, 0, [], rfl, Nat.le_refl _, Kd.C_nil _ _, fun y hy => (by cases hy), Or.inl ⟨rfl, rfl⟩⟩
  · have hle : len ≤ m := by rw [hmm]; split <;> omega
    have each : ∀ i, i < len → ∃ y : P43, (Lit.int .i64 y.num).wf = true ∧ ∀ q u, [Value.int .i64 y.num, .int .i64 y.from_, .int .i64 y.to_][q]? = some u → W.cell? (a.add (i * 3 + q)) = some u := by
      intro i hi
      obtain ⟨cs', h1, h2⟩ := hx i (by omega)
      rw [cells43] at h1
      obtain ⟨_, hlen, hcell⟩ := World.cells?_some h1
      obtain ⟨y, rfl, hw⟩ := open_p43 h2
      refine ⟨y, hw, fun q u hq => ?_⟩
      have hq3 : q < 3 := (List.getElem?_eq_some_iff.1 hq).1
      have := hcell q hq3
      rw [Go.Proofs.Ytmemkmnnededgaa.H.add_add] at this
      rw [this]
      exact hq
    obtain ⟨f, hf⟩ := Go.Deep.choose_lt each
    have hlen : ((List.range len).map f).length = len := by simp
    refine ⟨some a, cap, (List.range len).map f, by rw [hlen], by rw [hlen]; exact hl, ?_, ?_, Or.inr ⟨_, _, rfl, by simp⟩⟩
    · rw [hlen]
      refine ⟨hlen, by simp only [maxLen] at hm; omega, fun _ => ⟨a, rfl, fun j p hj => ?_⟩⟩
      have hjl : j < len := by have := (List.getElem?_eq_some_iff.1 hj).1; simpa using this
      have hp : p = f j := by
        rw [List.getElem?_map, List.getElem?_range hjl] at hj
        simpa using hj.symm
      subst hp
      exact ⟨[.int .i64 (f j).num, .int .i64 (f j).from_, .int .i64 (f j).to_], rfl, ⟨_, _, rfl, rfl, ⟨_, _, rfl, rfl, rfl⟩⟩, (hf j hjl).2⟩
    · intro y hy
      obtain ⟨j, hj, rfl⟩ := List.mem_map.1 hy
      exact (hf j (List.mem_range.1 hj)).1
theorem agg_cells (a : Array Value) : (Value.agg a).cells = a := rfl
set_option maxRecDepth 100000 in
/-- A commit that came in. -/
theorem open_24 {r : Reach} {b0 : Nat} {v : Value} {d : DataW H} {ps : List MemPlace} (hok : Value.okWide Try.prog W r b0 24 v) (h : DataW.Trod enc Try.prog W base spare held 24 v d ps) :
    ∃ (t : Int) (A : Option Addr) (c : Nat) (l : List W27), v = .agg #[.int .i64 t, .slice A l.length c] ∧ l.length ≤ c ∧ k27.C W A l.length l ∧ ∃ d0 d1, d = .agg [d0, d1] ∧ ((d1 = .nil ∧ l = []) ∨ ∃ es ss, d1 = .slice es ss ∧ es.length = l.length) := by
  obtain ⟨cs, rfl, _⟩ := okWide_struct Try.underlying24 hok
  obtain ⟨fuel, hf⟩ := h
  obtain ⟨y0, y1, n, hx, hl, h0, h1⟩ := trod_struct2 Try.underlying24 hf
  rw [agg_cells] at hl h0 h1
  rw [cells24] at hl
  obtain ⟨a, b, hab⟩ := list2 hl
  rw [hab] at h0 h1
  simp only [cells2, cells22, List.drop_zero, List.drop_succ_cons, List.take_succ_cons, List.take_zero] at h0 h1
  obtain ⟨t, e0, _⟩ := DataW.trod_int Try.underlying2 h0
  obtain ⟨A, c, l, e1, hc, hC, hd⟩ := open_22 h1
  cases e0; cases e1
  refine ⟨t, A, c, l, ?_, hc, hC, y0.1, y1.1, (Prod.mk.inj hx).1, hd⟩
  congr 1
  exact Array.toList_inj.1 hab
set_option maxRecDepth 100000 in
/-- A row that came in. -/
theorem open_45 {r : Reach} {b0 : Nat} {v : Value} {d : DataW H} {ps : List MemPlace} (hok : Value.okWide Try.prog W r b0 45 v) (h : DataW.Trod enc Try.prog W base spare held 45 v d ps) :
    ∃ (k u : ByteArray) (t : Int), v = .agg #[.string k, .string u, .int .i64 t] := by
  obtain ⟨cs, rfl, _⟩ := okWide_struct Try.underlying45 hok
  obtain ⟨fuel, hf⟩ := h
  obtain ⟨y0, y1, y2, n, hx, hl, h0, h1, h2⟩ := Go.Deep.trod_struct3 Try.underlying45 hf
  rw [agg_cells] at hl h0 h1 h2
  rw [cells45] at hl
  obtain ⟨a, b, d, hab⟩ := list3 hl
  rw [hab] at h0 h1 h2
  simp only [cells2, cells9, List.drop_zero, List.drop_succ_cons, List.take_succ_cons, List.take_zero] at h0 h1 h2
  obtain ⟨s0, e0, _⟩ := DataW.trod_string Try.underlying9 h0
  obtain ⟨s1, e1, _⟩ := DataW.trod_string Try.underlying9 h1
  obtain ⟨t, e2, _⟩ := DataW.trod_int Try.underlying2 h2
  cases e0; cases e1; cases e2
  refine ⟨s0, s1, t, ?_⟩
  congr 1
  exact Array.toList_inj.1 hab
set_option maxRecDepth 100000 in
/-- A manifest that came in. -/
theorem open_38 {r : Reach} {b0 : Nat} {v : Value} {d : DataW H} {ps : List MemPlace} (hok : Value.okWide Try.prog W r b0 38 v) (h : DataW.Trod enc Try.prog W base spare held 38 v d ps) :
    ∃ (t g : Int) (A : Option Addr) (c : Nat) (l : List P43), v = .agg #[.int .i64 t, .int .i64 g, .slice A l.length c] ∧ l.length ≤ c ∧ k43.C W A l.length l ∧ (∀ y ∈ l, (Lit.int .i64 y.num).wf = true) ∧ ∃ d0 d1 d2, d = .agg [d0, d1, d2] ∧ ((d2 = .nil ∧ l = []) ∨ ∃ es ss, d2 = .slice es ss ∧ es.length = l.length) := by
  obtain ⟨cs, rfl, _⟩ := okWide_struct Try.underlying38 hok
  obtain ⟨fuel, hf⟩ := h
  obtain ⟨y0, y1, y2, n, hx, hl, h0, h1, h2⟩ := Go.Deep.trod_struct3 Try.underlying38 hf
  rw [agg_cells] at hl h0 h1 h2
  rw [cells38] at hl
  obtain ⟨a, b, dd, hab⟩ := list3 hl
  rw [hab] at h0 h1 h2
  simp only [cells2, cells3, cells36, List.drop_zero, List.drop_succ_cons, List.take_succ_cons, List.take_zero] at h0 h1 h2
  obtain ⟨t, e0, _⟩ := DataW.trod_int Try.underlying2 h0
  obtain ⟨g, e1, _⟩ := DataW.trod_int Try.underlying3 h1
  obtain ⟨A, c, l, e2, hc, hC, hw, hd⟩ := open_36 h2
  cases e0; cases e1; cases e2
  refine ⟨t, g, A, c, l, ?_, hc, hC, hw, y0.1, y1.1, y2.1, (Prod.mk.inj hx).1, hd⟩
  congr 1
  exact Array.toList_inj.1 hab
end
end Go.Proofs.Ytmemkmnnededgaa.H
