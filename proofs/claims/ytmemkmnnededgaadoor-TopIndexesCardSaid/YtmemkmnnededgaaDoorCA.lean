/- C0, C1, C2 of the claim's own texts, in one. -/
import Derived.Test.YtmemkmnnededgaaDoorBA
namespace Go.Proofs.YtmemkmnnededgaaDoor.H
open Go.RowKit Go.Proofs.YtmemkmnnededgaaDoorW.PrintWords Go.Proofs.YtmemkmnnededgaaDoorW.PrintLast Go.Proofs.YtmemkmnnededgaaDoorW.PrintMore
attribute [local go_sem] max2_int min2_int max_two min_two max_three min_three max_four min_four
set_option linter.unusedVariables false
set_option linter.unusedSimpArgs false

/-- A skip list's operation. -/
structure SOp where
  key : ByteArray
  word : Nat → Nat
  ref : Int
  height : Nat
  does : Nat
  begun : Bool
  level : Nat
  pred : Nat
  preds : Nat → Nat
  succs : Nat → Nat
  own : Nat
  linked : Nat
  found : ByteArray
  had : Bool
  code : Int
def sopCell (l : Nat) (op : SOp) (i : Nat) : Value :=
  if i = 0 then .pointer (some ⟨l, 0, none⟩) else if i = 1 then .int .i64 0 else if i = 2 then .string op.key else if i < 20 then .int .u8 (op.word (i - 3)) else if i = 20 then .int .i64 op.ref else if i = 21 then .int .i64 op.height else if i = 22 then .int .i64 op.does else if i = 23 then .bool op.begun else if i = 24 then .int .i64 op.level else if i = 25 then .int .i64 op.pred else if i < 34 then .int .i64 (op.preds (i - 26)) else if i < 42 then .int .i64 (op.succs (i - 34)) else if i = 42 then .int .i64 op.own else if i = 43 then .int .i64 op.linked else if i = 44 then .string op.found else if i = 45 then .bool op.had else if i = 46 then .int .i64 op.code else undef
/-- An operation at block o. -/
structure SoAt (B : Nat) (w : World) (o l : Nat) (op : SOp) : Prop where
  ge : B ≤ o
  blk : CellsAt w o 73 47 (sopCell l op)
theorem SoAt.set {B : Nat} {w : World} {o l : Nat} {op op' : SOp} (h : SoAt B w o l op) (i : Nat) (u : Value) (e : ∀ j, j < 47 → sopCell l op' j = if j = i then u else sopCell l op j) : SoAt B (w.setCell ⟨o, i, none⟩ u) o l op' := ⟨h.ge, h.blk.set i u e⟩
theorem SoAt.cell {B : Nat} {w : World} {o l : Nat} {op : SOp} (h : SoAt B w o l op) (i : Nat) (hi : i < 47) : w.cell? ⟨o, i, none⟩ = some (sopCell l op i) := h.blk.cell i hi
theorem SoAt.f {B : Nat} {w : World} {o l : Nat} {op : SOp} (h : SoAt B w o l op) (i : Nat) : w.frozen? ⟨o, i, none⟩ = false := h.blk.frozen i
section
variable {B : Nat} {w : World} {o l : Nat} {op : SOp}
theorem SoAt.c0 (h : SoAt B w o l op) : w.cell? ⟨o, 0, none⟩ = some (.pointer (some ⟨l, 0, none⟩)) := h.cell 0 (by omega)
theorem SoAt.c2 (h : SoAt B w o l op) : w.cell? ⟨o, 2, none⟩ = some (.string op.key) := h.cell 2 (by omega)
theorem SoAt.c20 (h : SoAt B w o l op) : w.cell? ⟨o, 20, none⟩ = some (.int .i64 op.ref) := h.cell 20 (by omega)
theorem SoAt.c21 (h : SoAt B w o l op) : w.cell? ⟨o, 21, none⟩ = some (.int .i64 op.height) := h.cell 21 (by omega)
theorem SoAt.c22 (h : SoAt B w o l op) : w.cell? ⟨o, 22, none⟩ = some (.int .i64 op.does) := h.cell 22 (by omega)
theorem SoAt.c23 (h : SoAt B w o l op) : w.cell? ⟨o, 23, none⟩ = some (.bool op.begun) := h.cell 23 (by omega)
theorem SoAt.c24 (h : SoAt B w o l op) : w.cell? ⟨o, 24, none⟩ = some (.int .i64 op.level) := h.cell 24 (by omega)
theorem SoAt.c25 (h : SoAt B w o l op) : w.cell? ⟨o, 25, none⟩ = some (.int .i64 op.pred) := h.cell 25 (by omega)
theorem SoAt.c42 (h : SoAt B w o l op) : w.cell? ⟨o, 42, none⟩ = some (.int .i64 op.own) := h.cell 42 (by omega)
theorem SoAt.c43 (h : SoAt B w o l op) : w.cell? ⟨o, 43, none⟩ = some (.int .i64 op.linked) := h.cell 43 (by omega)
theorem SoAt.c44 (h : SoAt B w o l op) : w.cell? ⟨o, 44, none⟩ = some (.string op.found) := h.cell 44 (by omega)
theorem SoAt.c45 (h : SoAt B w o l op) : w.cell? ⟨o, 45, none⟩ = some (.bool op.had) := h.cell 45 (by omega)
theorem SoAt.c46 (h : SoAt B w o l op) : w.cell? ⟨o, 46, none⟩ = some (.int .i64 op.code) := h.cell 46 (by omega)
theorem sop_set {op op' : SOp} {l i : Nat} {u : Value} (e0 : ∀ j, j < 47 → j ≠ i → sopCell l op' j = sopCell l op j) (e1 : sopCell l op' i = u) : ∀ j, j < 47 → sopCell l op' j = if j = i then u else sopCell l op j := by
  intro j hj
  by_cases h : j = i
  · rw [if_pos h, h, e1]
  · rw [if_neg h]; exact e0 j hj h
end
/-- Turns one field. -/
def SOp.end_ (op : SOp) (found : ByteArray) (ref : Int) (had : Bool) (code : Int) : SOp := { op with found := found, ref := ref, had := had, code := code, does := 3 }
def SOp.again (op : SOp) : SOp := { op with does := 0, level := 7, pred := 0 }
set_option maxRecDepth 100000 in
set_option maxHeartbeats 1600000 in
theorem sends_any (B o l : Nat) (op : SOp) (found : ByteArray) (ref : Int) (had : Bool) (code : Int) (w : World) (hh : SoAt B w o l op) :
    Calls Tryd.prog 32 #[.pointer (some ⟨o, 0, none⟩), .string found, .int .i64 ref, .bool had, .int .i64 code] w fun e w' => e = .returned (.bool true) ∧ SoAt B w' o l (op.end_ found ref had code) ∧ FrO [] o B w w' := by
  have HH := Aside0.mk hh
  have c44 := hh.c44
  have c20 := hh.c20
  have c45 := hh.c45
  have c46 := hh.c46
  have c22 := hh.c22
  have f44 := hh.f 44
  have f20 := hh.f 20
  have f45 := hh.f 45
  have f46 := hh.f 46
  have f22 := hh.f 22
  clear hh
  go_enter Tryd.func32, Tryd.ntmps32
  go_wp2_with fail
  go_ret
  have h1 := HH.out.set (op' := { op with found := found }) 44 (.string found) (by refine sop_set (fun j hj hn => ?_) rfl; simp only [sopCell, if_neg hn])
  have h2 := h1.set (op' := { op with found := found, ref := ref }) 20 (.int .i64 ref) (by refine sop_set (fun j hj hn => ?_) rfl; simp only [sopCell, if_neg hn])
  have h3 := h2.set (op' := { op with found := found, ref := ref, had := had }) 45 (.bool had) (by refine sop_set (fun j hj hn => ?_) rfl; simp only [sopCell, if_neg hn])
  have h4 := h3.set (op' := { op with found := found, ref := ref, had := had, code := code }) 46 (.int .i64 code) (by refine sop_set (fun j hj hn => ?_) rfl; simp only [sopCell, if_neg hn])
  have h5 := h4.set (op' := op.end_ found ref had code) 22 (.int .i64 3) (by unfold SOp.end_; refine sop_set (fun j hj hn => ?_) rfl; simp only [sopCell, if_neg hn])
  exact ⟨rfl, h5, (((((FrO.refl [] o B w).set HH.out.ge 44 _).set HH.out.ge 20 _).set HH.out.ge 45 _).set HH.out.ge 46 _).set HH.out.ge 22 _⟩
set_option maxRecDepth 100000 in
set_option maxHeartbeats 1600000 in
theorem again_any (B o l : Nat) (op : SOp) (w : World) (hh : SoAt B w o l op) :
    Calls Tryd.prog 34 #[.pointer (some ⟨o, 0, none⟩)] w fun e w' => e = .returned (.tuple #[]) ∧ SoAt B w' o l op.again ∧ FrO [] o B w w' := by
  have HH := Aside0.mk hh
  have c22 := hh.c22
  have c24 := hh.c24
  have c25 := hh.c25
  have f22 := hh.f 22
  have f24 := hh.f 24
  have f25 := hh.f 25
  clear hh
  go_enter Tryd.func34, Tryd.ntmps34
  go_wp2_with fail
  go_end0
  have h1 := HH.out.set (op' := { op with does := 0 }) 22 (.int .i64 0) (by refine sop_set (fun j hj hn => ?_) rfl; simp only [sopCell, if_neg hn])
  have h2 := h1.set (op' := { op with does := 0, level := 7 }) 24 (.int .i64 7) (by refine sop_set (fun j hj hn => ?_) rfl; simp only [sopCell, if_neg hn])
  have h3 := h2.set (op' := op.again) 25 (.int .i64 0) (by unfold SOp.again; refine sop_set (fun j hj hn => ?_) rfl; simp only [sopCell, if_neg hn])
  exact ⟨rfl, h3, (((FrO.refl [] o B w).set HH.out.ge 22 _).set HH.out.ge 24 _).set HH.out.ge 25 _⟩
end Go.Proofs.YtmemkmnnededgaaDoor.H

namespace Go.Proofs.YtmemkmnnededgaaDoor.H
open Go.RowKit Go.Proofs.YtmemkmnnededgaaDoorW.PrintWords Go.Proofs.YtmemkmnnededgaaDoorW.PrintLast Go.Proofs.YtmemkmnnededgaaDoorW.PrintMore
attribute [local go_sem] max2_int min2_int max_two min_two max_three min_three max_four min_four
set_option linter.unusedVariables false
set_option linter.unusedSimpArgs false

/-- A row of pointers to blocks. -/
def kPtr : Kd Nat := Kd.scalar (fun b => .pointer (some ⟨b, 0, none⟩)) (fun _ => rfl)
theorem inner_scalar {α : Type} {enc : α → Value} {h1 : ∀ x, (enc x).oneCell' = true} {w : World} {e base : Nat} {ok : Nat → Prop} {v : Value} {xs : List α} (h : (Kd.scalar enc h1).R e w base ok v xs) : w.ownsRow base e 1 v xs.length (encs enc xs) := by
  obtain ⟨_, inner, ho, hlen, hr⟩ := h
  have e2 : inner = encs enc xs := by
    apply List.ext_getElem?
    intro j
    by_cases hj : j < xs.length
    · have h1 := hr j _ (List.getElem?_eq_getElem hj)
      have hj2 : j < inner.length := by rw [hlen]; simpa [Kd.scalar] using hj
      have h3 : (inner.drop j).take 1 = [enc xs[j]] := by simpa [Kd.scalar] using h1
      rw [List.drop_eq_getElem_cons hj2] at h3
      simp only [List.take_succ_cons, List.take_zero] at h3
      injection h3 with h3
      rw [List.getElem?_eq_getElem hj2, h3]
      simp [encs, hj]
    · rw [List.getElem?_eq_none (by rw [hlen]; simp [Kd.scalar]; omega), List.getElem?_eq_none (by simp [encs]; omega)]
  rw [← e2]
  exact ho
/-- A cell of a row of one's own. -/
theorem row_cell {α : Type} {enc : α → Value} {h1 : ∀ x, (enc x).oneCell' = true} {w : World} {e base : Nat} {ok : Nat → Prop} {v : Value} {xs : List α} (h : (Kd.scalar enc h1).R e w base ok v xs) (h0 : 0 < xs.length) :
    ∃ Z cap, v = .slice (some ⟨Z, 0, none⟩) xs.length cap ∧ xs.length ≤ cap ∧ ∀ (i : Nat) (hi : i < xs.length), w.cell? ⟨Z, i, none⟩ = some (enc xs[i]) := by
  obtain ⟨_, h2 | ⟨g, cap, cur, hv, hg, hb, hn, hc, hs, ht⟩⟩ := inner_scalar h
  · omega
  · refine ⟨g, cap, hv, hn, fun i hi => ?_⟩
    rw [blk_cell hb i, ← Array.getElem?_toList, ← List.getElem?_take_of_lt (show i < xs.length * 1 by omega), ht]
    simp [encs, hi]
/-- A node. -/
structure SNode where
  key : ByteArray
  word : Nat → Nat
  ref : Int
  tower : Nat → Nat
  height : Nat
def nodeCell (x : SNode) (i : Nat) : Value :=
  if i = 0 then .string x.key else if i < 18 then .int .u8 (x.word (i - 1)) else if i = 18 then .int .i64 x.ref else if i < 27 then .int .i64 (x.tower (i - 19)) else if i = 27 then .int .i64 x.height else undef
/-- The list at block l: its arena, and its nodes at their blocks. -/
structure LiAt (B : Nat) (w : World) (l ga : Nat) (bs : List Nat) (ns : Nat → SNode) : Prop where
  ge : B ≤ l
  blk : ∃ nv, w.heap[l]? = some (.cells #[.pointer (some ⟨ga, 0, none⟩), nv] 61 (0, 0)) ∧ kPtr.R 62 w B (fun _ => True) nv bs
  node : ∀ (i : Nat) (hi : i < bs.length), B ≤ bs[i] ∧ CellsAt w bs[i] 67 28 (nodeCell (ns i))
set_option maxRecDepth 100000 in
set_option maxHeartbeats 1600000 in
theorem sat_any (B o l ga : Nat) (op : SOp) (bs : List Nat) (ns : Nat → SNode) (n : Nat) (w : World) (hh : SoAt B w o l op) (hl : LiAt B w l ga bs ns) (hn : n < bs.length) (hb : bs.length < 1000000) :
    Calls Tryd.prog 56 #[.pointer (some ⟨o, 0, none⟩), .int .i64 n] w fun e w' => e = .returned (.pointer (some ⟨bs[n], 0, none⟩)) ∧ w' = w := by
  have c0 := hh.c0
  obtain ⟨nv, hbk, hR⟩ := hl.blk
  obtain ⟨Z, cap, rfl, hcap, hc⟩ := row_cell hR (by omega)
  have c1 : w.cell? ⟨l, 1, none⟩ = some (.slice (some ⟨Z, 0, none⟩) bs.length cap) := (blk_cell hbk 1).trans rfl
  have hcn := hc n hn
  generalize bs[n] = b at *
  clear hh hl hbk hR hc
  go_enter Tryd.func56, Tryd.ntmps56
  go_wp2_with fail
  go_ret
  exact ⟨rfl, rfl⟩
end Go.Proofs.YtmemkmnnededgaaDoor.H

namespace Go.Proofs.YtmemkmnnededgaaDoor.H
open Go.RowKit Go.Proofs.YtmemkmnnededgaaDoorW.PrintWords Go.Proofs.YtmemkmnnededgaaDoorW.PrintLast Go.Proofs.YtmemkmnnededgaaDoorW.PrintMore
attribute [local go_sem] max2_int min2_int max_two min_two max_three min_three max_four min_four
set_option linter.unusedVariables false
set_option linter.unusedSimpArgs false

/-- The store of a function's value, for the walk. -/
theorem run_store_fn (P : Program) (w : World) (a : Addr) (f : Fn) (m : Mode) : (store a (.func f #[] #[]) m).run P w = stored P w a (.func f #[] #[]) m := run_store P w a (.func f #[] #[]) m rfl
attribute [local go_sem] run_store_fn
set_option maxRecDepth 100000 in
set_option maxHeartbeats 1600000 in
theorem steps_any (w : World) :
    Calls Tryd.prog 35 #[] w fun e w' => e = .returned (.agg #[.func (.func 42) #[] #[], .func (.func 43) #[] #[], .func (.func 44) #[] #[]]) ∧ Below w.heap.size w w' := by
  have hb := blk_new w (.cells #[Value.nilFunc, Value.nilFunc, Value.nilFunc] 92)
  have x0 : (w.alloc (.cells #[Value.nilFunc, Value.nilFunc, Value.nilFunc] 92)).cell? ⟨w.heap.size, 0, none⟩ = some Value.nilFunc := (blk_cell hb 0).trans rfl
  have x1 : (w.alloc (.cells #[Value.nilFunc, Value.nilFunc, Value.nilFunc] 92)).cell? ⟨w.heap.size, 1, none⟩ = some Value.nilFunc := (blk_cell hb 1).trans rfl
  have x2 : (w.alloc (.cells #[Value.nilFunc, Value.nilFunc, Value.nilFunc] 92)).cell? ⟨w.heap.size, 2, none⟩ = some Value.nilFunc := (blk_cell hb 2).trans rfl
  have f0 := blk_frozen hb 0
  have f1 := blk_frozen hb 1
  have f2 := blk_frozen hb 2
  have HBL := Aside0.mk (below_alloc (Below.refl w.heap.size w) (.cells #[Value.nilFunc, Value.nilFunc, Value.nilFunc] 92))
  have HB := Aside0.mk hb
  clear hb
  go_enter Tryd.func35, Tryd.ntmps35
  go_upto_region 1 with fail
  generalize w.alloc (.cells #[Value.nilFunc, Value.nilFunc, Value.nilFunc] 92) = wa at *
  generalize hh : w.heap.size = h at *
  go_wp2_with fail
  have b1 := blk_put HB.out 0 (.func (.func 42) #[] #[]) rfl
  have b2 := blk_put b1 1 (.func (.func 43) #[] #[]) rfl
  have b3 := blk_put b2 2 (.func (.func 44) #[] #[]) rfl
  refine bodyPost_ret (results_cell_row rfl _ _ h 92 _ (0, 0) _ rfl b3 Tryd.underlying92 rfl (by kernel_rfl)) rfl ?_
  refine ⟨rfl, ?_⟩
  have := HBL.out
  have hle : h ≤ h := Nat.le_refl _
  subst hh
  exact ((HBL.out.setCell (Nat.le_refl _) _).setCell (Nat.le_refl _) _).setCell (Nat.le_refl _) _
end Go.Proofs.YtmemkmnnededgaaDoor.H

