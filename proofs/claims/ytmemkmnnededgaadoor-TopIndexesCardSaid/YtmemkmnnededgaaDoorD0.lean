/- The skip list's nodes, and what a skip operation is done with. -/
import Derived.Test.YtmemkmnnededgaaDoorC3
import Derived.Test.YtmemkmnnededgaaDoorB5
namespace Go.Proofs.YtmemkmnnededgaaDoor.H
open Go.RowKit Go.Proofs.YtmemkmnnededgaaDoorW.PrintWords Go.Proofs.YtmemkmnnededgaaDoorW.PrintLast Go.Proofs.YtmemkmnnededgaaDoorW.PrintMore
attribute [local go_sem] max2_int min2_int max_two min_two max_three min_three max_four min_four
set_option linter.unusedVariables false
set_option linter.unusedSimpArgs false

/-- A node at a block. -/
structure NodeAt (B : Nat) (w : World) (b : Nat) (x : SNode) : Prop where
  ge : B ≤ b
  blk : CellsAt w b 67 28 (nodeCell x)
def SNode.put (x : SNode) (i c : Nat) : SNode := { x with tower := fun j => if j = i then c else x.tower j }
theorem NodeAt.setTower {B : Nat} {w : World} {b : Nat} {x : SNode} (h : NodeAt B w b x) (i c : Nat) (hi : i < 8) : NodeAt B (w.setCell ⟨b, 19 + i, none⟩ (.int .i64 c)) b (x.put i c) := by
  refine ⟨h.ge, h.blk.set _ _ (fun j hj => ?_)⟩
  unfold nodeCell SNode.put
  by_cases e : j = 19 + i
  · subst e
    rw [if_pos rfl, if_neg (by omega), if_neg (by omega), if_neg (by omega), if_pos (by omega)]
    simp
  · rw [if_neg e]
    by_cases h1 : 19 ≤ j
    · have h2 : ¬ j - 19 = i := by omega
      simp only [if_neg h2]
    · (repeat' split) <;> first | rfl | omega
theorem NodeAt.tow {B : Nat} {w : World} {b : Nat} {x : SNode} (h : NodeAt B w b x) (i : Nat) (hi : i < 8) : w.cell? ⟨b, 19 + i, none⟩ = some (.int .i64 (x.tower i)) := by
  refine (h.blk.cell (19 + i) (by omega)).trans ?_
  unfold nodeCell
  rw [if_neg (by omega), if_neg (by omega), if_neg (by omega), if_pos (by omega), show 19 + i - 19 = i by omega]
theorem NodeAt.c0 {B : Nat} {w : World} {b : Nat} {x : SNode} (h : NodeAt B w b x) : w.cell? ⟨b, 0, none⟩ = some (.string x.key) := h.blk.cell 0 (by omega)
theorem NodeAt.c18 {B : Nat} {w : World} {b : Nat} {x : SNode} (h : NodeAt B w b x) : w.cell? ⟨b, 18, none⟩ = some (.int .i64 x.ref) := h.blk.cell 18 (by omega)
theorem NodeAt.c27 {B : Nat} {w : World} {b : Nat} {x : SNode} (h : NodeAt B w b x) : w.cell? ⟨b, 27, none⟩ = some (.int .i64 x.height) := h.blk.cell 27 (by omega)
theorem NodeAt.fr {B : Nat} {w w' : World} {b : Nat} {x : SNode} {T : List TypeId} (h : NodeAt B w b x) (hf : FrT T B w w') (ht : (67 : Nat) ∉ T) : NodeAt B w' b x := ⟨h.ge, h.blk.fr hf ht⟩
/-- The tower behind its first cells were taken. -/
def SNode.with (x : SNode) (cs : List Nat) : SNode := { x with tower := fun j => if j < cs.length then cs.getD j 0 else x.tower j }
theorem SNode.with_nil (x : SNode) : x.with [] = x := by simp [SNode.with]
theorem SNode.with_add (x : SNode) (cs : List Nat) (c : Nat) : (x.with cs).put cs.length c = x.with (cs ++ [c]) := by
  unfold SNode.with SNode.put
  congr 1
  funext j
  simp only [List.length_append, List.length_cons, List.length_nil]
  by_cases h : j = cs.length
  · subst h
    simp
  · by_cases h2 : j < cs.length
    · simp [h, h2, show j < cs.length + 1 by omega, List.getElem?_append_left h2]
    · simp [h, h2, show ¬ j < cs.length + 1 by omega]

/-! ### What a skip operation is done with -/
structure KS (B : Nat) (w : World) (ga l o : Nat) (a : Ar) (bs : List Nat) (ns : Nat → SNode) (op : SOp) : Prop where
  ar : ArAt B w ga a
  li : LiAt B w l ga bs ns
  so : SoAt B w o l op
def TK : List TypeId := [51, 48, 61, 62, 67]
theorem SoAt.kept {B o l : Nat} {op : SOp} {w w' : World} {T : List TypeId} (h : SoAt B w o l op) (hf : FrT T B w w') (h1 : (73 : Nat) ∉ T) : SoAt B w' o l op := ⟨h.ge, h.blk.fr hf h1⟩
theorem LiAt.kept {B l ga : Nat} {bs : List Nat} {ns : Nat → SNode} {w w' : World} {T : List TypeId} (h : LiAt B w l ga bs ns) (hf : FrT T B w w') (h1 : (61 : Nat) ∉ T) (h2 : (62 : Nat) ∉ T) (h3 : (67 : Nat) ∉ T) : LiAt B w' l ga bs ns := by
  obtain ⟨hge, ⟨nv, hb, hR⟩, hn⟩ := h
  refine ⟨hge, ⟨nv, hf.blk hb h1, hf.R_lives hR ?_⟩, fun i hi => ⟨(hn i hi).1, (hn i hi).2.fr hf h3⟩⟩
  intro q hq
  simp [kPtr, Kd.scalar] at hq
  rw [hq]; exact h2
theorem LiAt.nodeAt {B l ga : Nat} {bs : List Nat} {ns : Nat → SNode} {w : World} (h : LiAt B w l ga bs ns) (i : Nat) (hi : i < bs.length) : NodeAt B w bs[i] (ns i) := ⟨(h.node i hi).1, (h.node i hi).2⟩
theorem LiAt.c0 {B l ga : Nat} {bs : List Nat} {ns : Nat → SNode} {w : World} (h : LiAt B w l ga bs ns) : w.cell? ⟨l, 0, none⟩ = some (.pointer (some ⟨ga, 0, none⟩)) := by
  obtain ⟨nv, hb, _⟩ := h.blk
  exact (blk_cell hb 0).trans rfl
theorem LiAt.below {B l ga : Nat} {bs : List Nat} {ns : Nat → SNode} {w w' : World} (h : LiAt B w l ga bs ns) (hb : Below w.heap.size w w') : LiAt B w' l ga bs ns := by
  obtain ⟨hge, ⟨nv, hbk, hR⟩, hn⟩ := h
  exact ⟨hge, ⟨nv, blk_below hbk hb, Kd.R_below hR hb⟩, fun i hi => ⟨(hn i hi).1, (hn i hi).2.below hb⟩⟩
section
variable {B : Nat} {w w' : World} {ga l o : Nat} {a a' : Ar} {bs : List Nat} {ns : Nat → SNode} {op op' : SOp}
theorem KS.below (h : KS B w ga l o a bs ns op) (hb : Below w.heap.size w w') : KS B w' ga l o a bs ns op := ⟨h.ar.below hb, h.li.below hb, ⟨h.so.ge, h.so.blk.below hb⟩⟩
theorem KS.drewN (h : KS B w ga l o a bs ns op) (n : Nat) : KS B (w.drewN n) ga l o a bs ns op := h.below (pw_below_drewN (Below.refl _ _) n)
theorem KS.drew (h : KS B w ga l o a bs ns op) : KS B w.drew ga l o a bs ns op := h.below (below_drew (Below.refl _ _))
/-- Behind a call that turns the arena alone. -/
theorem KS.arena (h : KS B w ga l o a bs ns op) (ha : ArAt B w' ga a') (hf : FrT TA B w w') : KS B w' ga l o a' bs ns op :=
  ⟨ha, h.li.kept hf (by simp [TA]) (by simp [TA]) (by simp [TA]), h.so.kept hf (by simp [TA])⟩
theorem FrO.toTC {T : List TypeId} {o B : Nat} {w w' : World} (h : FrO T o B w w') {t : TypeId} {n : Nat} {f : Nat → Value} (ho : CellsAt w o t n f) : FrT (t :: T) B w w' := by
  obtain ⟨cs, hb, _⟩ := ho
  exact h.toT hb
/-- Behind a call that turns the operation alone. -/
theorem KS.oper (h : KS B w ga l o a bs ns op) (ho : SoAt B w' o l op') (hf : FrO [] o B w w') : KS B w' ga l o a bs ns op' :=
  ⟨h.ar.kept (hf.toTC h.so.blk) (by simp) (by simp), h.li.kept (hf.toTC h.so.blk) (by simp) (by simp) (by simp), ho⟩
theorem KS.setOp (h : KS B w ga l o a bs ns op) (i : Nat) (u : Value) (e : ∀ j, j < 47 → sopCell l op' j = if j = i then u else sopCell l op j) : KS B (w.setCell ⟨o, i, none⟩ u) ga l o a bs ns op' :=
  h.oper (h.so.set i u e) ((FrO.refl [] o B w).set h.so.ge i u)
theorem FrO.more0 {T : List TypeId} {o B : Nat} {w w' : World} (h : FrO [] o B w w') : FrO T o B w w' := ⟨h.below, fun k cs t fr hk ht ho => h.kept k cs t fr hk (by simp) ho⟩
end
end Go.Proofs.YtmemkmnnededgaaDoor.H
