/- The imports that the texts of this claim share, and small words. -/
import Derived.Test.YtmemkmnnededgaaDoorProg
import Derived.Below
import Derived.Deep.Draws
import Derived.Deep.AppendLies
import Derived.Maps.AppendAt
import Derived.OwnWalk
import Derived.Laws.BytesArg
import Derived.Laws.MakeOwn
import Derived.Laws.OwnMore
import Derived.Deep.OwnRows
import Derived.Tactics
import Derived.Lib.ConvBytes
import Derived.Laws.Slices
import Derived.WalkKit
import Derived.KernelRfl
import Derived.RowKit3
import Derived.Deep.LoopGhost
import Derived.Deep.QuietTactic
import Derived.BigQuiet
import Derived.WideLaws
import Derived.Deep.DeepCutAuto
import Derived.Deep.CutBlock
import Derived.Deep.RegionHeld3
import Derived.Laws.Rows
import Derived.Lib.AppendStr
import Derived.ArgAppend
import Derived.Laws.IdiomCopy
import Derived.OrdersHeld
import Derived.Laws.BitsLemmas
import Derived.RowKit
import Derived.Test.YtmemkmnnededgaaDoorWWords
import Derived.Test.YtmemkmnnededgaaDoorWLast
import Derived.Test.YtmemkmnnededgaaDoorWMin
import Derived.Laws.StructEq
import Derived.WalkSpells
import Derived.Deep.DeepMust
import Derived.Deep.DeepFit
import Derived.Outline
import Derived.Test.YtmemkmnnededgaaDoorShelf
namespace Go.Proofs.YtmemkmnnededgaaDoor.H
open Go.RowKit Go.Proofs.YtmemkmnnededgaaDoorW.PrintWords Go.Proofs.YtmemkmnnededgaaDoorW.PrintLast Go.Proofs.YtmemkmnnededgaaDoorW.PrintMore
set_option linter.unusedVariables false
set_option linter.unusedSimpArgs false
theorem info5 : (Tryd.prog.info? 5).map (fun i => (i.zero, i.size, i.bytes)) = some (some (.int .u8 0), 1, 1) := by kernel_rfl
abbrev U8 := Kd.int .u8
/-- A literal of bytes, new: a row of one's own. -/
theorem R_lit8 (W : World) (xs : List Int) (cs : Array Value) (n : Nat) (base : Nat) (ok : Nat → Prop) (hcs : cs = (nums .u8 xs).toArray) (hn : n = xs.length) (hb : base ≤ W.heap.size) (hok : ok W.heap.size) (hm : xs.length ≤ 9223372036854775807) :
    U8.R 5 (W.alloc (.cells cs 5)) base ok (.slice (some ⟨W.heap.size, 0, none⟩) n n) xs := by
  subst hcs hn
  have h2 := World.ownsRow_lit (base := base) (e := 5) (size := 1) W (nums .u8 xs).toArray xs.length hb (by simpa [maxLen] using hm) (by simp [nums])
  refine Kd.R_of_own (by simpa [encs, nums] using h2) (fun k hk => ?_)
  have : W.heap.size = k := by simpa [Value.ownBlock] using hk
  exact this ▸ hok
theorem C_lit8 (W : World) (xs : List Int) (cs : Array Value) (n : Nat) (hcs : cs = (nums .u8 xs).toArray) (hn : n = xs.length) (hm : xs.length ≤ 9223372036854775807) :
    U8.C (W.alloc (.cells cs 5)) (some ⟨W.heap.size, 0, none⟩) n xs := by
  have h := R_lit8 W xs cs n 0 (fun _ => True) hcs hn (Nat.zero_le _) trivial hm
  have h2 := Kd.R_reads' h
  rw [h2.1]
  exact h2.2.2
theorem C_none {α : Type} {d : Kd α} {w : World} {n : Nat} {xs : List α} (h : d.C w none n xs) : xs = [] := by
  cases xs with
  | nil => rfl
  | cons x l =>
    have := h.1
    obtain ⟨ad, e, _⟩ := h.2.2 (by simp at this; omega)
    cases e
/-! ### What a call keeps: all below B, and every block whose type is none of T -/
structure FrT (T : List TypeId) (B : Nat) (w w' : World) : Prop where
  below : Below B w w'
  kept : ∀ (k : Nat) (cs : Array Value) (t : TypeId) (fr : Nat × Nat), w.heap[k]? = some (Obj.cells cs t fr) → t ∉ T → w'.heap[k]? = some (Obj.cells cs t fr)
namespace FrT
variable {T : List TypeId} {B : Nat} {w w1 w2 : World}
theorem refl (T : List TypeId) (B : Nat) (w : World) : FrT T B w w := ⟨Below.refl _ _, fun _ _ _ _ h _ => h⟩
theorem trans (h : FrT T B w w1) (k : FrT T B w1 w2) : FrT T B w w2 := ⟨h.below.trans k.below, fun b cs t fr hb ht => k.kept b cs t fr (h.kept b cs t fr hb ht) ht⟩
theorem size (h : FrT T B w w1) : w.heap.size ≤ w1.heap.size := h.below.size
/-- A call that turns nothing that was there. -/
theorem then_fresh (h : FrT T B w w1) (hB : B ≤ w1.heap.size) (k : Below w1.heap.size w1 w2) : FrT T B w w2 :=
  h.trans ⟨k.mono hB, fun b cs t fr hb _ => (k.block b (blk_lt hb)).trans hb⟩
theorem of_fresh (hB : B ≤ w.heap.size) (k : Below w.heap.size w w1) : FrT T B w w1 := (refl T B w).then_fresh hB k
theorem alloc (h : FrT T B w w1) (hB : B ≤ w1.heap.size) (o : Obj) : FrT T B w (w1.alloc o) := h.then_fresh hB (below_alloc (Below.refl _ _) o)
theorem drewN (h : FrT T B w w1) (n : Nat) : FrT T B w (w1.drewN n) := ⟨pw_below_drewN h.below n, h.kept⟩
theorem drew (h : FrT T B w w1) : FrT T B w w1.drew := ⟨below_drew h.below, h.kept⟩
theorem setCell (h : FrT T B w w1) {g : Nat} {cs : Array Value} {t : TypeId} {fr : Nat × Nat} (hg : w1.heap[g]? = some (.cells cs t fr)) (ht : t ∈ T) (hB : B ≤ g) (j : Nat) (u : Value) : FrT T B w (w1.setCell ⟨g, j, none⟩ u) :=
  h.trans ⟨(Below.refl B w1).setCell hB u, fun b cs' t' fr' hb ht' => by
    rw [Below.heap_setCell _ _ _ _ (fun e => ?_)]
    · exact hb
    · subst e
      rw [hg] at hb
      injection hb with hb
      injection hb with _ ht2
      exact ht' (ht2 ▸ ht)⟩
/-- An append to a row of one's own (its type e is one of T). -/
theorem grown (h : FrT T B w w1) {α : Type} {d : Kd α} {e base : Nat} {ok : Nat → Prop} {v : Value} {xs : List α} (hv : d.R e w1 base ok v xs) (he : e ∈ T) (hb : B ≤ base) (hB : B ≤ w1.heap.size) (hg : w1.grownBy w2 v.ownBlock) : FrT T B w w2 := by
  refine h.trans ⟨(Below.refl B w1).grown hg hB (fun k hk => Nat.le_trans hb (Kd.R_base hv k hk)), fun b cs t fr hh ht => ?_⟩
  refine (hg.block b (blk_lt hh) (fun e2 => ?_)).trans hh
  obtain ⟨inner, ho⟩ := Kd.R_own hv
  obtain ⟨cells, hc⟩ := own_typed ho b e2.symm
  rw [hh] at hc
  injection hc with hc
  injection hc with _ hc
  exact ht (hc ▸ he)
theorem lower {B' : Nat} (h : FrT T B w w1) (hb : B' ≤ B) : FrT T B' w w1 := ⟨h.below.mono hb, h.kept⟩
theorem more {T' : List TypeId} (h : FrT T B w w1) (hT : ∀ t, t ∈ T → t ∈ T') : FrT T' B w w1 := ⟨h.below, fun b cs t fr hb ht => h.kept b cs t fr hb (fun h2 => ht (hT t h2))⟩
theorem blk (h : FrT T B w w1) {g : Nat} {cs : Array Value} {t : TypeId} {fr : Nat × Nat} (hg : w.heap[g]? = some (.cells cs t fr)) (ht : t ∉ T) : w1.heap[g]? = some (.cells cs t fr) := h.kept g cs t fr hg ht
theorem cell (h : FrT T B w w1) {p : Addr} (hp : p.block < B) : w1.cell? p = w.cell? p := h.below.cell hp
/-- A row whose types are none of T lives on. -/
theorem R_lives {α : Type} {d : Kd α} {e base : Nat} {ok : Nat → Prop} {v : Value} {xs : List α} (h : FrT T B w w1) (hv : d.R e w base ok v xs) (ht : ∀ q, q ∈ e :: d.E → q ∉ T) : d.R e w1 base ok v xs := by
  refine Kd.R_mono (Kd.R_move (Kd.R_bound hv) (fun k hk => ?_)) (fun _ hk => hk.1)
  obtain ⟨_, _, _, q, hq, cells, hc⟩ := hk
  rw [hc]
  exact h.kept k cells q (0, 0) hc (ht q hq)
end FrT
end Go.Proofs.YtmemkmnnededgaaDoor.H
