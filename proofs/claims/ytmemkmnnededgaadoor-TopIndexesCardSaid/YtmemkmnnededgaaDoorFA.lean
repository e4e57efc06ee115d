/- F0, F1, F1b, F1c of the claim's own texts, in one. -/
import Derived.Test.YtmemkmnnededgaaDoorEC
import Derived.Test.YtmemkmnnededgaaDoorD7
import Derived.Test.YtmemkmnnededgaaDoorB14
namespace Go.Proofs.YtmemkmnnededgaaDoor.H
open Go.RowKit Go.Proofs.YtmemkmnnededgaaDoorW.PrintWords Go.Proofs.YtmemkmnnededgaaDoorW.PrintLast Go.Proofs.YtmemkmnnededgaaDoorW.PrintMore
attribute [local go_sem] max2_int min2_int max_two min_two max_three min_three max_four min_four
set_option linter.unusedVariables false
set_option linter.unusedSimpArgs false

set_option maxRecDepth 100000 in
set_option maxHeartbeats 6400000 in
theorem new_bad (ga : Nat) (n : Int) (w : World) (hn : n < 1 ∨ 256 < n) :
    Calls Tryd.prog 5 #[.pointer (some ⟨ga, 0, none⟩), .int .i64 n] w fun e w' => e = .returned (.tuple #[.pointer none, .int .i64 2]) ∧ w' = w := by
  rcases hn with h | h
  · go_enter Tryd.func5, Tryd.ntmps5
    go_wp2_with fail
    go_ret2
    exact ⟨rfl, rfl⟩
  · have h1 : ¬ n < 1 := by omega
    go_enter Tryd.func5, Tryd.ntmps5
    go_wp2_with fail
    go_ret2
    exact ⟨rfl, rfl⟩
end Go.Proofs.YtmemkmnnededgaaDoor.H

namespace Go.Proofs.YtmemkmnnededgaaDoor.H
open Go.RowKit Go.Proofs.YtmemkmnnededgaaDoorW.PrintWords Go.Proofs.YtmemkmnnededgaaDoorW.PrintLast Go.Proofs.YtmemkmnnededgaaDoorW.PrintMore
attribute [local go_sem] max2_int min2_int max_two min_two max_three min_three max_four min_four
set_option linter.unusedVariables false
set_option linter.unusedSimpArgs false

def encO (b : Option Nat) : Value := .pointer (b.map fun b => ⟨b, 0, none⟩)
def kO : Kd (Option Nat) := Kd.scalar encO (fun _ => rfl)
def kStep : Kd (Option Nat × Option Nat) := Kd.pair kO kO
def TOp.pr : TOp → Option Nat × Option Nat
  | .h o _ => (some o, none)
  | .s o _ => (none, some o)
theorem TOp.cells_eq (x : TOp) : x.cells = #[encO x.pr.1, encO x.pr.2] := by cases x <;> rfl
def prs (t : List TOp) : List (Option Nat × Option Nat) := t.map TOp.pr
/-- Both workers' rows: the array at po, the rows V, their steppers L. -/
structure RowsAt (B : Nat) (w : World) (po : Nat) (V : Nat → Value) (L : Nat → List (Option Nat × Option Nat)) : Prop where
  ge : B ≤ po
  blk : CellsAt w po 35 2 V
  row : ∀ j, j < 2 → kStep.R 40 w B (fun _ => True) (V j) (L j)
  ne : ∀ i j k, i < 2 → j < 2 → i ≠ j → (V i).ownBlock = some k → (V j).ownBlock ≠ some k
theorem kStep_E : kStep.E = [] := rfl
theorem RowsAt.fr {B : Nat} {w w' : World} {po : Nat} {V : Nat → Value} {L : Nat → List (Option Nat × Option Nat)} {T : List TypeId} (h : RowsAt B w po V L) (hf : FrT T B w w') (h1 : (35 : Nat) ∉ T) (h2 : (40 : Nat) ∉ T) : RowsAt B w' po V L :=
  ⟨h.ge, h.blk.fr hf h1, fun j hj => hf.R_lives (h.row j hj) (by
    intro q hq
    rw [kStep_E] at hq
    simp at hq
    rw [hq]; exact h2), h.ne⟩
theorem RowsAt.fro {B : Nat} {w w' : World} {po o : Nat} {V : Nat → Value} {L : Nat → List (Option Nat × Option Nat)} {T : List TypeId} (h : RowsAt B w po V L) (hf : FrO T o B w w') (h1 : (35 : Nat) ∉ T) (h2 : (40 : Nat) ∉ T) {t : TypeId} {cs : Array Value} {fr : Nat × Nat} (ho : w.heap[o]? = some (.cells cs t fr)) (h3 : t ≠ 35) (h4 : t ≠ 40) : RowsAt B w' po V L :=
  h.fr (hf.toT ho) (by simp only [List.mem_cons, not_or]; exact ⟨fun e => h3 e.symm, h1⟩) (by simp only [List.mem_cons, not_or]; exact ⟨fun e => h4 e.symm, h2⟩)
theorem RowsAt.below {B : Nat} {w w' : World} {po : Nat} {V : Nat → Value} {L : Nat → List (Option Nat × Option Nat)} (h : RowsAt B w po V L) (hb : Below w.heap.size w w') : RowsAt B w' po V L :=
  ⟨h.ge, h.blk.below hb, fun j hj => Kd.R_below (h.row j hj) hb, h.ne⟩
theorem RowsAt.cell {B : Nat} {w : World} {po : Nat} {V : Nat → Value} {L : Nat → List (Option Nat × Option Nat)} (h : RowsAt B w po V L) (j : Nat) (hj : j < 2) : ∃ A c, V j = .slice A (L j).length c ∧ w.cell? ⟨po, j, none⟩ = some (.slice A (L j).length c) := by
  obtain ⟨A, c, e⟩ := Kd.R_slice (h.row j hj)
  exact ⟨A, c, e, (h.blk.cell j hj).trans (by rw [e])⟩
/-- A stepper of a row. -/
theorem RowsAt.elem {B : Nat} {w : World} {po : Nat} {V : Nat → Value} {L : Nat → List (Option Nat × Option Nat)} (h : RowsAt B w po V L) (j : Nat) (hj : j < 2) (i : Nat) (hi : i < (L j).length) : ∃ Z c, V j = .slice (some ⟨Z, 0, none⟩) (L j).length c ∧ (L j).length ≤ c ∧ w.cell? ⟨Z, i * 2, none⟩ = some (encO ((L j)[i]).1) ∧ w.cell? ⟨Z, i * 2 + 1, none⟩ = some (encO ((L j)[i]).2) := by
  have hr := h.row j hj
  obtain ⟨A, c, e⟩ := Kd.R_slice hr
  rw [e] at hr
  obtain ⟨Z, rfl⟩ := R_some hr (by omega)
  obtain ⟨_, hcap, hC⟩ := Kd.R_reads' hr
  obtain ⟨ad, e2, hh⟩ := hC.2.2 (by omega)
  cases e2
  obtain ⟨cs, hl, ⟨c0, c1, rfl, h0, h1⟩, hc⟩ := hh i _ (List.getElem?_eq_getElem hi)
  have h0' : c0 = [encO ((L j)[i]).1] := h0
  have h1' : c1 = [encO ((L j)[i]).2] := h1
  subst h0' h1'
  have e0 := hc 0 _ rfl
  have e1 := hc 1 _ rfl
  have hsz : kStep.sz = 2 := rfl
  rw [hsz, add0] at e0 e1
  exact ⟨Z, c, e, hcap, e0, e1⟩
/-! ### The state ahead of all steps -/
def G0 (a : Ar) (hs : List Nat) (nb0 : Nat) (cs : List Nat) : G := ⟨a, hs, [], [nb0], fun _ => firstNode.with cs, fun _ => [], fun _ => [], fun _ => 0, fun _ => 0, fun _ => true, fun _ => true⟩
theorem GI0 (keys : List ByteArray) {a2 a3 : Ar} {hs cs : List Nat} {nb0 nb : Nat} (h1 : Fresh ar0 a2 hs) (h2 : Fresh a2 a3 cs) (hl : hs.length = nb) (hn1 : 1 ≤ nb) (hn2 : nb ≤ 256) (hc : cs.length = 8) (wf : a3.Wf (nb + 8)) : GI keys (G0 a3 hs nb0 cs) (nb + 8) := by
  have hnb : (G0 a3 hs nb0 cs).nb = nb := hl
  have chd : ∀ b, b < nb → ∃ hb : b < hs.length, (G0 a3 hs nb0 cs).cell (.hd b) = hs[b] := fun b hb => ⟨by omega, by
    have hb' : b < hs.length := by omega
    show headAt hs b = hs[b]
    unfold headAt
    simp [hb']⟩
  have ctw : ∀ v, v < 8 → ∃ hv : v < cs.length, (G0 a3 hs nb0 cs).cell (.tw 0 v) = cs[v] := fun v hv => ⟨by omega, with_tower firstNode v (by omega)⟩
  have tkh : ∀ b, b < nb → a2.tk ((G0 a3 hs nb0 cs).cell (.hd b)) = true := fun b hb => by
    obtain ⟨h, e⟩ := chd b hb
    rw [e, h1.tk]; simp
  have lv : ∀ y, (G0 a3 hs nb0 cs).live y → (∃ b, y = .hd b ∧ b < nb) ∨ ∃ v, y = .tw 0 v ∧ v < 8 := by
    intro y hy
    cases y with
    | hd b => exact Or.inl ⟨b, rfl, by have : b < hs.length := hy; omega⟩
    | en n =>
      have : n ≤ 0 := hy.2.1
      have := hy.1
      omega
    | tw n v =>
      have h5 : n < 1 := hy.1
      have h6 : v < 8 := hy.2.2
      obtain rfl : n = 0 := by omega
      exact Or.inr ⟨v, rfl, h6⟩
  have htk : ∀ v (hv : v < 8), a2.tk ((G0 a3 hs nb0 cs).cell (.tw 0 v)) = false := fun v hv => by
    obtain ⟨h, e⟩ := ctw v hv
    rw [e]; exact h2.new _ (List.getElem_mem h)
  refine ⟨⟨fun y hy => ?_, fun x y hx hy hxy => ?_⟩, wf, by rw [hnb]; exact hn1, by rw [hnb]; exact hn2, by rw [hnb]; show 0 + nb + 8 ≤ _; omega, by rw [hnb]; show 1 + nb + 7 ≤ _; omega, fun b hb => ?_, fun b hb m hm => ?_, fun b hb => ?_, fun n h3 h4 => ?_, ⟨by show 0 < 1; omega, rfl, rfl⟩, fun v hv => ?_, fun v hv m hm => ?_, fun v hv => ?_, fun v hv m hm => ?_, fun n h3 h4 => ?_⟩
  · show a3.tk _ = true
    rcases lv y hy with ⟨b, rfl, hb⟩ | ⟨v, rfl, hv⟩
    · rw [h2.tk, tkh b hb]; simp
    · obtain ⟨h, e⟩ := ctw v hv
      rw [e, h2.tk]; simp
  · rcases lv x hx with ⟨b, rfl, hb⟩ | ⟨v, rfl, hv⟩
    · rcases lv y hy with ⟨b', rfl, hb'⟩ | ⟨v', rfl, hv'⟩
      · obtain ⟨h, e⟩ := chd b hb
        obtain ⟨h', e'⟩ := chd b' hb'
        rw [e, e'] at hxy
        rw [(List.getElem_inj h1.nodup).1 hxy]
      · have h5 := tkh b hb
        rw [hxy, htk v' hv'] at h5
        cases h5
    · rcases lv y hy with ⟨b', rfl, hb'⟩ | ⟨v', rfl, hv'⟩
      · have h5 := tkh b' hb'
        rw [← hxy, htk v hv] at h5
        cases h5
      · obtain ⟨h, e⟩ := ctw v hv
        obtain ⟨h', e'⟩ := ctw v' hv'
        rw [e, e'] at hxy
        rw [(List.getElem_inj h2.nodup).1 hxy]
  · rw [hnb] at hb
    obtain ⟨h, e⟩ := chd b hb
    refine ⟨0, ?_, rfl⟩
    show a3.val _ = 0
    rw [h2.val _ (tkh b hb), e]
    exact h1.zero _ (List.getElem_mem h)
  · have : m ∈ ([] : List Nat) := hm
    simp at this
  · exact List.nodup_nil
  · have : n ≤ 0 := h4
    omega
  · show a3.val _ = 0
    obtain ⟨h, e⟩ := ctw v hv
    rw [e]
    exact h2.zero _ (List.getElem_mem h)
  · have : m ∈ ([] : List Nat) := hm
    simp at this
  · exact List.Pairwise.nil
  · have : m ∈ ([] : List Nat) := hm
    simp at this
  · have : n < 1 := h4
    omega

/-! ### The operations are made -/
theorem WR.frT {B : Nat} {w w' : World} {ga h l : Nat} {g : G} {T : List TypeId} (wr : WR B w ga h l g) (hB : 0 < B) (hf : FrT T B w w') (hT : ∀ t, t ∈ [51, 48, 55, 3, 77, 61, 62, 67] → t ∉ T) : WR B w' ga h l g :=
  ⟨wr.ar.kept hf (hT _ (by simp)) (hT _ (by simp)), wr.ht.kept hf (hT _ (by simp)) (hT _ (by simp)) (hT _ (by simp)), wr.li.kept hf (hT _ (by simp)) (hT _ (by simp)) (hT _ (by simp)), fun j hj => (hf.below.cell (p := ⟨0, j, none⟩) hB).trans (wr.tab j hj)⟩
theorem OpAt.frT {B : Nat} {w w' : World} {h l : Nat} {x : TOp} {T : List TypeId} (ho : OpAt B w h l x) (hf : FrT T B w w') (h1 : (70 : Nat) ∉ T) (h2 : (73 : Nat) ∉ T) : OpAt B w' h l x := by
  cases x with
  | h o op => exact HoAt.kept ho hf h1
  | s o op => exact SoAt.kept ho hf h2
theorem OpAt.lt {B : Nat} {w : World} {h l : Nat} {x : TOp} (ho : OpAt B w h l x) : x.blk < w.heap.size := by
  cases x with
  | h o op => exact blk_lt ho.blk
  | s o op => exact ho.blk.lt
structure MI (B : Nat) (w : World) (ga h l : Nat) (g : G) (po : Nat) (V : Nat → Value) (T : Nat → List TOp) : Prop where
  wr : WR B w ga h l g
  rows : RowsAt B w po V (fun j => prs (T j))
  at_ : ∀ j, j < 2 → ∀ x, x ∈ T j → OpAt B w h l x
section
variable {B : Nat} {w w' w1 : World} {ga h l po : Nat} {g : G} {V : Nat → Value} {T : Nat → List TOp}
theorem MI.below (mi : MI B w ga h l g po V T) (hB : 0 < B) (hb : Below w.heap.size w w') : MI B w' ga h l g po V T :=
  ⟨mi.wr.below hB hb, mi.rows.below hb, fun j hj x hx => (mi.at_ j hj x hx).below hb⟩
theorem MI.drew (mi : MI B w ga h l g po V T) (hB : 0 < B) : MI B w.drew ga h l g po V T := mi.below hB (below_drew (Below.refl _ _))
theorem MI.append (mi : MI B w ga h l g po V T) (hB : 0 < B) (j : Nat) (hj : j < 2) (xs : List TOp) (hx : ∀ x, x ∈ xs → OpAt B w h l x) (v1 : Value) (hg : w.grownBy w1 (V j).ownBlock) (hat : v1.ownBlock = (V j).ownBlock ∨ ∃ b, v1.ownBlock = some b ∧ w.heap.size ≤ b) (hr : kStep.R 40 w1 B (fun _ => True) v1 (prs (T j) ++ prs xs)) :
    MI B (w1.setCell ⟨po, j, none⟩ v1) ga h l g po (upN V j v1) (upN T j (T j ++ xs)) := by
  have hz : B ≤ w.heap.size := Nat.le_trans mi.wr.ar.ge (Nat.le_of_lt mi.wr.ar.lt)
  have hrj := mi.rows.row j hj
  have f1 : FrT [40] B w w1 := (FrT.refl [40] B w).grown hrj (by simp) (Nat.le_refl _) hz hg
  have hb1 : CellsAt w1 po 35 2 V := mi.rows.blk.fr f1 (by simp)
  have f2 : FrT [40, 35] B w (w1.setCell ⟨po, j, none⟩ v1) := by
    obtain ⟨cs, hb, _⟩ := hb1
    exact ((f1.more (T' := [40, 35]) (by simp)).setCell hb (by simp) mi.rows.ge j v1)
  refine ⟨mi.wr.frT hB f2 (by simp), ⟨mi.rows.ge, hb1.set j v1 (fun i hi => rfl), fun i hi => ?_, fun i i' k hi hi' hne hk => ?_⟩, fun i hi x hxi => ?_⟩
  · by_cases e : i = j
    · subst e
      rw [upN_eq]
      show kStep.R 40 _ B _ v1 (prs (upN T i (T i ++ xs) i))
      rw [upN_eq]
      have : prs (T i ++ xs) = prs (T i) ++ prs xs := by simp [prs]
      rw [this]
      exact hb1.R_set hr (by rw [kStep_E]; simp) i v1
    · rw [upN_ne _ _ _ _ e]
      show kStep.R 40 _ B _ (V i) (prs (upN T j (T j ++ xs) i))
      rw [upN_ne _ _ _ _ e]
      have hri := mi.rows.row i hi
      refine hb1.R_set ?_ (by rw [kStep_E]; simp) j v1
      obtain ⟨h0, inner, ho, hrr⟩ := hri
      exact ⟨h0, inner, own_move ho (fun k hk => hg.block k (own_lt ho k hk) (fun e2 => mi.rows.ne i j k hi hj e hk e2.symm)), hrr.imp_ (fun _ _ hp => hp)⟩
  · have ownlt : ∀ i'', i'' < 2 → ∀ k, (V i'').ownBlock = some k → k < w.heap.size := fun i'' h'' k hk => by
      obtain ⟨_, inner, ho, _⟩ := mi.rows.row i'' h''
      exact own_lt ho k hk
    by_cases e : i = j
    · subst e
      rw [upN_eq] at hk
      rw [upN_ne _ _ _ _ (fun e => hne e.symm)]
      intro h5
      rcases hat with h6 | ⟨b, h6, h7⟩
      · exact mi.rows.ne i i' k hi hi' hne (h6.symm.trans hk) h5
      · rw [h6] at hk
        injection hk with hk
        have := ownlt i' hi' k h5
        omega
    · rw [upN_ne _ _ _ _ e] at hk
      have e' : i' = j := by omega
      subst e'
      rw [upN_eq]
      intro h5
      rcases hat with h6 | ⟨b, h6, h7⟩
      · exact mi.rows.ne i i' k hi hi' hne hk (h6.symm.trans h5)
      · rw [h6] at h5
        injection h5 with h5
        have := ownlt i hi k hk
        omega
  · by_cases e : i = j
    · subst e
      rw [upN_eq] at hxi
      rcases List.mem_append.1 hxi with h1 | h1
      · exact (mi.at_ i hi x h1).frT f2 (by simp) (by simp)
      · exact (hx x h1).frT f2 (by simp) (by simp)
    · rw [upN_ne _ _ _ _ e] at hxi
      exact (mi.at_ i hi x hxi).frT f2 (by simp) (by simp)
end
theorem tab_pos {w : World} (h : TabAt 0 Lib.deBruijn64tab w) : 0 < w.heap.size := by
  have h1 := h 0 (by decide)
  exact cell_lt h1
end Go.Proofs.YtmemkmnnededgaaDoor.H

namespace Go.Proofs.YtmemkmnnededgaaDoor.H
open Go.RowKit Go.Proofs.YtmemkmnnededgaaDoorW.PrintWords Go.Proofs.YtmemkmnnededgaaDoorW.PrintLast Go.Proofs.YtmemkmnnededgaaDoorW.PrintMore
set_option linter.unusedVariables false
set_option linter.unusedSimpArgs false

theorem mi_start {B : Nat} {w2 w3 : World} {ga h l nb0 : Nat} {a3 : Ar} {hs cs : List Nat} (hB : 0 < B) (hht : HtAt B w2 h ga hs []) (hli : LiAt B w3 l ga [nb0] (fun _ => firstNode.with cs)) (har : ArAt B w3 ga a3) (hf : FrT TA B w2 w3) (hz : B ≤ w3.heap.size) (hT : TabAt 0 Lib.deBruijn64tab w2) :
    MI B (w3.alloc (.cells #[.slice none 0 0, .slice none 0 0] 35)) ga h l (G0 a3 hs nb0 cs) w3.heap.size (fun _ => .slice none 0 0) (fun _ => []) := by
  have hb : Below w3.heap.size w3 (w3.alloc (.cells #[.slice none 0 0, .slice none 0 0] 35)) := below_alloc (Below.refl _ _) _
  have wr : WR B w3 ga h l (G0 a3 hs nb0 cs) := ⟨har, hht.kept hf (by simp [TA]) (by simp [TA]) (by simp [TA]), hli, fun j hj => (hf.below.cell (p := ⟨0, j, none⟩) hB).trans (hT j hj)⟩
  refine ⟨wr.below hB hb, ⟨hz, CellsAt.new w3 _ 35 2 _ rfl (fun i hi => ?_), fun j hj => Kd.R_nil _ _ _ _ _, fun i j k hi hj hne hk => by simp [Value.ownBlock] at hk⟩, fun j hj x hx => by simp at hx⟩
  rcases i with _ | _ | i
  all_goals first | rfl | exact absurd hi (by omega)
theorem cell_lt' {w : World} {p : Addr} {x : Value} (h : w.cell? p = some x) : p.block < w.heap.size := by
  rcases Nat.lt_or_ge p.block w.heap.size with h1 | h1
  · exact h1
  · have : w.heap[p.block]? = none := Array.getElem?_eq_none h1
    simp [World.cell?, this] at h
theorem MI.grown_blk {B : Nat} {w w1 : World} {ga h l po : Nat} {g : G} {V : Nat → Value} {T : Nat → List TOp} (mi : MI B w ga h l g po V T) (j : Nat) (hj : j < 2) (hg : w.grownBy w1 (V j).ownBlock) : CellsAt w1 po 35 2 V := by
  have hz : B ≤ w.heap.size := Nat.le_trans mi.wr.ar.ge (Nat.le_of_lt mi.wr.ar.lt)
  exact mi.rows.blk.fr ((FrT.refl [40] B w).grown (mi.rows.row j hj) (by simp) (Nat.le_refl _) hz hg) (by simp)
def RrS (x : Option Nat × Option Nat) (cs : List Value) : Prop := cs = [encO x.1, encO x.2]
theorem reads_two (w : World) (a b : Option Nat × Option Nat) : ReadsRow RrS 2 (w.alloc (.cells #[encO a.1, encO a.2, encO b.1, encO b.2] 40)) (some ⟨w.heap.size, 0, none⟩) 2 [a, b] := by
  have hb := blk_new w (.cells #[encO a.1, encO a.2, encO b.1, encO b.2] 40)
  refine ⟨rfl, by omega, fun _ => ⟨_, rfl, fun j p hj => ?_⟩⟩
  rcases j with _ | _ | j
  · have e : a = p := by simpa using hj
    subst e
    refine ⟨_, rfl, rfl, fun i u hu => ?_⟩
    rw [add0, blk_cell hb]
    rcases i with _ | _ | i
    · exact hu
    · exact hu
    · simp at hu
  · have e : b = p := by simpa using hj
    subst e
    refine ⟨_, rfl, rfl, fun i u hu => ?_⟩
    rw [add0, blk_cell hb]
    rcases i with _ | _ | i
    · exact hu
    · exact hu
    · simp at hu
  · simp at hj
theorem reads_one (w : World) (a : Option Nat × Option Nat) : ReadsRow RrS 2 (w.alloc (.cells #[encO a.1, encO a.2] 40)) (some ⟨w.heap.size, 0, none⟩) 1 [a] := by
  have hb := blk_new w (.cells #[encO a.1, encO a.2] 40)
  refine ⟨rfl, by omega, fun _ => ⟨_, rfl, fun j p hj => ?_⟩⟩
  rcases j with _ | j
  · have e : a = p := by simpa using hj
    subst e
    refine ⟨_, rfl, rfl, fun i u hu => ?_⟩
    rw [add0, blk_cell hb]
    rcases i with _ | _ | i
    · exact hu
    · exact hu
    · simp at hu
  · simp at hj
theorem RrS_M (w : World) (B : Nat) (okp : Nat → Prop) (x : Option Nat × Option Nat) (cs : List Value) (h : RrS x cs) : kStep.M w B okp x cs := ⟨[encO x.1], [encO x.2], h, rfl, rfl⟩
theorem info40 : (Tryd.prog.info? 40).map (fun i => (i.zero, i.size, i.bytes)) = some (some (.agg #[.pointer none, .pointer none]), 2, 16) := by kernel_rfl
def Mem (T : Nat → List TOp) (x : TOp) : Prop := x ∈ T 0 ∨ x ∈ T 1
def push (T : Nat → List TOp) (j : Nat) (xs : List TOp) : Nat → List TOp := upN T j (T j ++ xs)
theorem mem_push {T : Nat → List TOp} {j : Nat} {xs : List TOp} {x : TOp} (hj : j < 2) : Mem (push T j xs) x ↔ Mem T x ∨ x ∈ xs := by
  unfold Mem push
  have : j = 0 ∨ j = 1 := by omega
  rcases this with rfl | rfl
  · rw [upN_eq, upN_ne _ _ _ _ (by decide), List.mem_append]
    constructor
    · rintro ((h | h) | h) <;> simp [h]
    · rintro ((h | h) | h) <;> simp [h]
  · rw [upN_eq, upN_ne _ _ _ _ (by decide), List.mem_append]
    constructor
    · rintro (h | h | h) <;> simp [h]
    · rintro ((h | h) | h) <;> simp [h]
theorem tot_push {T : Nat → List TOp} {j : Nat} {xs : List TOp} (f : List TOp → Nat) (hf : ∀ a b, f (a ++ b) = f a + f b) (hj : j < 2) : f (push T j xs 0) + f (push T j xs 1) = f (T 0) + f (T 1) + f xs := by
  unfold push
  have : j = 0 ∨ j = 1 := by omega
  rcases this with rfl | rfl
  · rw [upN_eq, upN_ne _ _ _ _ (by decide), hf]; omega
  · rw [upN_eq, upN_ne _ _ _ _ (by decide), hf]; omega
theorem buds_app (a b : List TOp) : buds (a ++ b) = buds a + buds b := by simp [buds]
/-- All blocks differ. -/
def Apart2 (T : Nat → List TOp) : Prop := ((T 0 ++ T 1).map TOp.blk).Nodup
theorem apart_push {T : Nat → List TOp} {j lo : Nat} {xs : List TOp} (hj : j < 2) (h : Apart2 T) (h1 : ∀ x, Mem T x → x.blk < lo) (h2 : ∀ x, x ∈ xs → lo ≤ x.blk) (h3 : (xs.map TOp.blk).Nodup) : Apart2 (push T j xs) := by
  unfold Apart2 push at *
  rw [List.map_append, List.nodup_append] at h
  obtain ⟨n0, n1, n01⟩ := h
  have ne : ∀ a, a ∈ (T 0).map TOp.blk ∨ a ∈ (T 1).map TOp.blk → ∀ b, b ∈ xs.map TOp.blk → a ≠ b := by
    intro a ha b hb e
    obtain ⟨y, hy, rfl⟩ := List.mem_map.1 hb
    have h5 := h2 y hy
    rcases ha with ha | ha
    · obtain ⟨z, hz, rfl⟩ := List.mem_map.1 ha
      have := h1 z (Or.inl hz)
      omega
    · obtain ⟨z, hz, rfl⟩ := List.mem_map.1 ha
      have := h1 z (Or.inr hz)
      omega
  have : j = 0 ∨ j = 1 := by omega
  rcases this with rfl | rfl
  · rw [upN_eq, upN_ne _ _ _ _ (by decide), List.map_append, List.map_append, List.nodup_append, List.nodup_append]
    refine ⟨⟨n0, h3, fun a ha b hb => ne a (Or.inl ha) b hb⟩, n1, fun a ha b hb => ?_⟩
    rcases List.mem_append.1 ha with ha | ha
    · exact n01 a ha b hb
    · exact fun e => ne b (Or.inr hb) a ha e.symm
  · rw [upN_eq, upN_ne _ _ _ _ (by decide), List.map_append, List.map_append, List.nodup_append, List.nodup_append]
    refine ⟨n0, ⟨n1, h3, fun a ha b hb => ne a (Or.inr ha) b hb⟩, fun a ha b hb => ?_⟩
    rcases List.mem_append.1 hb with hb | hb
    · exact n01 a ha b hb
    · exact ne a (Or.inl ha) b hb
structure BP (keys : List ByteArray) (T : Nat → List TOp) (i : Nat) : Prop where
  ini : ∀ x, Mem T x → Ini keys x
  nd : Apart2 T
  bud : buds (T 0) + buds (T 1) ≤ 20 * i
  len : (T 0).length + (T 1).length = 3 * i
  cH : ∀ (m : Nat) (hm : m < keys.length), m < i → ∃ x, Mem T x ∧ isH keys[m] x
  cS : ∀ (m : Nat) (hm : m < keys.length), m < i → ∃ x, Mem T x ∧ isS keys[m] x
def hop0 (key : ByteArray) (ref : Int) : HOp := ⟨key, ref, 0, 0, 0, 0, false, 0⟩
theorem BP.none (keys : List ByteArray) : BP keys (fun _ => []) 0 :=
  ⟨fun x h => by rcases h with h | h <;> simp at h, List.nodup_nil, Nat.zero_le _, rfl, fun m _ h => by omega, fun m _ h => by omega⟩
theorem BP.round {keys : List ByteArray} {T : Nat → List TOp} {i j j' oh os ot lo H : Nat} {r1 r2 r3 : Int} (bp : BP keys T i) (hi : i < keys.length) (hj : j < 2) (hj' : j' < 2) (hlo : ∀ x, Mem T x → x.blk < lo) (h1 : lo ≤ oh) (h2 : oh < os) (h3 : os < ot) (hH1 : 1 ≤ H) (hH2 : H ≤ 8) :
    BP keys (push (push T j [.h oh (hop0 keys[i] r1), .s os (sop0 keys[i] r2 H)]) j' [.s ot (sop0 keys[i] r3 1)]) (i + 1) := by
  have hk : keys[i] ∈ keys := List.getElem_mem hi
  have ih : Ini keys (.h oh (hop0 keys[i] r1)) := ⟨hk, rfl, rfl⟩
  have is_ : Ini keys (.s os (sop0 keys[i] r2 H)) := ⟨hk, rfl, hH1, hH2, rfl, rfl, rfl, rfl⟩
  have it : Ini keys (.s ot (sop0 keys[i] r3 1)) := ⟨hk, rfl, by show 1 ≤ 1; omega, by show 1 ≤ 8; omega, rfl, rfl, rfl, rfl⟩
  have hmem : ∀ x, Mem (push (push T j [.h oh (hop0 keys[i] r1), .s os (sop0 keys[i] r2 H)]) j' [.s ot (sop0 keys[i] r3 1)]) x ↔ ((Mem T x ∨ (x = .h oh (hop0 keys[i] r1) ∨ x = .s os (sop0 keys[i] r2 H))) ∨ x = .s ot (sop0 keys[i] r3 1)) := fun x => by
    rw [mem_push hj', mem_push hj]; simp
  refine ⟨fun x hx => ?_, ?_, ?_, ?_, fun m hm hmi => ?_, fun m hm hmi => ?_⟩
  · rcases (hmem x).1 hx with (h | rfl | rfl) | rfl
    · exact bp.ini x h
    · exact ih
    · exact is_
    · exact it
  · refine apart_push (lo := os + 1) hj' (apart_push (lo := lo) hj bp.nd hlo (fun x hx => ?_) ?_) (fun x hx => ?_) (fun x hx => ?_) (by simp)
    · simp at hx
      rcases hx with rfl | rfl
      · exact h1
      · show lo ≤ os
        omega
    · simp [TOp.blk]
      omega
    · rcases (mem_push hj).1 hx with h | h
      · have := hlo x h
        omega
      · simp at h
        rcases h with rfl | rfl
        · show oh < os + 1
          omega
        · show os < os + 1
          omega
    · simp at hx
      rw [hx]
      show os + 1 ≤ ot
      omega
  · rw [tot_push buds buds_app hj', tot_push buds buds_app hj]
    have e1 : buds [.h oh (hop0 keys[i] r1), .s os (sop0 keys[i] r2 H)] = 2 + 2 * H := by
      show (2 + (2 * H + 0)) = _
      omega
    have e2 : buds [.s ot (sop0 keys[i] r3 1)] = 2 := rfl
    rw [e1, e2]
    have := bp.bud
    omega
  · rw [tot_push List.length (fun a b => List.length_append) hj', tot_push List.length (fun a b => List.length_append) hj]
    have := bp.len
    simp only [List.length_cons, List.length_nil]
    omega
  · by_cases e : m = i
    · subst e
      exact ⟨_, (hmem _).2 (Or.inl (Or.inr (Or.inl rfl))), rfl⟩
    · obtain ⟨x, hx, hk⟩ := bp.cH m hm (by omega)
      exact ⟨x, (hmem x).2 (Or.inl (Or.inl hx)), hk⟩
  · by_cases e : m = i
    · subst e
      exact ⟨_, (hmem _).2 (Or.inl (Or.inr (Or.inr rfl))), rfl⟩
    · obtain ⟨x, hx, hk⟩ := bp.cS m hm (by omega)
      exact ⟨x, (hmem x).2 (Or.inl (Or.inl hx)), hk⟩
/-- All operations are made: the workers may begin. -/
theorem BP.start {keys : List ByteArray} {T : Nat → List TOp} {B : Nat} {w : World} {ga h l po : Nat} {g : G} {V : Nat → Value} (bp : BP keys T keys.length) (hkl : keys.length ≤ 40) (mi : MI B w ga h l g po V T) (gi : GI keys g (g.nb + 8)) : TI keys B w ga h l g (g.nb + 8) (T 0) (T 1) 620 620 := by
  have wi : ∀ j, j < 2 → WI keys g 620 (T j) := by
    intro j hj
    have hm : ∀ x, x ∈ T j → Mem T x := fun x hx => by
      have : j = 0 ∨ j = 1 := by omega
      rcases this with rfl | rfl
      · exact Or.inl hx
      · exact Or.inr hx
    cases hT : T j with
    | nil => trivial
    | cons x rest => exact ⟨(bp.ini x (hm x (by rw [hT]; simp))).oi g, fun y hy => bp.ini y (hm y (by rw [hT]; simp [hy]))⟩
  refine ⟨mi.wr, gi, mi.at_ 0 (by omega), mi.at_ 1 (by omega), wi 0 (by omega), wi 1 (by omega), bp.nd, by have := bp.bud; omega, fun key h1 h2 => ?_, fun key h1 h2 => ?_⟩
  · obtain ⟨m, hm, rfl⟩ := List.mem_iff_getElem.1 h1
    obtain ⟨x, hx, hk⟩ := bp.cH m hm hm
    exact Or.inr ⟨x, hx, hk⟩
  · obtain ⟨m, hm, rfl⟩ := List.mem_iff_getElem.1 h1
    obtain ⟨x, hx, hk⟩ := bp.cS m hm hm
    exact Or.inr ⟨x, hx, hk⟩
theorem BP.pot {keys : List ByteArray} {T : Nat → List TOp} (bp : BP keys T keys.length) (hkl : keys.length ≤ 40) : pot 620 (T 0) + pot 620 (T 1) ≤ 80000 := by
  have h := bp.len
  have e : ∀ t : List TOp, H.pot 620 t ≤ 620 * t.length := by
    intro t
    cases t with
    | nil => exact Nat.le_refl _
    | cons x r => show 620 + 620 * r.length ≤ 620 * (r.length + 1); omega
  have h0 := e (T 0)
  have h1 := e (T 1)
  omega
end Go.Proofs.YtmemkmnnededgaaDoor.H

namespace Go.Proofs.YtmemkmnnededgaaDoor.H
open Go.RowKit Go.Proofs.YtmemkmnnededgaaDoorW.PrintWords Go.Proofs.YtmemkmnnededgaaDoorW.PrintLast Go.Proofs.YtmemkmnnededgaaDoorW.PrintMore
set_option linter.unusedVariables false
set_option linter.unusedSimpArgs false

theorem tmod2 (x : Int) : x.tmod 2 = -1 ∨ x.tmod 2 = 0 ∨ x.tmod 2 = 1 := by
  rcases Int.lt_or_le x 0 with h | h
  · have e : x = -(-x) := by omega
    rw [e, Int.neg_tmod, Int.tmod_eq_emod_of_nonneg (by omega)]
    omega
  · rw [Int.tmod_eq_emod_of_nonneg h]
    omega
theorem pick2 (x : Int) : ∃ j : Nat, (wrap64 (x.tmod 2 + 2)).tmod 2 = (j : Int) ∧ j < 2 := by
  have w : ∀ y : Int, 0 ≤ y → y < 10 → wrap64 y = y := fun y h1 h2 => by unfold wrap64; omega
  rcases tmod2 x with h | h | h
  · exact ⟨1, by rw [h, w _ (by omega) (by omega)]; rfl, by decide⟩
  · exact ⟨0, by rw [h, w _ (by omega) (by omega)]; rfl, by decide⟩
  · exact ⟨1, by rw [h, w _ (by omega) (by omega)]; rfl, by decide⟩
theorem C_below {w w' : World} {A : Option Addr} {n : Nat} {xs : List ByteArray} (h : Kd.string.C w A n xs) (hb : Below w.heap.size w w') : Kd.string.C w' A n xs := Kd.C_below h hb
structure LP (keys : List ByteArray) (B : Nat) (w : World) (ga h l po pa : Nat) (V : Nat → Value) (L : Nat → List (Option Nat × Option Nat)) (nb : Nat) (g : G) (k : Nat) (R : Nat → List TOp) (p : Nat → Nat) (at_ : Nat → Nat) : Prop where
  ti : TI keys B w ga h l g k (R 0) (R 1) (p 0) (p 1)
  rows : RowsAt B w po V L
  ats : CellsAt w pa 42 2 (fun j => .int .i64 (at_ j))
  age : B ≤ pa
  rest : ∀ j, j < 2 → (L j).drop (at_ j) = prs (R j)
  atl : ∀ j, j < 2 → at_ j ≤ (L j).length
  nb : g.nb = nb
def phi (R : Nat → List TOp) (p : Nat → Nat) : Nat := pot (p 0) (R 0) + pot (p 1) (R 1)
section
variable {keys : List ByteArray} {B : Nat} {w w' : World} {ga h l po pa nb k : Nat} {V : Nat → Value} {L : Nat → List (Option Nat × Option Nat)} {g : G} {R : Nat → List TOp} {p at_ : Nat → Nat}
theorem LP.below (lp : LP keys B w ga h l po pa V L nb g k R p at_) (hB : 0 < B) (hb : Below w.heap.size w w') : LP keys B w' ga h l po pa V L nb g k R p at_ := by
  have ti := lp.ti
  exact ⟨⟨ti.wr.below hB hb, ti.gi, fun x hx => (ti.at0 x hx).below hb, fun x hx => (ti.at1 x hx).below hb, ti.i0, ti.i1, ti.nd, ti.bud, ti.cH, ti.cS⟩, lp.rows.below hb, lp.ats.below hb, lp.age, lp.rest, lp.atl, lp.nb⟩
theorem LP.drewN (lp : LP keys B w ga h l po pa V L nb g k R p at_) (hB : 0 < B) (n : Nat) : LP keys B (w.drewN n) ga h l po pa V L nb g k R p at_ := lp.below hB (pw_below_drewN (Below.refl _ _) n)
theorem LP.drew (lp : LP keys B w ga h l po pa V L nb g k R p at_) (hB : 0 < B) : LP keys B w.drew ga h l po pa V L nb g k R p at_ := lp.below hB (below_drew (Below.refl _ _))
theorem LP.nil_iff (lp : LP keys B w ga h l po pa V L nb g k R p at_) (j : Nat) (hj : j < 2) : R j = [] ↔ at_ j = (L j).length := by
  have h1 := lp.rest j hj
  have h2 := lp.atl j hj
  have h3 := congrArg List.length h1
  simp only [prs, List.length_drop, List.length_map] at h3
  constructor
  · intro e
    rw [e] at h3
    simp only [List.length_nil] at h3
    omega
  · intro e
    exact List.eq_nil_of_length_eq_zero (by omega)
theorem LP.head (lp : LP keys B w ga h l po pa V L nb g k R p at_) (j : Nat) (hj : j < 2) (hlt : at_ j < (L j).length) : ∃ x rest, R j = x :: rest ∧ (L j)[at_ j] = x.pr ∧ (L j).drop (at_ j + 1) = prs rest ∧ OpAt B w h l x := by
  cases hR : R j with
  | nil => have := (lp.nil_iff j hj).1 hR; omega
  | cons x rest =>
    have h1 := lp.rest j hj
    rw [hR, List.drop_eq_getElem_cons hlt] at h1
    have h2 : (L j)[at_ j] = x.pr ∧ (L j).drop (at_ j + 1) = prs rest := by
      simp only [prs, List.map_cons] at h1
      injection h1 with h1 h2
      exact ⟨h1, h2⟩
    refine ⟨x, rest, rfl, h2.1, h2.2, ?_⟩
    have : j = 0 ∨ j = 1 := by omega
    rcases this with rfl | rfl
    · exact lp.ti.at0 x (by rw [hR]; simp)
    · exact lp.ti.at1 x (by rw [hR]; simp)
/-- A step of the one worker, or the other. -/
theorem TI.step2 (ti : TI keys B w ga h l g k (R 0) (R 1) (p 0) (p 1)) (j : Nat) (hj : j < 2) {x : TOp} {rest : List TOp} (hR : R j = x :: rest) {r : Bool} (hp : Post keys B w ga h l g k x (p j) r w') :
    ∃ (g' : G) (k' : Nat) (p' : Nat → Nat) (x' : TOp), TI keys B w' ga h l g' k' (upN R j (if r then rest else x' :: rest) 0) (upN R j (if r then rest else x' :: rest) 1) (p' 0) (p' 1) ∧ x'.same x ∧ FrO TT x.blk B w w' ∧ g'.nb = g.nb ∧ phi (upN R j (if r then rest else x' :: rest)) p' < phi R p := by
  have : j = 0 ∨ j = 1 := by omega
  rcases this with rfl | rfl
  · rw [hR] at ti
    obtain ⟨g', k', p0', p1', x', h1, h2, h3, h4, h5⟩ := ti.step hp
    refine ⟨g', k', fun i => if i = 0 then p0' else p1', x', ?_, h2, h3, by unfold G.nb; rw [h4], ?_⟩
    · rw [upN_eq, upN_ne _ _ _ _ (by decide)]; exact h1
    · unfold phi
      rw [upN_eq, upN_ne _ _ _ _ (by decide), hR]; exact h5
  · have ti' := ti.swap
    rw [hR] at ti'
    obtain ⟨g', k', p0', p1', x', h1, h2, h3, h4, h5⟩ := ti'.step hp
    refine ⟨g', k', fun i => if i = 0 then p1' else p0', x', ?_, h2, h3, by unfold G.nb; rw [h4], ?_⟩
    · rw [upN_eq, upN_ne _ _ _ _ (by decide)]; exact h1.swap
    · unfold phi
      rw [upN_eq, upN_ne _ _ _ _ (by decide), hR]
      show pot p1' (R 0) + pot p0' _ < _
      omega
theorem op_blk {x : TOp} (ho : OpAt B w h l x) : ∃ cs t fr, w.heap[x.blk]? = some (.cells cs t fr) ∧ t ≠ 35 ∧ t ≠ 40 ∧ t ≠ 42 := by
  cases x with
  | h o op => exact ⟨_, _, _, ho.blk, by decide, by decide, by decide⟩
  | s o op =>
    obtain ⟨cs, hb, _⟩ := ho.blk
    exact ⟨_, _, _, hb, by decide, by decide, by decide⟩
theorem LP.keep (lp : LP keys B w ga h l po pa V L nb g k R p at_) {x : TOp} (ho : OpAt B w h l x) (hf : FrO TT x.blk B w w') : RowsAt B w' po V L ∧ CellsAt w' pa 42 2 (fun j => .int .i64 (at_ j)) := by
  obtain ⟨cs, t, fr, hb, h1, h2, h3⟩ := op_blk ho
  refine ⟨lp.rows.fro hf (by simp [TT]) (by simp [TT]) hb h1 h2, ?_⟩
  exact lp.ats.fr (hf.toT hb) (by simp only [List.mem_cons, not_or]; exact ⟨fun e => h3 e.symm, by simp [TT]⟩)
theorem LP.step_no (lp : LP keys B w ga h l po pa V L nb g k R p at_) (j : Nat) (hj : j < 2) {x : TOp} {rest : List TOp} (hR : R j = x :: rest) (ho : OpAt B w h l x) (hp : Post keys B w ga h l g k x (p j) false w') :
    ∃ g' k' R' p', LP keys B w' ga h l po pa V L nb g' k' R' p' at_ ∧ phi R' p' < phi R p := by
  obtain ⟨g', k', p', x', h1, h2, h3, h4, h5⟩ := lp.ti.step2 j hj hR hp
  obtain ⟨k1, k2⟩ := lp.keep ho h3
  refine ⟨g', k', upN R j (x' :: rest), p', ⟨h1, k1, k2, lp.age, fun i hi => ?_, lp.atl, h4.trans lp.nb⟩, h5⟩
  by_cases e : i = j
  · subst e
    rw [upN_eq, lp.rest i hi, hR]
    have : x'.pr = x.pr := by
      cases x' <;> cases x <;> first | exact h2.elim | (have := h2.1; subst this; rfl)
    simp [prs, this]
  · rw [upN_ne _ _ _ _ e]; exact lp.rest i hi
theorem LP.step_yes (lp : LP keys B w ga h l po pa V L nb g k R p at_) (hB : 0 < B) (j : Nat) (hj : j < 2) {x : TOp} {rest : List TOp} (hR : R j = x :: rest) (ho : OpAt B w h l x) (hlt : at_ j < (L j).length) (hd : (L j).drop (at_ j + 1) = prs rest) (hp : Post keys B w ga h l g k x (p j) true w') :
    ∃ g' k' R' p', LP keys B (w'.setCell ⟨pa, j, none⟩ (.int .i64 ((at_ j + 1 : Nat) : Int))) ga h l po pa V L nb g' k' R' p' (upN at_ j (at_ j + 1)) ∧ phi R' p' < phi R p ∧ w'.cell? ⟨pa, j, none⟩ = some (.int .i64 (at_ j)) ∧ w'.frozen? ⟨pa, j, none⟩ = false ∧ Below B w w' := by
  obtain ⟨g', k', p', x', h1, h2, h3, h4, h5⟩ := lp.ti.step2 j hj hR hp
  obtain ⟨k1, k2⟩ := lp.keep ho h3
  have hf : FrT [42] B w' (w'.setCell ⟨pa, j, none⟩ (.int .i64 ((at_ j + 1 : Nat) : Int))) := by
    obtain ⟨cs, hb, _⟩ := k2
    exact (FrT.refl [42] B w').setCell hb (by simp) lp.age j _
  refine ⟨g', k', upN R j rest, p', ⟨⟨h1.wr.frT hB hf (by simp), h1.gi, fun y hy => (h1.at0 y hy).frT hf (by simp) (by simp), fun y hy => (h1.at1 y hy).frT hf (by simp) (by simp), h1.i0, h1.i1, h1.nd, h1.bud, h1.cH, h1.cS⟩, k1.fr hf (by simp) (by simp), k2.set j _ (fun i hi => ?_), lp.age, fun i hi => ?_, fun i hi => ?_, h4.trans lp.nb⟩, h5, k2.cell j hj, k2.frozen j, h3.below⟩
  · by_cases e : i = j
    · subst e; rw [if_pos rfl, upN_eq]
    · rw [if_neg e, upN_ne _ _ _ _ e]
  · by_cases e : i = j
    · subst e; rw [upN_eq, upN_eq]; exact hd
    · rw [upN_ne _ _ _ _ e, upN_ne _ _ _ _ e]; exact lp.rest i hi
  · by_cases e : i = j
    · subst e; rw [upN_eq]; omega
    · rw [upN_ne _ _ _ _ e]; exact lp.atl i hi
theorem Post_below {x : TOp} {q : Nat} {r : Bool} (hp : Post keys B w ga h l g k x q r w') : Below B w w' := by
  obtain ⟨g', k', δ, p', x', h1, h2, h3, h4, h5, h6⟩ := hp
  exact h5.below
theorem LP.start {T : Nat → List TOp} (hkl : keys.length ≤ 40) (hB : 0 < B) (mi : MI B w ga h l g po V T) (bp : BP keys T keys.length) (gi : GI keys g (g.nb + 8)) (hnb : g.nb = nb) : LP keys B (w.alloc (.cells #[.int .i64 0, .int .i64 0] 42)) ga h l po w.heap.size V (fun j => prs (T j)) nb g (g.nb + 8) T (fun _ => 620) (fun _ => 0) := by
  have hz : B ≤ w.heap.size := Nat.le_trans mi.wr.ar.ge (Nat.le_of_lt mi.wr.ar.lt)
  have mi' := mi.below hB (below_alloc (Below.refl w.heap.size w) (.cells #[.int .i64 0, .int .i64 0] 42))
  refine ⟨bp.start hkl mi' gi, mi'.rows, CellsAt.new w _ 42 2 _ rfl (fun i hi => ?_), hz, fun j hj => rfl, fun j hj => Nat.zero_le _, hnb⟩
  rcases i with _ | _ | i
  all_goals first | rfl | exact absurd hi (by omega)
theorem all_in {t0 t1 : List TOp} {p0 p1 : Nat} (ti : TI keys B w ga h l g k t0 t1 p0 p1) (hb : t0 = [] ∧ t1 = []) (key : ByteArray) (h1 : key ∈ keys) (h2 : isKeyB key = true) : inH g key ∧ inS g key := by
  obtain ⟨rfl, rfl⟩ := hb
  constructor
  · rcases ti.cH key h1 h2 with h | ⟨x, hx, _⟩
    · exact h
    · simp at hx
  · rcases ti.cS key h1 h2 with h | ⟨x, hx, _⟩
    · exact h
    · simp at hx
theorem WR.arT (wr : WR B w ga h l g) (hB : 0 < B) (har : ArAt B w' ga g.a) (hf : FrT TA B w w') : WR B w' ga h l g :=
  ⟨har, wr.ht.kept hf (by simp [TA]) (by simp [TA]) (by simp [TA]), wr.li.kept hf (by simp [TA]) (by simp [TA]) (by simp [TA]), fun j hj => (hf.below.cell (p := ⟨0, j, none⟩) hB).trans (wr.tab j hj)⟩
theorem keys_of (hkl : keys.length ≤ 40) (wr : WR B w ga h l g) (gi : GI keys g k) (hin : ∀ key, key ∈ keys → isKeyB key = true → inH g key ∧ inS g key) (hk : k < 1000 + g.nb) :
    Calls Tryd.prog 10 #[.pointer (some ⟨h, 0, none⟩)] w fun e w' => ∃ v : Value, e = .returned v ∧ Kd.string.R 9 w' w.heap.size (fun _ => True) v (nkeys g.ns (g.lst 0)) ∧ ArAt B w' ga g.a ∧ FrT TA B w w' := by
  have hE : g.ents.length < 1000 := by
    have h1 := gi.kE
    have h2 : g.E = g.ents.length := rfl
    omega
  have hq := keys_any B k w ga h g.a g.heads g.ents wr.ht wr.ar gi.wf (by have := gi.nb2; omega) hE gi.nb1 gi.nb2 g.ch (fun b hb => by have := ch_len gi hkl hb; omega) (fun b hb => by
    obtain ⟨n, h1, h2⟩ := gi.hc b hb
    exact ⟨gi.ci.tk _ (gi.l_hd hb), n, h1, Chv_of gi hb _ n (fun _ h => h) h2⟩)
  have e := fin_eq gi (fun key h1 h2 => (hin key h1 h2).1) (fun key h1 h2 => (hin key h1 h2).2)
  refine hq.mono ?_
  rintro e w' ⟨v, rfl, h1, h2, h3⟩
  have h1' : Kd.string.R 9 w' w.heap.size (fun _ => True) v (sortB (keysUp g.ents g.ch g.nb)) := h1
  rw [e] at h1'
  exact ⟨v, rfl, h1', h2, h3⟩
theorem skeys_of (hkl : keys.length ≤ 40) (wr : WR B w ga h l g) (gi : GI keys g k) (hk : k < 1000 + g.nb) :
    Calls Tryd.prog 11 #[.pointer (some ⟨l, 0, none⟩)] w fun e w' => ∃ v : Value, e = .returned v ∧ Kd.string.R 9 w' w.heap.size (fun _ => True) v (nkeys g.ns (g.lst 0)) ∧ ArAt B w' ga g.a ∧ FrT TA B w w' :=
  skeys_any B k w ga l g.a g.bs g.ns wr.li wr.ar gi.wf (by have := gi.nb2; omega) (by
    have h1 := gi.kN
    have h2 : g.N = g.bs.length := rfl
    omega) gi.s0.1 (g.lst 0) (by have := lst_len gi hkl; omega) (Lk_of gi _ 0 (Or.inl rfl) (fun _ h => h) (gi.sl 0 (by omega)))
/-- The time that is left. -/
def Tm (i : Nat) (R : Nat → List TOp) (f : Nat) : Prop := f ≤ 80000 ∧ (10000 ≤ i → 2 * f + i + (if R (i % 2) = [] then 1 else 0) ≤ 170001) ∧ (1 ≤ i → R 0 ≠ [] ∨ R 1 ≠ [])
theorem Tm.start {T : Nat → List TOp} (hkl : keys.length ≤ 40) (bp : BP keys T keys.length) : Tm 0 T (phi T (fun _ => 620)) := ⟨bp.pot hkl, fun h => by omega, fun h => by omega⟩
theorem Tm.lt {i f : Nat} {R : Nat → List TOp} (h : Tm i R f) : i < 2000000 := by
  by_cases h1 : 10000 ≤ i
  · have := h.2.1 h1
    omega
  · omega
/-- A round: the worker's turn is j; either it stepped, or it is done. -/
theorem Tm.next {i j f f' : Nat} {R R' : Nat → List TOp} (h : Tm i R f) (hj : 10000 ≤ i → j = i % 2) (hs : f' + 1 ≤ f ∨ (f' ≤ f ∧ R j = [] ∧ R' = R)) (hne : R' 0 ≠ [] ∨ R' 1 ≠ []) : Tm (i + 1) R' f' := by
  refine ⟨by have := h.1; rcases hs with h | h <;> omega, fun hi => ?_, fun _ => hne⟩
  by_cases h1 : 10000 ≤ i
  · have h2 := h.2.1 h1
    have hj := hj h1
    rcases hs with h3 | ⟨h3, h4, h5⟩
    · have : (if R' ((i + 1) % 2) = [] then 1 else 0) ≤ 1 := by split <;> omega
      omega
    · subst h5
      rw [hj] at h4
      rw [if_pos h4] at h2
      have h6 : ¬ R' ((i + 1) % 2) = [] := by
        have h7 : i % 2 = 0 ∨ i % 2 = 1 := by omega
        rcases h7 with h7 | h7
        · have h8 : (i + 1) % 2 = 1 := by omega
          rw [h7] at h4
          rw [h8]
          rcases hne with h | h
          · exact absurd h4 h
          · exact h
        · have h8 : (i + 1) % 2 = 0 := by omega
          rw [h7] at h4
          rw [h8]
          rcases hne with h | h
          · exact h
          · exact absurd h4 h
      rw [if_neg h6]
      omega
  · have h2 := h.1
    have : (if R' ((i + 1) % 2) = [] then 1 else 0) ≤ 1 := by split <;> omega
    rcases hs with h3 | h3 <;> omega
end
end Go.Proofs.YtmemkmnnededgaaDoor.H

