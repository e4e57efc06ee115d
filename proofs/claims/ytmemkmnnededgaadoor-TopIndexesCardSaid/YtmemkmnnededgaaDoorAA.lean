/- A0, A1 of the claim's own texts, in one. -/
import Derived.Test.YtmemkmnnededgaaDoorH0
namespace Go.Proofs.YtmemkmnnededgaaDoor.H
open Go.RowKit Go.Proofs.YtmemkmnnededgaaDoorW.PrintWords Go.Proofs.YtmemkmnnededgaaDoorW.PrintLast Go.Proofs.YtmemkmnnededgaaDoorW.PrintMore
set_option linter.unusedVariables false
set_option linter.unusedSimpArgs false

/-- Block g, of type t, has n cells: f tells them. -/
def CellsAt (w : World) (g : Nat) (t : TypeId) (n : Nat) (f : Nat → Value) : Prop := ∃ cs : Array Value, w.heap[g]? = some (.cells cs t (0, 0)) ∧ cs.size = n ∧ ∀ i, i < n → cs[i]? = some (f i)
namespace CellsAt
variable {w w' : World} {g n : Nat} {t : TypeId} {f f' : Nat → Value}
theorem cell (h : CellsAt w g t n f) (i : Nat) (hi : i < n) : w.cell? ⟨g, i, none⟩ = some (f i) := by
  obtain ⟨cs, hb, _, hc⟩ := h
  exact (blk_cell hb i).trans (hc i hi)
theorem frozen (h : CellsAt w g t n f) (i : Nat) : w.frozen? ⟨g, i, none⟩ = false := by
  obtain ⟨cs, hb, _, hc⟩ := h
  exact blk_frozen hb i
theorem lt (h : CellsAt w g t n f) : g < w.heap.size := by
  obtain ⟨cs, hb, _, hc⟩ := h
  exact blk_lt hb
theorem mk_ {cs : Array Value} (hb : w.heap[g]? = some (.cells cs t (0, 0))) (hn : cs.size = n) (hc : ∀ i, i < n → cs[i]? = some (f i)) : CellsAt w g t n f := ⟨cs, hb, hn, hc⟩
theorem set (h : CellsAt w g t n f) (i : Nat) (u : Value) (hf : ∀ j, j < n → f' j = if j = i then u else f j) : CellsAt (w.setCell ⟨g, i, none⟩ u) g t n f' := by
  obtain ⟨cs, hb, hn, hc⟩ := h
  refine ⟨cs.setIfInBounds i u, blk_put hb i u rfl, by simpa using hn, fun j hj => ?_⟩
  rw [hf j hj, Array.getElem?_setIfInBounds]
  by_cases e : i = j
  · subst e
    rw [if_pos rfl, if_pos (by omega), if_pos rfl]
  · rw [if_neg e, if_neg (fun h => e h.symm), hc j hj]
theorem turn (h : CellsAt w g t n f) (hf : ∀ j, j < n → f' j = f j) : CellsAt w g t n f' := by
  obtain ⟨cs, hb, hn, hc⟩ := h
  exact ⟨cs, hb, hn, fun j hj => by rw [hf j hj]; exact hc j hj⟩
theorem far (h : CellsAt w g t n f) {p : Addr} (hp : g ≠ p.block) (u : Value) : CellsAt (w.setCell p u) g t n f := by
  obtain ⟨cs, hb, hn, hc⟩ := h
  exact ⟨cs, blk_far hb hp u, hn, hc⟩
theorem below (h : CellsAt w g t n f) (hb : Below w.heap.size w w') : CellsAt w' g t n f := by
  obtain ⟨cs, hb', hn, hc⟩ := h
  exact ⟨cs, blk_below hb' hb, hn, hc⟩
theorem alloc (h : CellsAt w g t n f) (o : Obj) : CellsAt (w.alloc o) g t n f := h.below (below_alloc (Below.refl _ _) o)
theorem fr {T : List TypeId} {B : Nat} (h : CellsAt w g t n f) (hf : FrT T B w w') (ht : t ∉ T) : CellsAt w' g t n f := by
  obtain ⟨cs, hb', hn, hc⟩ := h
  exact ⟨cs, hf.blk hb' ht, hn, hc⟩
theorem kept (h : CellsAt w g t n f) (hk : w'.heap[g]? = w.heap[g]?) : CellsAt w' g t n f := by
  obtain ⟨cs, hb', hn, hc⟩ := h
  exact ⟨cs, hk.trans hb', hn, hc⟩
theorem grown (h : CellsAt w g t n f) {row : Option Nat} (hg : w.grownBy w' row) (hne : some g ≠ row) : CellsAt w' g t n f := by
  obtain ⟨cs, hb', hn, hc⟩ := h
  exact ⟨cs, blk_grown hb' hg hne, hn, hc⟩
theorem drewN (h : CellsAt w g t n f) (k : Nat) : CellsAt (w.drewN k) g t n f := by
  obtain ⟨cs, hb', hn, hc⟩ := h
  exact ⟨cs, blk_drewN hb' k, hn, hc⟩
theorem drew (h : CellsAt w g t n f) : CellsAt w.drew g t n f := by
  obtain ⟨cs, hb', hn, hc⟩ := h
  exact ⟨cs, blk_drew hb', hn, hc⟩
theorem ne (h : CellsAt w g t n f) {g' n' : Nat} {t' : TypeId} {f' : Nat → Value} (h' : CellsAt w g' t' n' f') (ht : t ≠ t') : g ≠ g' := by
  obtain ⟨cs, hb', _⟩ := h
  obtain ⟨cs2, hb2, _⟩ := h'
  exact blk_ne hb' hb2 ht
theorem setFr (h : CellsAt w g t n f) {T : List TypeId} {B : Nat} {wa : World} (hf : FrT T B wa w) (ht : t ∈ T) (hB : B ≤ g) (j : Nat) (u : Value) : FrT T B wa (w.setCell ⟨g, j, none⟩ u) := by
  obtain ⟨cs, hb, _⟩ := h
  exact hf.setCell hb ht hB j u
/-- A row of another type lives on behind a store into the block. -/
theorem R_set {α : Type} {d : Kd α} {e base : Nat} {ok : Nat → Prop} {v : Value} {xs : List α} (h : CellsAt w g t n f) (hr : d.R e w base ok v xs) (ht : ∀ q, q ∈ e :: d.E → q ≠ t) (j : Nat) (u : Value) : d.R e (w.setCell ⟨g, j, none⟩ u) base ok v xs := by
  obtain ⟨cs, hb, _⟩ := h
  exact Kd.R_set hr hb ht j u
theorem new (w : World) (cs : Array Value) (t : TypeId) (n : Nat) (f : Nat → Value) (hn : cs.size = n) (hc : ∀ i, i < n → cs[i]? = some (f i)) : CellsAt (w.alloc (.cells cs t)) w.heap.size t n f := ⟨cs, blk_new w (.cells cs t), hn, hc⟩
end CellsAt
end Go.Proofs.YtmemkmnnededgaaDoor.H

namespace Go.Proofs.YtmemkmnnededgaaDoor.H
open Go.RowKit Go.Proofs.YtmemkmnnededgaaDoorW.PrintWords Go.Proofs.YtmemkmnnededgaaDoorW.PrintLast Go.Proofs.YtmemkmnnededgaaDoorW.PrintMore
attribute [local go_sem] max2_int min2_int max_two min_two max_three min_three max_four min_four
set_option linter.unusedVariables false
set_option linter.unusedSimpArgs false

abbrev U64 := Kd.int .u64
structure Ar where
  has : List Int
  wd : Nat → Nat
  low : Nat
  used : Int
/-- Is cell c taken? -/
def Ar.tk (a : Ar) (c : Nat) : Bool := (a.wd (c / 64)).testBit (c % 64)
/-- The number in cell c. -/
def Ar.val (a : Ar) (c : Nat) : Int := a.has.getD c 0
structure Ar.Wf (a : Ar) (k : Nat) : Prop where
  wd_lt : ∀ i, a.wd i < 18446744073709551616
  in_has : ∀ c, a.tk c = true → c < a.has.length
  low_full : ∀ i, i < a.low → a.wd i = 18446744073709551615
  has_len : a.has.length ≤ k
  used_le : a.used ≤ k
  used_ge : -(k : Int) ≤ a.used
def arCell (hv : Value) (a : Ar) (st : Int) (i : Nat) : Value := if i = 0 then .int .i64 2000 else if i = 1 then hv else if i < 1026 then .int .u64 (a.wd (i - 2)) else if i = 1026 then .int .i64 a.low else if i = 1027 then .int .i64 a.used else .int .i64 st
/-- The arena at block g. -/
structure ArAt (B : Nat) (w : World) (g : Nat) (a : Ar) : Prop where
  ge : B ≤ g
  blk : ∃ hv st, CellsAt w g 51 1029 (arCell hv a st) ∧ U64.R 48 w B (fun _ => True) hv a.has
def TA : List TypeId := [51, 48]
theorem low_lt {a : Ar} {k : Nat} (h : a.Wf k) (hk : k < 2000) : a.low ≤ 32 := by
  by_cases h0 : a.low = 0
  · omega
  · have hf := h.low_full (a.low - 1) (by omega)
    have ht : a.tk (64 * (a.low - 1)) = true := by
      unfold Ar.tk
      rw [show 64 * (a.low - 1) / 64 = a.low - 1 by omega, show 64 * (a.low - 1) % 64 = 0 by omega, hf]
      rfl
    have := h.in_has _ ht
    have := h.has_len
    omega
theorem bit_shr (x : Nat) (c : Nat) : (x / 2 ^ c) % 2 = if x.testBit c then 1 else 0 := by
  rw [Nat.testBit_eq_decide_div_mod_eq]
  have := Nat.mod_two_eq_zero_or_one (x / 2 ^ c)
  by_cases h : x / 2 ^ c % 2 = 1
  · simp [h]
  · simp [h]; omega

theorem tk_bits (a : Ar) (c : Nat) {k : Nat} (hw : a.Wf k) (ht : a.tk c = true) : (bits BinOp.and IntKind.u64 ((a.wd (c / 64) : Int) / 2 ^ (c % 64)) 1 == 0) = false := by
  have hx := hw.wd_lt (c / 64)
  unfold Ar.tk at ht
  have h1 := bit_shr (a.wd (c / 64)) (c % 64)
  rw [ht, if_pos rfl] at h1
  have e : ((a.wd (c / 64) : Int) / 2 ^ (c % 64)) = ((a.wd (c / 64) / 2 ^ (c % 64) : Nat) : Int) := by push_cast; rfl
  have hle : a.wd (c / 64) / 2 ^ (c % 64) ≤ a.wd (c / 64) := Nat.div_le_self _ _
  rw [e, show (1 : Int) = ((1 : Nat) : Int) from rfl, bits_and_u64_nat _ _ (by omega) (by omega), Nat.and_one_is_mod, h1]
  rfl

set_option maxRecDepth 100000 in
set_option maxHeartbeats 1600000 in
theorem there_any (B g k : Nat) (a : Ar) (c : Nat) (w : World) (h : ArAt B w g a) (hw : a.Wf k) (hk : k < 2000) (ht : a.tk c = true) :
    Calls Tryd.prog 23 #[.pointer (some ⟨g, 0, none⟩), .int .i64 c] w fun e w' => e = .returned (.int .i64 0) ∧ w' = w := by
  obtain ⟨hge, hv, st, hC, hR⟩ := h
  obtain ⟨A, cap, rfl, hcap, _⟩ := Kd.R_reads hR
  have hlt := hw.in_has c ht
  have hhl := hw.has_len
  have x1 : w.cell? ⟨g, 1, none⟩ = some (.slice A a.has.length cap) := (hC.cell 1 (by decide)).trans rfl
  have xw : w.cell? ⟨g, 2 + c / 64, none⟩ = some (.int .u64 (a.wd (c / 64))) := (hC.cell (2 + c / 64) (by omega)).trans (by
    unfold arCell
    rw [if_neg (by omega), if_neg (by omega), if_pos (by omega), show 2 + c / 64 - 2 = c / 64 by omega])
  have hb := tk_bits a c hw ht
  clear hC hR
  go_enter Tryd.func23, Tryd.ntmps23
  go_wp2_with fail
  go_ret
  exact ⟨rfl, rfl⟩

theorem ArAt.setSteps {B g : Nat} {a : Ar} {w : World} (h : ArAt B w g a) (x : Int) : ArAt B (w.setCell ⟨g, 1028, none⟩ (.int .i64 x)) g a := by
  obtain ⟨hge, hv, st, hC, hR⟩ := h
  refine ⟨hge, hv, x, hC.set 1028 _ (fun j hj => ?_), hC.R_set hR (by simp [Kd.int, Kd.scalar]) 1028 _⟩
  unfold arCell
  by_cases e : j = 1028
  · subst e; rfl
  · rw [if_neg e]
    by_cases e0 : j = 0
    · simp [e0]
    · by_cases e1 : j = 1
      · simp [e1]
      · by_cases e2 : j < 1026
        · simp [e0, e1, e2]
        · by_cases e3 : j = 1026
          · simp [e3]
          · have : j = 1027 := by omega
            simp [this]
theorem ArAt.fr {B g : Nat} {a : Ar} {w : World} (h : ArAt B w g a) {wa : World} {T : List TypeId} (hT : ∀ t, t ∈ TA → t ∈ T) (hf : FrT T B wa w) (j : Nat) (u : Value) : FrT T B wa (w.setCell ⟨g, j, none⟩ u) := by
  obtain ⟨hge, hv, st, hC, hR⟩ := h
  exact hC.setFr hf (hT _ (by simp [TA])) hge j u
/-- The row of the cells' numbers. -/
theorem ArAt.row {B g : Nat} {a : Ar} {w : World} (h : ArAt B w g a) (hn : 0 < a.has.length) : ∃ Z cap, w.cell? ⟨g, 1, none⟩ = some (.slice (some ⟨Z, 0, none⟩) a.has.length cap) ∧ U64.R 48 w B (fun _ => True) (.slice (some ⟨Z, 0, none⟩) a.has.length cap) a.has := by
  obtain ⟨hge, hv, st, hC, hR⟩ := h
  obtain ⟨inner, ho⟩ := Kd.R_own hR
  rcases ho.2 with ⟨rfl, h2⟩ | ⟨Z, cap, cur, rfl, h3⟩
  · omega
  · exact ⟨Z, cap, (hC.cell 1 (by decide)).trans rfl, hR⟩

/-- What a pointer at cell c is good for. -/
theorem ArAt.at_ {B g c : Nat} {a : Ar} {w : World} (h : ArAt B w g a) (hc : c < a.has.length) : ∃ Z cap, w.cell? ⟨g, 1, none⟩ = some (.slice (some ⟨Z, 0, none⟩) a.has.length cap) ∧ a.has.length ≤ cap ∧
    w.cell? ⟨Z, c, none⟩ = some (.int .u64 (a.val c)) ∧ w.frozen? ⟨Z, c, none⟩ = false ∧
    (∀ v, ArAt B (w.setCell ⟨Z, c, none⟩ (.int .u64 v)) g { a with has := a.has.set c v }) ∧ (∀ T wa v, (∀ t, t ∈ TA → t ∈ T) → FrT T B wa w → FrT T B wa (w.setCell ⟨Z, c, none⟩ (.int .u64 v))) := by
  obtain ⟨Z, cap, hx, hr⟩ := h.row (by omega)
  have hown := Kd.own_of_R hr
  obtain ⟨h1, h2⟩ := own_at hown (c : Int) (by omega) (by omega)
  rw [Int.toNat_natCast] at h1 h2
  have hb : ∃ cs, w.heap[Z]? = some (.cells cs 48 (0, 0)) := own_typed hown Z rfl
  obtain ⟨cs, hb⟩ := hb
  have hZ : B ≤ Z := own_base hown Z rfl
  refine ⟨Z, cap, hx, (Kd.R_reads' hr).2.1, ?_, h2, fun v => ?_, fun T wa v hT hf => hf.setCell hb (hT _ (by simp [TA])) hZ c _⟩
  · rw [h1]
    simp [rd, Ar.val]
  · obtain ⟨hge, hv, st, hC, hR⟩ := h
    have e : hv = .slice (some ⟨Z, 0, none⟩) a.has.length cap := by
      have := (hC.cell 1 (by decide)).symm.trans hx
      injection this
    subst e
    have hp := (Kd.R_put hR (c : Int) v).1
    rw [Int.toNat_natCast] at hp
    have hne : g ≠ Z := by
      obtain ⟨cs2, hb2, _⟩ := hC
      exact blk_ne hb2 hb (by decide)
    exact ⟨hge, .slice (some ⟨Z, 0, none⟩) a.has.length cap, st, hC.far (p := ⟨Z, c, none⟩) hne _, hp⟩

set_option maxRecDepth 100000 in
set_option maxHeartbeats 1600000 in
theorem step_any (B g k : Nat) (a : Ar) (c : Nat) (w : World) (h : ArAt B w g a) (hw : a.Wf k) (hk : k < 2000) (ht : a.tk c = true) :
    Calls Tryd.prog 36 #[.pointer (some ⟨g, 0, none⟩), .int .i64 c] w fun e w' => ∃ Z, e = .returned (.tuple #[.pointer (some ⟨Z, c, none⟩), .int .i64 0]) ∧ w'.cell? ⟨Z, c, none⟩ = some (.int .u64 (a.val c)) ∧ w'.frozen? ⟨Z, c, none⟩ = false ∧ (∀ v, ArAt B (w'.setCell ⟨Z, c, none⟩ (.int .u64 v)) g { a with has := a.has.set c v }) ∧ (∀ v, FrT TA B w (w'.setCell ⟨Z, c, none⟩ (.int .u64 v))) ∧ ArAt B w' g a ∧ FrT TA B w w' := by
  have H := Aside0.mk h
  have hTH := there_any B g k a c w h hw hk ht
  have hlt := hw.in_has c ht
  have hhl := hw.has_len
  obtain ⟨hge, hv, st, hC, hR⟩ := h
  have HTH := Aside0.mk hTH
  have x5 : w.cell? ⟨g, 1028, none⟩ = some (.int .i64 st) := (hC.cell 1028 (by decide)).trans rfl
  have f5 := hC.frozen 1028
  clear hC hR hTH
  go_enter Tryd.func36, Tryd.ntmps36
  go_wp2_with fail
  refine HTH.out.mono ?_
  rintro e w1 ⟨rfl, rfl⟩
  obtain ⟨Z0, cap0, hx0, hc0, _⟩ := H.out.at_ hlt
  go_wp2_with fail
  have hset := H.out.setSteps (wrap64 (st + 1))
  have hfr := H.out.fr (T := TA) (fun _ h => h) (FrT.refl TA B w1) 1028 (.int .i64 (wrap64 (st + 1)))
  obtain ⟨Z, cap, hx, hc, h1, h2, h3, h4⟩ := hset.at_ hlt
  obtain rfl : Z0 = Z := by
    have hx' := hx0.symm.trans ((World.cell?_setCell_other (w := w1) (v := .int .i64 (wrap64 (st + 1))) (a := ⟨g, 1028, none⟩) (b := ⟨g, 1, none⟩) (by simp)).symm.trans hx)
    injection hx' with hx
    injection hx with hx
    injection hx with hx
    injection hx
  go_ret2
  exact ⟨Z0, rfl, h1, h2, h3, fun v => h4 _ _ _ (fun _ h => h) hfr, hset, hfr⟩
set_option maxRecDepth 100000 in
set_option maxHeartbeats 1600000 in
theorem load_any (B g k : Nat) (a : Ar) (c : Nat) (w : World) (h : ArAt B w g a) (hw : a.Wf k) (hk : k < 2000) (ht : a.tk c = true) :
    Calls Tryd.prog 19 #[.pointer (some ⟨g, 0, none⟩), .int .i64 c] w fun e w' => e = .returned (.tuple #[.int .u64 (a.val c), .int .i64 0]) ∧ ArAt B w' g a ∧ FrT TA B w w' := by
  have HS := Aside0.mk (step_any B g k a c w h hw hk ht)
  clear h hw hk ht
  go_enter Tryd.func19, Tryd.ntmps19
  go_wp2_with fail
  refine HS.out.mono ?_
  rintro e w1 ⟨Z, rfl, h1, h2, h3, h4, h5, h6⟩
  have H5 := Aside0.mk h5
  have H6 := Aside0.mk h6
  clear h3 h4 h5 h6
  go_wp2_with fail
  go_ret2
  exact ⟨rfl, H5.out, H6.out⟩
set_option maxRecDepth 100000 in
set_option maxHeartbeats 1600000 in
theorem store_any (B g k : Nat) (a : Ar) (c : Nat) (v : Int) (w : World) (h : ArAt B w g a) (hw : a.Wf k) (hk : k < 2000) (ht : a.tk c = true) :
    Calls Tryd.prog 27 #[.pointer (some ⟨g, 0, none⟩), .int .i64 c, .int .u64 v] w fun e w' => e = .returned (.int .i64 0) ∧ ArAt B w' g { a with has := a.has.set c v } ∧ FrT TA B w w' := by
  have HS := Aside0.mk (step_any B g k a c w h hw hk ht)
  clear h hw hk ht
  go_enter Tryd.func27, Tryd.ntmps27
  go_wp2_with fail
  refine HS.out.mono ?_
  rintro e w1 ⟨Z, rfl, h1, h2, h3, h4, h5, h6⟩
  have H3 := Aside0.mk (h3 v)
  have H4 := Aside0.mk (h4 v)
  clear h3 h4 h5 h6
  go_wp2_with fail
  go_ret
  exact ⟨rfl, H3.out, H4.out⟩
set_option maxRecDepth 100000 in
set_option maxHeartbeats 1600000 in
theorem cas_any (B g k : Nat) (a : Ar) (c : Nat) (old now : Int) (w : World) (h : ArAt B w g a) (hw : a.Wf k) (hk : k < 2000) (ht : a.tk c = true) :
    Calls Tryd.prog 28 #[.pointer (some ⟨g, 0, none⟩), .int .i64 c, .int .u64 old, .int .u64 now] w fun e w' => e = .returned (.tuple #[.bool (a.val c == old), .int .i64 0]) ∧ ArAt B w' g (if a.val c = old then { a with has := a.has.set c now } else a) ∧ FrT TA B w w' := by
  have HS := Aside0.mk (step_any B g k a c w h hw hk ht)
  clear h hw hk ht
  by_cases he : a.val c = old
  · rw [if_pos he, he]
    go_enter Tryd.func28, Tryd.ntmps28
    go_wp2_with fail
    refine HS.out.mono ?_
    rintro e w1 ⟨Z, rfl, h1, h2, h3, h4, h5, h6⟩
    have H3 := Aside0.mk (h3 now)
    have H4 := Aside0.mk (h4 now)
    rw [he] at h1
    clear h3 h4 h5 h6
    go_wp2_with fail
    go_ret2
    exact ⟨by simp, H3.out, H4.out⟩
  · rw [if_neg he]
    have he' : (a.val c != old) = true := bne_iff_ne.mpr he
    have HE := Aside0.mk (beq_eq_false_iff_ne.mpr he)
    clear he
    go_enter Tryd.func28, Tryd.ntmps28
    go_wp2_with fail
    refine HS.out.mono ?_
    rintro e w1 ⟨Z, rfl, h1, h2, h3, h4, h5, h6⟩
    have H5 := Aside0.mk h5
    have H6 := Aside0.mk h6
    clear h3 h4 h5 h6
    go_wp2_with fail
    go_ret2
    exact ⟨by rw [HE.out]; rfl, H5.out, H6.out⟩
end Go.Proofs.YtmemkmnnededgaaDoor.H

