/- B1, B2 of the claim's own texts, in one. -/
import Derived.Test.YtmemkmnnededgaaDoorA2
namespace Go.Proofs.YtmemkmnnededgaaDoor.H
open Go.RowKit Go.Proofs.YtmemkmnnededgaaDoorW.PrintWords Go.Proofs.YtmemkmnnededgaaDoorW.PrintLast Go.Proofs.YtmemkmnnededgaaDoorW.PrintMore
attribute [local go_sem] max2_int min2_int max_two min_two max_three min_three max_four min_four
set_option linter.unusedVariables false
set_option linter.unusedSimpArgs false

/-- What a call keeps: all below B, and every block whose type is none of T, but block o. -/
structure FrO (T : List TypeId) (o B : Nat) (w w' : World) : Prop where
  below : Below B w w'
  kept : ∀ (k : Nat) (cs : Array Value) (t : TypeId) (fr : Nat × Nat), w.heap[k]? = some (Obj.cells cs t fr) → t ∉ T → k ≠ o → w'.heap[k]? = some (Obj.cells cs t fr)
namespace FrO
variable {T : List TypeId} {o B : Nat} {w w1 w2 : World}
theorem refl (T : List TypeId) (o B : Nat) (w : World) : FrO T o B w w := ⟨Below.refl _ _, fun _ _ _ _ h _ _ => h⟩
theorem trans (h : FrO T o B w w1) (k : FrO T o B w1 w2) : FrO T o B w w2 := ⟨h.below.trans k.below, fun b cs t fr hb ht ho => k.kept b cs t fr (h.kept b cs t fr hb ht ho) ht ho⟩
theorem ofT {T' : List TypeId} (h : FrT T' B w w1) (hT : ∀ t, t ∈ T' → t ∈ T) : FrO T o B w w1 := ⟨h.below, fun b cs t fr hb ht _ => h.kept b cs t fr hb (fun h2 => ht (hT t h2))⟩
theorem thenT {T' : List TypeId} (h : FrO T o B w w1) (k : FrT T' B w1 w2) (hT : ∀ t, t ∈ T' → t ∈ T) : FrO T o B w w2 := h.trans (ofT k hT)
theorem set (h : FrO T o B w w1) (hB : B ≤ o) (j : Nat) (u : Value) : FrO T o B w (w1.setCell ⟨o, j, none⟩ u) :=
  h.trans ⟨(Below.refl B w1).setCell hB u, fun b cs t fr hb _ ho => by rw [Below.heap_setCell _ _ _ _ ho]; exact hb⟩
theorem setT (h : FrO T o B w w1) {g : Nat} {cs : Array Value} {t : TypeId} {fr : Nat × Nat} (hg : w1.heap[g]? = some (.cells cs t fr)) (ht : t ∈ T) (hB : B ≤ g) (j : Nat) (u : Value) : FrO T o B w (w1.setCell ⟨g, j, none⟩ u) :=
  h.thenT ((FrT.refl T B w1).setCell hg ht hB j u) (fun _ h => h)
theorem drewN (h : FrO T o B w w1) (n : Nat) : FrO T o B w (w1.drewN n) := ⟨pw_below_drewN h.below n, h.kept⟩
theorem drew (h : FrO T o B w w1) : FrO T o B w w1.drew := ⟨below_drew h.below, h.kept⟩
theorem fresh (h : FrO T o B w w1) (hB : B ≤ w1.heap.size) (k : Below w1.heap.size w1 w2) : FrO T o B w w2 :=
  h.trans ⟨k.mono hB, fun b cs t fr hb _ _ => (k.block b (blk_lt hb)).trans hb⟩
theorem blk (h : FrO T o B w w1) {g : Nat} {cs : Array Value} {t : TypeId} {fr : Nat × Nat} (hg : w.heap[g]? = some (.cells cs t fr)) (ht : t ∉ T) (ho : g ≠ o) : w1.heap[g]? = some (.cells cs t fr) := h.kept g cs t fr hg ht ho
theorem size (h : FrO T o B w w1) : w.heap.size ≤ w1.heap.size := h.below.size
end FrO

structure Ent where
  key : ByteArray
  ref : Int
  next : Nat
def kEnt : Kd Ent := Kd.iso (Kd.pair Kd.string (Kd.pair (Kd.int .i64) (Kd.int .i64))) (fun x : Ent => (x.key, x.ref, (x.next : Int)))
def ints (l : List Nat) : List Int := l.map (fun n : Nat => (n : Int))
/-- The table at block h: its heads' cells, its entries. -/
structure HtAt (B : Nat) (w : World) (h ga : Nat) (heads : List Nat) (ents : List Ent) : Prop where
  ge : B ≤ h
  blk : ∃ hv ev, w.heap[h]? = some (.cells #[.pointer (some ⟨ga, 0, none⟩), hv, ev] 55 (0, 0)) ∧ (Kd.int .i64).R 3 w B (fun _ => True) hv (ints heads) ∧ kEnt.R 77 w B (fun _ => True) ev ents
structure HOp where
  key : ByteArray
  ref : Int
  next : Nat
  head : Nat
  cur : Nat
  own : Nat
  had : Bool
  code : Int
def HOp.cells (op : HOp) (h : Nat) : Array Value := #[.pointer (some ⟨h, 0, none⟩), .string op.key, .int .i64 op.ref, .bool true, .int .i64 op.next, .int .u64 op.head, .int .u64 op.cur, .int .u64 op.own, .bool op.had, .int .i64 op.code]
/-- An operation at block o. -/
structure HoAt (B : Nat) (w : World) (o h : Nat) (op : HOp) : Prop where
  ge : B ≤ o
  blk : w.heap[o]? = some (.cells (op.cells h) 70 (0, 0))
def isKeyB (s : ByteArray) : Bool := decide (1 ≤ s.size ∧ s.size ≤ 16)
theorem ret_bool {a b : Bool} (h : a = b) : Ending.returned (.bool a) = .returned (.bool b) := by rw [h]
theorem toList_nil (s : ByteArray) : s.toList = [] ↔ s.size = 0 := by
  rw [ByteArray.toList_eq]
  cases s with
  | mk d => simp [ByteArray.size]

set_option maxHeartbeats 400000 in
theorem hisKey_any (s : ByteArray) (w : World) : Calls Tryd.prog 39 #[.string s] w fun e w' => e = .returned (.bool (isKeyB s)) ∧ w' = w := by
  by_cases h0 : s.toList = []
  · have HS := Aside0.mk ((toList_nil s).1 h0)
    go_enter Tryd.func39, Tryd.ntmps39
    go_wp2_with fail
    go_ret
    exact ⟨ret_bool (by simp [isKeyB, HS.out]), rfl⟩
  · have HS := Aside0.mk (show ¬ s.size = 0 from fun h => h0 ((toList_nil s).2 h))
    have h1 : s.toList.isEmpty = false := by simpa using h0
    clear h0
    go_enter Tryd.func39, Tryd.ntmps39
    go_wp2_with fail
    go_ret
    exact ⟨ret_bool (by have := HS.out; unfold isKeyB; rw [Bool.eq_iff_iff]; simp; omega), rfl⟩
set_option maxHeartbeats 400000 in
theorem sisKey_any (s : ByteArray) (w : World) : Calls Tryd.prog 33 #[.string s] w fun e w' => e = .returned (.bool (isKeyB s)) ∧ w' = w := by
  by_cases h0 : s.toList = []
  · have HS := Aside0.mk ((toList_nil s).1 h0)
    go_enter Tryd.func33, Tryd.ntmps33
    go_wp2_with fail
    go_ret
    exact ⟨ret_bool (by simp [isKeyB, HS.out]), rfl⟩
  · have HS := Aside0.mk (show ¬ s.size = 0 from fun h => h0 ((toList_nil s).2 h))
    have h1 : s.toList.isEmpty = false := by simpa using h0
    clear h0
    go_enter Tryd.func33, Tryd.ntmps33
    go_wp2_with fail
    go_ret
    exact ⟨ret_bool (by have := HS.out; unfold isKeyB; rw [Bool.eq_iff_iff]; simp; omega), rfl⟩
set_option maxHeartbeats 400000 in
theorem rIsKey_any (s : ByteArray) (w : World) : Calls Tryd.prog 12 #[.string s] w fun e w' => e = .returned (.bool (isKeyB s)) ∧ w' = w := by
  go_enter Tryd.func12, Tryd.ntmps12
  go_wp2_with fail
  all_goals
    go_ret
    exact ⟨ret_bool (by unfold isKeyB; rw [Bool.eq_iff_iff]; simp; omega), rfl⟩

theorem HoAt.set {B : Nat} {w : World} {o h : Nat} {op op' : HOp} (hh : HoAt B w o h op) (j : Nat) (u : Value) (e : (op.cells h).setIfInBounds j u = op'.cells h) : HoAt B (w.setCell ⟨o, j, none⟩ u) o h op' := ⟨hh.ge, blk_put hh.blk j u e⟩
def HOp.end_ (op : HOp) (ref : Int) (had : Bool) (code : Int) : HOp := { op with ref := ref, had := had, code := code, next := 4 }
set_option maxRecDepth 100000 in
set_option maxHeartbeats 1600000 in
theorem hends_any (B o h : Nat) (op : HOp) (ref : Int) (had : Bool) (code : Int) (w : World) (hh : HoAt B w o h op) :
    Calls Tryd.prog 29 #[.pointer (some ⟨o, 0, none⟩), .int .i64 ref, .bool had, .int .i64 code] w fun e w' => e = .returned (.bool true) ∧ HoAt B w' o h (op.end_ ref had code) ∧ FrO [] o B w w' := by
  have HH := Aside0.mk hh
  have c2 : w.cell? ⟨o, 2, none⟩ = some (.int .i64 op.ref) := (blk_cell hh.blk 2).trans rfl
  have c8 : w.cell? ⟨o, 8, none⟩ = some (.bool op.had) := (blk_cell hh.blk 8).trans rfl
  have c9 : w.cell? ⟨o, 9, none⟩ = some (.int .i64 op.code) := (blk_cell hh.blk 9).trans rfl
  have c4 : w.cell? ⟨o, 4, none⟩ = some (.int .i64 op.next) := (blk_cell hh.blk 4).trans rfl
  have f2 := blk_frozen hh.blk 2
  have f8 := blk_frozen hh.blk 8
  have f9 := blk_frozen hh.blk 9
  have f4 := blk_frozen hh.blk 4
  clear hh
  go_enter Tryd.func29, Tryd.ntmps29
  go_wp2_with fail
  go_ret
  have h1 := HH.out.set (op' := { op with ref := ref }) 2 (.int .i64 ref) rfl
  have h2 := h1.set (op' := { op with ref := ref, had := had }) 8 (.bool had) rfl
  have h3 := h2.set (op' := { op with ref := ref, had := had, code := code }) 9 (.int .i64 code) rfl
  have h4 := h3.set (op' := op.end_ ref had code) 4 (.int .i64 4) rfl
  exact ⟨rfl, h4, ((((FrO.refl [] o B w).set HH.out.ge 2 _).set HH.out.ge 8 _).set HH.out.ge 9 _).set HH.out.ge 4 _⟩
end Go.Proofs.YtmemkmnnededgaaDoor.H

namespace Go.Proofs.YtmemkmnnededgaaDoor.H
open Go.RowKit Go.Proofs.YtmemkmnnededgaaDoorW.PrintWords Go.Proofs.YtmemkmnnededgaaDoorW.PrintLast Go.Proofs.YtmemkmnnededgaaDoorW.PrintMore
attribute [local go_sem] max2_int min2_int max_two min_two max_three min_three max_four min_four
set_option linter.unusedVariables false
set_option linter.unusedSimpArgs false

theorem kEnt_cells {w : World} {ad : Addr} {n : Nat} {l : List Ent} (h : kEnt.C w (some ad) n l) (j : Nat) (hj : j < l.length) :
    w.cell? (ad.add (j * 3)) = some (.string l[j].key) ∧ w.cell? ⟨(ad.add (j * 3)).block, (ad.add (j * 3)).off + 1, none⟩ = some (.int .i64 l[j].ref) ∧ w.cell? ⟨(ad.add (j * 3)).block, (ad.add (j * 3)).off + 2, none⟩ = some (.int .i64 l[j].next) := by
  obtain ⟨ad', e, hh⟩ := h.2.2 (by have := h.1; omega)
  cases e
  obtain ⟨c, _, hK, hc⟩ := hh j _ (List.getElem?_eq_getElem hj)
  obtain ⟨_, _, rfl, rfl, ⟨_, _, rfl, rfl, rfl⟩⟩ := hK
  exact ⟨hc 0 _ rfl, by rw [← add_field _ _ 1 (by omega)]; exact hc 1 _ rfl, by rw [← add_field _ _ 2 (by omega)]; exact hc 2 _ rfl⟩
theorem add0 (Z k : Nat) : (⟨Z, 0, none⟩ : Addr).add k = ⟨Z, k, none⟩ := by
  unfold Addr.add
  split <;> simp_all
/-- Entry number n (from 1 on). -/
def entAt (ents : List Ent) (n : Nat) : Ent := ents.getD (n - 1) ⟨⟨#[]⟩, 0, 0⟩
theorem HtAt.ent {B : Nat} {w : World} {h ga : Nat} {heads : List Nat} {ents : List Ent} (hh : HtAt B w h ga heads ents) (n : Nat) (h1 : 1 ≤ n) (h2 : n ≤ ents.length) :
    ∃ Z cap, w.cell? ⟨h, 2, none⟩ = some (.slice (some ⟨Z, 0, none⟩) ents.length cap) ∧ ents.length ≤ cap ∧ w.cell? ⟨Z, (n - 1) * 3, none⟩ = some (.string (entAt ents n).key) ∧ w.cell? ⟨Z, (n - 1) * 3 + 1, none⟩ = some (.int .i64 (entAt ents n).ref) ∧ w.cell? ⟨Z, (n - 1) * 3 + 2, none⟩ = some (.int .i64 (entAt ents n).next) := by
  obtain ⟨hge, hv, ev, hb, hR, hE⟩ := hh
  obtain ⟨A, cap, rfl⟩ := Kd.R_slice hE
  obtain ⟨Z, rfl⟩ := R_some hE (by omega)
  obtain ⟨_, hcap, hC⟩ := Kd.R_reads' hE
  obtain ⟨p0, p1, p2⟩ := kEnt_cells hC (n - 1) (by omega)
  have e : entAt ents n = ents[n - 1]'(by omega) := by unfold entAt; rw [List.getD_eq_getElem?_getD, List.getElem?_eq_getElem (by omega)]; rfl
  rw [e]
  refine ⟨Z, cap, (blk_cell hb 2).trans rfl, hcap, ?_, ?_, ?_⟩
  · rw [add0] at p0; exact p0
  · rw [add0] at p1; exact p1
  · rw [add0] at p2; exact p2

set_option maxRecDepth 100000 in
set_option maxHeartbeats 1600000 in
theorem at_any (Z len cap n : Nat) (w : World) (h1 : 1 ≤ n) (h2 : n ≤ len) (h3 : len < 1000000) :
    Calls Tryd.prog 20 #[.slice (some ⟨Z, 0, none⟩) len cap, .int .u64 n] w fun e w' => e = .returned (.pointer (some ⟨Z, (n - 1) * 3, none⟩)) ∧ w' = w := by
  have hw : IntKind.u64.wrap ((n : Int) - 1) = ((n - 1 : Nat) : Int) := by rw [IntKind.wrap_u64]; omega
  have hi : ((n - 1 : Nat) : Int) < (len : Int) := by omega
  go_enter Tryd.func20, Tryd.ntmps20
  go_wp2_with fail
  go_ret
  exact ⟨rfl, rfl⟩

/-- A row lives on where a row of another type grows. -/
theorem R_grown_type {α β : Type} {d : Kd α} {d2 : Kd β} {e e2 base base2 : Nat} {ok ok2 : Nat → Prop} {w w1 : World} {v v2 : Value} {xs : List α} {ys : List β} (h : d.R e w base ok v xs) (h2 : d2.R e2 w base2 ok2 v2 ys) (hg : w.grownBy w1 v2.ownBlock) (hne : ∀ q, q ∈ e :: d.E → q ≠ e2) : d.R e w1 base ok v xs := by
  refine Kd.R_mono (Kd.R_grown (Kd.R_bound h) hg (fun k hk hr => ?_)) (fun _ hk => hk.1)
  obtain ⟨_, _, _, q, hq, cells, hc⟩ := hk
  obtain ⟨inner, ho⟩ := Kd.R_own h2
  obtain ⟨cs, hc2⟩ := own_typed ho k hr.symm
  rw [hc] at hc2
  injection hc2 with hc2
  injection hc2 with _ hc2
  exact hne q hq hc2
theorem info77 : (Tryd.prog.info? 77).map (fun i => (i.zero, i.size, i.bytes)) = some (some (.agg #[.string ⟨#[]⟩, .int .i64 0, .int .i64 0]), 3, 32) := by kernel_rfl
set_option maxRecDepth 100000 in
set_option maxHeartbeats 1600000 in
theorem add_any (B h ga : Nat) (heads : List Nat) (ents : List Ent) (x : Ent) (w : World) (hh : HtAt B w h ga heads ents) (hl : ents.length < 1000) :
    Calls Tryd.prog 41 #[.pointer (some ⟨h, 2, none⟩), .agg #[.string x.key, .int .i64 x.ref, .int .i64 x.next]] w fun e w' => e = .returned (.int .u64 ((ents.length + 1 : Nat) : Int)) ∧ HtAt B w' h ga heads (ents ++ [x]) ∧ FrT [55, 77] B w w' := by
  obtain ⟨hge, hv, ev, hb, hR, hE⟩ := hh
  obtain ⟨A, c, rfl⟩ := Kd.R_slice hE
  have HB := Aside0.mk hb
  have HR := Aside0.mk hR
  have HE := Aside0.mk hE
  have HGE := Aside0.mk hge
  have lg := blk_lt hb
  clear hb hR hE hge
  go_enter Tryd.func41, Tryd.ntmps41
  go_wp2_with fail
  have HBa := Aside0.mk (blk_alloc HB.out (.cells #[.string x.key, .int .i64 x.ref, .int .i64 x.next] 77))
  have HRa := Aside0.mk (Kd.R_alloc HR.out (.cells #[.string x.key, .int .i64 x.ref, .int .i64 x.next] 77))
  have HEa := Aside0.mk (Kd.R_alloc HE.out (.cells #[.string x.key, .int .i64 x.ref, .int .i64 x.next] 77))
  have HFa := Aside0.mk ((FrT.refl [55, 77] B w).alloc (Nat.le_trans HGE.out (Nat.le_of_lt lg)) (.cells #[.string x.key, .int .i64 x.ref, .int .i64 x.next] 77))
  have HXa := Aside0.mk (blk_new w (.cells #[.string x.key, .int .i64 x.ref, .int .i64 x.next] 77))
  have NX := Aside0.mk (show some w.heap.size ≠ (Value.slice A ents.length c).ownBlock from fun e => by obtain ⟨inner, ho⟩ := Kd.R_own HE.out; exact Nat.lt_irrefl _ (own_lt ho _ e.symm))
  have HSa := Aside0.mk (show w.heap.size < (w.alloc (.cells #[.string x.key, .int .i64 x.ref, .int .i64 x.next] 77)).heap.size by simp)
  generalize (w.alloc (.cells #[.string x.key, .int .i64 x.ref, .int .i64 x.next] 77)) = wa at *
  generalize w.heap.size = px at *
  have h1 : wa.cell? ⟨h, 2, none⟩ = some (.slice A ents.length c) := (blk_cell HBa.out 2).trans rfl
  have x0 : wa.cell? ⟨px, 0, none⟩ = some (.string x.key) := (blk_cell HXa.out 0).trans rfl
  have x1 : wa.cell? ⟨px, 1, none⟩ = some (.int .i64 x.ref) := (blk_cell HXa.out 1).trans rfl
  have x2 : wa.cell? ⟨px, 2, none⟩ = some (.int .i64 x.next) := (blk_cell HXa.out 2).trans rfl
  have hbs : B ≤ wa.heap.size := by have := HSa.out; have := HGE.out; omega
  refine start_ (n := 9) (ds := [8]) (S := fun w' => w'.cell? ⟨h, 2, none⟩ = some (.slice A ents.length c) ∧ w'.cell? ⟨px, 0, none⟩ = some (.string x.key) ∧ w'.cell? ⟨px, 1, none⟩ = some (.int .i64 x.ref) ∧ w'.cell? ⟨px, 2, none⟩ = some (.int .i64 x.next)) #[false, false, false, false, false, false, false, false, false] (by kernel_rfl) rfl rfl ⟨h1, x0, x1, x2⟩ (fun hHeld => ?_)
  refine take_ (i := 0) (N := (some 5)) (v := ?_) (a' := ?_) #[true, false, false, false, false, false, false, false, false] rfl rfl (by kernel_rfl) (fun _ _ _ h => h) (Or.inl ⟨by rfl, ?_⟩) hHeld ?_ ?_
  rotate_left
  · rintro w' ⟨s0, s1, s2, s3⟩
    go_simp
    with_reducible rfl
  rotate_left
  · simp only [Act.put, List.setIfInBounds_toArray, List.set_cons_zero, List.set_cons_succ]
    rfl
  refine take_ (i := 1) (N := (some 6)) (v := ?_) (a' := ?_) #[true, true, false, false, false, false, false, false, false] rfl rfl (by kernel_rfl) (fun _ _ _ h => h) (Or.inl ⟨by rfl, ?_⟩) hHeld ?_ ?_
  rotate_left
  · rintro w' ⟨s0, s1, s2, s3⟩
    go_simp
    with_reducible rfl
  rotate_left
  · simp only [Act.put, List.setIfInBounds_toArray, List.set_cons_zero, List.set_cons_succ]
    rfl
  refine take_ (i := 2) (N := (some 7)) (v := ?_) (a' := ?_) #[true, true, true, false, false, false, false, false, false] rfl rfl (by kernel_rfl) (fun _ _ _ h => h) (Or.inl ⟨by rfl, ?_⟩) hHeld ?_ ?_
  rotate_left
  · rintro w' ⟨s0, s1, s2, s3⟩
    go_simp
    with_reducible rfl
  rotate_left
  · simp only [Act.put, List.setIfInBounds_toArray, List.set_cons_zero, List.set_cons_succ]
    rfl
  refine take_ (i := 3) (N := (some 8)) (v := ?_) (a' := ?_) #[true, true, true, true, false, false, false, false, false] rfl rfl (by kernel_rfl) (fun _ _ _ h => h) (Or.inl ⟨by rfl, ?_⟩) hHeld ?_ ?_
  rotate_left
  · rintro w' ⟨s0, s1, s2, s3⟩
    go_simp
    with_reducible rfl
  rotate_left
  · simp only [Act.put, List.setIfInBounds_toArray, List.set_cons_zero, List.set_cons_succ]
    rfl
  refine take_ (i := 4) (N := (some 9)) (v := ?_) (a' := ?_) #[true, true, true, true, true, false, false, false, false] rfl rfl (by kernel_rfl) (fun _ _ _ h => h) (Or.inl ⟨by rfl, ?_⟩) hHeld ?_ ?_
  rotate_left
  · rintro w' ⟨s0, s1, s2, s3⟩
    go_simp
    with_reducible rfl
  rotate_left
  · simp only [Act.put, List.setIfInBounds_toArray, List.set_cons_zero, List.set_cons_succ]
    rfl
  refine one_ (i := 5) (N := (some 10)) #[true, true, true, true, true, true, false, false, false] rfl rfl (by kernel_rfl) (by decide) (fun K hK => ?_)
  go_simp
  refine hK.out _ _ ⟨(blk_cell (blk_alloc HBa.out _) 2).trans rfl, (blk_cell (blk_alloc HXa.out _) 0).trans rfl, (blk_cell (blk_alloc HXa.out _) 1).trans rfl, (blk_cell (blk_alloc HXa.out _) 2).trans rfl⟩ (fun hHeld => ?_)
  clear hK K
  refine one_ (i := 6) (N := (some 11)) #[true, true, true, true, true, true, true, false, false] rfl rfl (by kernel_rfl) (by decide) (fun K hK => ?_)
  refine Kd.R_append_step kEnt (w0 := w) B (by rfl) (.tmp 8) (.tmp 10) 53 77 (.agg #[.string ⟨#[]⟩, .int .i64 0, .int .i64 0]) 32 (by rfl) Tryd.underlying53 info77 rfl (by decide) (by decide) (.slice A ents.length c) ents x [.string x.key, .int .i64 x.ref, .int .i64 x.next] (fun _ => True) (fun _ => False) (by rfl) (by rfl) ⟨[.string x.key], [.int .i64 x.ref, .int .i64 x.next], rfl, rfl, ⟨[.int .i64 x.ref], [.int .i64 x.next], rfl, rfl, rfl⟩⟩ (fun _ h => h.elim) (fun _ _ => trivial) (Kd.R_drew HEa.out) (below_drew HFa.out.below) (by simp; omega) (by omega) ?_
  intro v1 w1 ho1 hb1 hg1 hat1
  obtain ⟨A1, c1, rfl⟩ := Kd.R_slice ho1
  generalize hL : (ents ++ [x]).length = L at *
  have hL2 : L = ents.length + 1 := by rw [← hL]; simp
  have HB1 := Aside0.mk (blk_grown (blk_drew HBa.out) hg1 (Kd.R_ne HEa.out HBa.out (by decide)))
  have HX1 := Aside0.mk (blk_grown (blk_drew HXa.out) hg1 NX.out)
  have HR1 := Aside0.mk (R_grown_type (Kd.R_drew HRa.out) (Kd.R_drew HEa.out) hg1 (by simp [Kd.int, Kd.scalar]))
  have HO1 := Aside0.mk ho1
  have HF1 := Aside0.mk (HFa.out.drew.grown (Kd.R_drew HEa.out) (by simp) (Nat.le_refl _) (by simp; omega) hg1)
  clear ho1 hb1 hg1 hat1 hL
  subst hL2
  refine hK.out _ _ ⟨(blk_cell HB1.out 2).trans rfl, (blk_cell HX1.out 0).trans rfl, (blk_cell HX1.out 1).trans rfl, (blk_cell HX1.out 2).trans rfl⟩ (fun hHeld => ?_)
  clear hK K
  refine take_ (i := 7) (N := (some 12)) (v := ?_) (a' := ?_) #[true, true, true, true, true, true, true, true, false] rfl rfl (by kernel_rfl) (fun _ _ _ h => h) (Or.inl ⟨by rfl, ?_⟩) hHeld ?_ ?_
  rotate_left
  · rintro w' ⟨s0, s1, s2, s3⟩
    go_simp
    with_reducible rfl
  rotate_left
  · simp only [Act.put, List.setIfInBounds_toArray, List.set_cons_zero, List.set_cons_succ]
    rfl
  refine last_ (i := 8) (N := none) #[true, true, true, true, true, true, true, true, true] rfl rfl (by kernel_rfl) (by decide) (fun K hK => ?_)
  have hf1 := blk_frozen HB1.out 2
  have hc1 := (blk_cell HB1.out 2).trans rfl
  go_simp
  refine hK.out _ _ ?_
  clear hK K hHeld hf1 hc1
  refine done_ (by kernel_rfl) ?_
  have hwz : IntKind.u64.wrap ((ents.length + 1 : Nat) : Int) = ((ents.length + 1 : Nat) : Int) := by rw [IntKind.wrap_u64]; omega
  have hc2 : (w1.setCell ⟨h, 2, none⟩ (.slice A1 (ents.length + 1) c1)).cell? ⟨h, 2, none⟩ = some (.slice A1 (ents.length + 1) c1) := (blk_cell (blk_put HB1.out 2 (.slice A1 (ents.length + 1) c1) rfl) 2).trans rfl
  go_wp2_with fail
  go_ret
  refine ⟨rfl, ⟨HGE.out, _, _, blk_put HB1.out 2 (.slice A1 (ents.length + 1) c1) rfl, Kd.R_set HR1.out HB1.out (by simp [Kd.int, Kd.scalar]) 2 _, Kd.R_set HO1.out HB1.out (by simp [kEnt, Kd.iso, Kd.pair, Kd.string, Kd.int, Kd.scalar]) 2 _⟩, HF1.out.setCell HB1.out (by simp) HGE.out 2 _⟩

set_option maxRecDepth 100000 in
set_option maxHeartbeats 1600000 in
theorem refused_any (B o h : Nat) (op : HOp) (w : World) (hh : HoAt B w o h op) :
    Calls Tryd.prog 25 #[.pointer (some ⟨o, 0, none⟩)] w fun e w' => e = .returned (.bool (!isKeyB op.key)) ∧ HoAt B w' o h (if isKeyB op.key = true then op else op.end_ 0 false 90) ∧ FrO [] o B w w' := by
  have HH := Aside0.mk hh
  have c0 : w.cell? ⟨o, 0, none⟩ = some (.pointer (some ⟨h, 0, none⟩)) := (blk_cell hh.blk 0).trans rfl
  have c1 : w.cell? ⟨o, 1, none⟩ = some (.string op.key) := (blk_cell hh.blk 1).trans rfl
  clear hh
  cases hk : isKeyB op.key with
  | true =>
    have HK := Aside0.mk (hk ▸ hisKey_any op.key w)
    rw [if_pos rfl]
    clear hk
    go_enter Tryd.func25, Tryd.ntmps25
    go_wp2_with fail
    refine HK.out.mono ?_
    rintro e w1 ⟨rfl, rfl⟩
    go_wp2_with fail
    go_ret
    exact ⟨rfl, HH.out, FrO.refl _ _ _ _⟩
  | false =>
    have HK := Aside0.mk (hk ▸ hisKey_any op.key w)
    rw [if_neg (by decide)]
    clear hk
    go_enter Tryd.func25, Tryd.ntmps25
    go_wp2_with fail
    refine HK.out.mono ?_
    rintro e w1 ⟨rfl, rfl⟩
    go_wp2_with fail
    refine (hends_any B o h op 0 false 90 w1 HH.out).mono ?_
    rintro e w2 ⟨rfl, h2, f2⟩
    have H2 := Aside0.mk h2
    have F2 := Aside0.mk f2
    clear h2 f2
    go_wp2_with fail
    go_ret
    exact ⟨rfl, H2.out, F2.out⟩
end Go.Proofs.YtmemkmnnededgaaDoor.H

