/- The hash operation's state; contracts of found and last. -/
import Derived.Test.YtmemkmnnededgaaDoorB4
namespace Go.Proofs.YtmemkmnnededgaaDoor.H
open Go.RowKit Go.Proofs.YtmemkmnnededgaaDoorW.PrintWords Go.Proofs.YtmemkmnnededgaaDoorW.PrintLast Go.Proofs.YtmemkmnnededgaaDoorW.PrintMore
attribute [local go_sem] max2_int min2_int max_two min_two max_three min_three max_four min_four
set_option linter.unusedVariables false
set_option linter.unusedSimpArgs false

theorem FrO.toT {T : List TypeId} {o B : Nat} {w w' : World} (h : FrO T o B w w') {cs : Array Value} {t : TypeId} {fr : Nat × Nat} (ho : w.heap[o]? = some (.cells cs t fr)) : FrT (t :: T) B w w' :=
  ⟨h.below, fun k cs' t' fr' hk ht => h.kept k cs' t' fr' hk (fun h2 => ht (List.mem_cons_of_mem _ h2)) (fun e => by
    subst e
    rw [ho] at hk
    injection hk with hk
    injection hk with _ h2
    exact ht (h2 ▸ List.mem_cons_self))⟩
theorem ArAt.kept {B g : Nat} {a : Ar} {w w' : World} {T : List TypeId} (h : ArAt B w g a) (hf : FrT T B w w') (h1 : (51 : Nat) ∉ T) (h2 : (48 : Nat) ∉ T) : ArAt B w' g a := by
  obtain ⟨hge, hv, st, hC, hR⟩ := h
  refine ⟨hge, hv, st, hC.fr hf h1, hf.R_lives hR ?_⟩
  intro q hq
  simp [Kd.int, Kd.scalar] at hq
  rw [hq]; exact h2
theorem HtAt.kept {B h ga : Nat} {heads : List Nat} {ents : List Ent} {w w' : World} {T : List TypeId} (hh : HtAt B w h ga heads ents) (hf : FrT T B w w') (h1 : (55 : Nat) ∉ T) (h2 : (3 : Nat) ∉ T) (h3 : (77 : Nat) ∉ T) : HtAt B w' h ga heads ents := by
  obtain ⟨hge, hv, ev, hb, hR, hE⟩ := hh
  refine ⟨hge, hv, ev, hf.blk hb h1, hf.R_lives hR ?_, hf.R_lives hE ?_⟩
  · intro q hq
    simp [Kd.int, Kd.scalar] at hq
    rw [hq]; exact h2
  · intro q hq
    simp [kEnt, Kd.iso, Kd.pair, Kd.string, Kd.int, Kd.scalar] at hq
    rw [hq]; exact h3
theorem HoAt.kept {B o h : Nat} {op : HOp} {w w' : World} {T : List TypeId} (hh : HoAt B w o h op) (hf : FrT T B w w') (h1 : (70 : Nat) ∉ T) : HoAt B w' o h op := ⟨hh.ge, hf.blk hh.blk h1⟩
/-- What a hash operation is done with. -/
structure HS (B : Nat) (w : World) (ga h o : Nat) (a : Ar) (heads : List Nat) (ents : List Ent) (op : HOp) : Prop where
  ar : ArAt B w ga a
  ht : HtAt B w h ga heads ents
  ho : HoAt B w o h op
theorem HS.drewN {B : Nat} {w : World} {ga h o : Nat} {a : Ar} {heads : List Nat} {ents : List Ent} {op : HOp} (hs : HS B w ga h o a heads ents op) (n : Nat) : HS B (w.drewN n) ga h o a heads ents op :=
  ⟨hs.ar.drewN n, hs.ht.kept ((FrT.refl [] B w).drewN n) (by simp) (by simp) (by simp), hs.ho.kept ((FrT.refl [] B w).drewN n) (by simp)⟩
/-- Behind a call that turns the arena alone. -/
theorem HS.arena {B : Nat} {w w' : World} {ga h o : Nat} {a a' : Ar} {heads : List Nat} {ents : List Ent} {op : HOp} (hs : HS B w ga h o a heads ents op) (ha : ArAt B w' ga a') (hf : FrT TA B w w') : HS B w' ga h o a' heads ents op :=
  ⟨ha, hs.ht.kept hf (by simp [TA]) (by simp [TA]) (by simp [TA]), hs.ho.kept hf (by simp [TA])⟩
/-- Behind a call that turns the operation alone. -/
theorem HS.oper {B : Nat} {w w' : World} {ga h o : Nat} {a : Ar} {heads : List Nat} {ents : List Ent} {op op' : HOp} (hs : HS B w ga h o a heads ents op) (ho : HoAt B w' o h op') (hf : FrO [] o B w w') : HS B w' ga h o a heads ents op' :=
  ⟨hs.ar.kept (hf.toT hs.ho.blk) (by simp) (by simp), hs.ht.kept (hf.toT hs.ho.blk) (by simp) (by simp) (by simp), ho⟩
def TH : List TypeId := [51, 48, 55, 77]
theorem HS.setOp {B : Nat} {w : World} {ga h o : Nat} {a : Ar} {heads : List Nat} {ents : List Ent} {op op' : HOp} (hs : HS B w ga h o a heads ents op) (j : Nat) (u : Value) (e : (op.cells h).setIfInBounds j u = op'.cells h) : HS B (w.setCell ⟨o, j, none⟩ u) ga h o a heads ents op' :=
  hs.oper (hs.ho.set j u e) ((FrO.refl [] o B w).set hs.ho.ge j u)
section
variable {B : Nat} {w : World} {ga h o : Nat} {a : Ar} {heads : List Nat} {ents : List Ent} {op : HOp}
theorem HS.c0 (hs : HS B w ga h o a heads ents op) : w.cell? ⟨o, 0, none⟩ = some (.pointer (some ⟨h, 0, none⟩)) := (blk_cell hs.ho.blk 0).trans rfl
theorem HS.c1 (hs : HS B w ga h o a heads ents op) : w.cell? ⟨o, 1, none⟩ = some (.string op.key) := (blk_cell hs.ho.blk 1).trans rfl
theorem HS.c2 (hs : HS B w ga h o a heads ents op) : w.cell? ⟨o, 2, none⟩ = some (.int .i64 op.ref) := (blk_cell hs.ho.blk 2).trans rfl
theorem HS.c3 (hs : HS B w ga h o a heads ents op) : w.cell? ⟨o, 3, none⟩ = some (.bool true) := (blk_cell hs.ho.blk 3).trans rfl
theorem HS.c4 (hs : HS B w ga h o a heads ents op) : w.cell? ⟨o, 4, none⟩ = some (.int .i64 op.next) := (blk_cell hs.ho.blk 4).trans rfl
theorem HS.c5 (hs : HS B w ga h o a heads ents op) : w.cell? ⟨o, 5, none⟩ = some (.int .u64 op.head) := (blk_cell hs.ho.blk 5).trans rfl
theorem HS.c6 (hs : HS B w ga h o a heads ents op) : w.cell? ⟨o, 6, none⟩ = some (.int .u64 op.cur) := (blk_cell hs.ho.blk 6).trans rfl
theorem HS.c7 (hs : HS B w ga h o a heads ents op) : w.cell? ⟨o, 7, none⟩ = some (.int .u64 op.own) := (blk_cell hs.ho.blk 7).trans rfl
theorem HS.f (hs : HS B w ga h o a heads ents op) (i : Nat) : w.frozen? ⟨o, i, none⟩ = false := blk_frozen hs.ho.blk i
theorem HS.h0 (hs : HS B w ga h o a heads ents op) : w.cell? ⟨h, 0, none⟩ = some (.pointer (some ⟨ga, 0, none⟩)) := by
  obtain ⟨hge, hv, ev, hb, _⟩ := hs.ht
  exact (blk_cell hb 0).trans rfl
end

theorem toList_inj {s t : ByteArray} (h : s.toList = t.toList) : s = t := by
  rw [ByteArray.toList_eq, ByteArray.toList_eq] at h
  cases s; cases t
  have := Array.toList_inj.1 h
  cases this
  rfl
theorem toList_ne {s t : ByteArray} (h : s ≠ t) : (s.toList == t.toList) = false := by
  rw [beq_eq_false_iff_ne]
  exact fun e => h (toList_inj e)

set_option maxRecDepth 100000 in
set_option maxHeartbeats 3200000 in
/-- There is no key here, or another one. -/
theorem found_no (B : Nat) (w : World) (ga h o : Nat) (a : Ar) (heads : List Nat) (ents : List Ent) (op : HOp) (n : Nat) (hs : HS B w ga h o a heads ents op) (hl : ents.length < 1000) (hn : n ≤ ents.length) (hk : n = 0 ∨ (entAt ents n).key ≠ op.key) :
    Calls Tryd.prog 30 #[.pointer (some ⟨o, 0, none⟩), .int .u64 n] w fun e w' => e = .returned (.bool false) ∧ HS B w' ga h o a heads ents op ∧ FrO TH o B w w' := by
  have H := Aside0.mk hs
  by_cases h0 : n = 0
  · subst h0
    clear hs
    go_enter Tryd.func30, Tryd.ntmps30
    go_wp2_with fail
    go_quiet (fail)
    go_wp2_with fail
    go_ret
    exact ⟨rfl, H.out.drewN nq, (FrO.refl _ _ _ _).drewN nq⟩
  · have hk2 : (entAt ents n).key ≠ op.key := hk.resolve_left h0
    have hk' := toList_ne hk2
    have c0 := hs.c0
    have c1 := hs.c1
    obtain ⟨Z, cap, e2, hcap, p0, p1, p2⟩ := hs.ht.ent n (by omega) hn
    have HA := Aside0.mk (fun m => at_any Z ents.length cap n (w.drewN m) (by omega) hn (by omega))
    have hn0 : ((n : Int) == 0) = false := by rw [beq_eq_false_iff_ne]; omega
    clear hs hk hk2
    go_enter Tryd.func30, Tryd.ntmps30
    go_wp2_with fail
    go_quiet ((go_at_call 20; exact Calls.quiet_of_same (HA.out _)))
    go_wp2_with fail
    go_ret
    exact ⟨rfl, H.out.drewN nq, (FrO.refl _ _ _ _).drewN nq⟩
set_option maxRecDepth 100000 in
set_option maxHeartbeats 3200000 in
/-- The key is here; no entry of its own. -/
theorem found_yes (B : Nat) (w : World) (ga h o : Nat) (a : Ar) (heads : List Nat) (ents : List Ent) (op : HOp) (n : Nat) (hs : HS B w ga h o a heads ents op) (hl : ents.length < 1000) (hn : n ≤ ents.length) (hn1 : 1 ≤ n) (hk : (entAt ents n).key = op.key) (ho : op.own = 0) :
    Calls Tryd.prog 30 #[.pointer (some ⟨o, 0, none⟩), .int .u64 n] w fun e w' => e = .returned (.bool true) ∧ HS B w' ga h o a heads ents (op.end_ (entAt ents n).ref true 0) ∧ FrO TH o B w w' := by
  have H := Aside0.mk hs
  have c0 := hs.c0
  have c1 := hs.c1
  have c7 := hs.c7
  rw [ho] at c7
  obtain ⟨Z, cap, e2, hcap, p0, p1, p2⟩ := hs.ht.ent n (by omega) hn
  rw [hk] at p0
  have HA := Aside0.mk (fun m => at_any Z ents.length cap n (w.drewN m) (by omega) hn (by omega))
  have hn0 : ((n : Int) == 0) = false := by rw [beq_eq_false_iff_ne]; omega
  clear hs hk ho
  go_enter Tryd.func30, Tryd.ntmps30
  go_wp2_with fail
  go_quiet ((go_at_call 20; exact Calls.quiet_of_same (HA.out _)))
  have H1 := Aside0.mk (H.out.drewN nq)
  have HA1 := Aside0.mk (HA.out nq)
  have F1 := Aside0.mk ((FrO.refl TH o B w).drewN nq)
  go_wp2_with fail
  refine HA1.out.mono ?_
  rintro e w1 ⟨rfl, rfl⟩
  go_wp2_with fail
  refine (hends_any B o h op (entAt ents n).ref true 0 _ H1.out.ho).mono ?_
  rintro e w2 ⟨rfl, h2, f2⟩
  have H2 := Aside0.mk (H1.out.oper h2 f2)
  have F2 := Aside0.mk (F1.out.trans ⟨f2.below, fun k cs t fr hk ht ho => f2.kept k cs t fr hk (by simp) ho⟩)
  clear h2 f2
  go_wp2_with fail
  go_ret
  exact ⟨rfl, H2.out, F2.out⟩
set_option maxRecDepth 100000 in
set_option maxHeartbeats 3200000 in
/-- The key is here; its own entry's cell is given back. -/
theorem found_own (B k : Nat) (w : World) (ga h o : Nat) (a : Ar) (heads : List Nat) (ents : List Ent) (op : HOp) (n : Nat) (hs : HS B w ga h o a heads ents op) (hl : ents.length < 1000) (hn : n ≤ ents.length) (hn1 : 1 ≤ n) (hk : (entAt ents n).key = op.key) (ho : 1 ≤ op.own) (ho2 : op.own ≤ ents.length)
    (hw : a.Wf k) (hk2 : k < 1990) (ht : a.tk (entAt ents op.own).next = true) :
    Calls Tryd.prog 30 #[.pointer (some ⟨o, 0, none⟩), .int .u64 n] w fun e w' => ∃ a' : Ar, e = .returned (.bool true) ∧ HS B w' ga h o a' heads ents (op.end_ (entAt ents n).ref true 0) ∧ a'.Wf (k + 1) ∧ (∀ d, a'.tk d = (d != (entAt ents op.own).next && a.tk d)) ∧ (∀ d, a'.val d = a.val d) ∧ FrO TH o B w w' := by
  have H := Aside0.mk hs
  have HW := Aside0.mk hw
  have HTK := Aside0.mk ht
  obtain ⟨Z, cap, e2, hcap, p0, p1, p2⟩ := hs.ht.ent n (by omega) hn
  have c0 := hs.c0
  have c1 := hs.c1
  rw [hk] at p0
  have HA := Aside0.mk (fun m => at_any Z ents.length cap n (w.drewN m) (by omega) hn (by omega))
  have hn0 : ((n : Int) == 0) = false := by rw [beq_eq_false_iff_ne]; omega
  have hg0 : (0 : Int) < (op.own : Int) := by omega
  have HOL := Aside0.mk (And.intro ho ho2)
  have HNL := Aside0.mk (And.intro hn1 hn)
  clear hs hk hw ht p1 p2 ho ho2 hn1 hn
  go_enter Tryd.func30, Tryd.ntmps30
  go_wp2_with fail
  go_quiet ((go_at_call 20; exact Calls.quiet_of_same (HA.out _)))
  have H1 := Aside0.mk (H.out.drewN nq)
  have F1 := Aside0.mk ((FrO.refl TH o B w).drewN nq)
  have c7 := H1.out.c7
  clear c0 c1 e2 p0 HA
  go_wp2_with fail
  clear c7
  generalize w.drewN nq = w1 at *
  have c0 := H1.out.c0
  have c7 := H1.out.c7
  obtain ⟨Z1, cap1, e2, hcap1, _, _, o2⟩ := H1.out.ht.ent op.own HOL.out.1 HOL.out.2
  have HO := Aside0.mk (fun m => at_any Z1 ents.length cap1 op.own (w1.drewN m) HOL.out.1 HOL.out.2 (by omega))
  go_quiet ((go_at_call 20; exact Calls.quiet_of_same (HO.out _)))
  have H2 := Aside0.mk (H1.out.drewN nq)
  have F2 := Aside0.mk (F1.out.drewN nq)
  clear c0 c7 e2 HO
  go_wp2_with fail
  have o3 : (w1.drewN nq).cell? ⟨Z1, (op.own - 1) * 3 + 2, none⟩ = some (.int .i64 (entAt ents op.own).next) := o2
  clear o2
  generalize w1.drewN nq = w2 at *
  have c0 := H2.out.c0
  have h0 := H2.out.h0
  refine wp_region_still_tail 11 (by kernel_rfl) (by kernel_rfl) ?_
  simp only [List.take_succ_cons, List.take_zero, List.drop_succ_cons, List.drop_zero]
  repeat still_step
  refine wpStill_nil ?_
  change wpList _ _ _ _ _ w2.drew
  have H3 := Aside0.mk (show HS B w2.drew ga h o a heads ents op from H2.out.drewN 1)
  have F3 := Aside0.mk F2.out.drew
  clear c0 h0 o3
  generalize w2.drew = w3 at *
  go_wp2_with fail
  refine (free_any B ga k a _ w3 H3.out.ar HW.out hk2 HTK.out).mono ?_
  rintro e w4 ⟨a', rfl, ha, hwf, htk, hval, hf⟩
  have H4 := Aside0.mk (H3.out.arena ha hf)
  have F4 := Aside0.mk (F3.out.thenT hf (by simp [TA, TH]))
  have HP := Aside0.mk (And.intro hwf (And.intro htk hval))
  clear ha hwf htk hval hf
  have c0 := H4.out.c0
  obtain ⟨Z2, cap2, e2, hcap2, _, p1, _⟩ := H4.out.ht.ent n HNL.out.1 HNL.out.2
  have HA := Aside0.mk (at_any Z2 ents.length cap2 n w4 HNL.out.1 HNL.out.2 (by omega))
  go_wp2_with fail
  refine HA.out.mono ?_
  rintro e w5 ⟨rfl, rfl⟩
  go_wp2_with fail
  refine (hends_any B o h op (entAt ents n).ref true 0 _ H4.out.ho).mono ?_
  rintro e w6 ⟨rfl, h2, f2⟩
  have H5 := Aside0.mk (H4.out.oper h2 f2)
  have F5 := Aside0.mk (F4.out.trans ⟨f2.below, fun k cs t fr hk ht ho => f2.kept k cs t fr hk (by simp) ho⟩)
  clear h2 f2
  go_wp2_with fail
  go_ret
  exact ⟨_, rfl, H5.out, HP.out.1, HP.out.2.1, HP.out.2.2, F5.out⟩
end Go.Proofs.YtmemkmnnededgaaDoor.H
