/- Contracts: a tower's cells are taken, and given back. -/
import Derived.Test.YtmemkmnnededgaaDoorD0
import Derived.Test.YtmemkmnnededgaaDoorB13
namespace Go.Proofs.YtmemkmnnededgaaDoor.H
open Go.RowKit Go.Proofs.YtmemkmnnededgaaDoorW.PrintWords Go.Proofs.YtmemkmnnededgaaDoorW.PrintLast Go.Proofs.YtmemkmnnededgaaDoorW.PrintMore
attribute [local go_sem] max2_int min2_int max_two min_two max_three min_three max_four min_four
set_option linter.unusedVariables false
set_option linter.unusedSimpArgs false

set_option maxRecDepth 100000 in
set_option maxHeartbeats 6400000 in
theorem grow_any (B k n l ga nb : Nat) (a : Ar) (x : SNode) (w : World) (har : ArAt B w ga a) (hw : a.Wf k) (hk : k + n < 1980) (hn : n ≤ 8) (hx : NodeAt B w nb x) (hh : x.height = n) (nv : Value) (hl : w.heap[l]? = some (.cells #[.pointer (some ⟨ga, 0, none⟩), nv] 61 (0, 0))) (hT : TabAt 0 Lib.deBruijn64tab w) (hB : 0 < B) :
    Calls Tryd.prog 15 #[.pointer (some ⟨l, 0, none⟩), .pointer (some ⟨nb, 0, none⟩)] w fun e w' => ∃ (cs : List Nat) (a' : Ar), e = .returned (.int .i64 0) ∧ cs.length = n ∧ NodeAt B w' nb (x.with cs) ∧ ArAt B w' ga a' ∧ a'.Wf (k + n) ∧ Fresh a a' cs ∧ FrO TA nb B w w' := by
  have HAR := Aside0.mk har
  have HW := Aside0.mk hw
  have HK := Aside0.mk hk
  have HT := Aside0.mk hT
  have HB := Aside0.mk hB
  have HX := Aside0.mk hx
  have HL := Aside0.mk hl
  have HN := Aside0.mk hn
  have c27 := hx.c27
  rw [hh] at c27
  clear har hw hk hT hB hx hh
  go_enter Tryd.func15, Tryd.ntmps15
  go_wp2_with fail
  go_loopw [12] (fun v12 w' => ∃ (cs : List Nat) (a' : Ar), v12 = .int .i64 cs.length ∧ cs.length ≤ n ∧ Aside0 (NodeAt B w' nb (x.with cs)) ∧ Aside0 (ArAt B w' ga a') ∧ Aside0 (a'.Wf (k + cs.length)) ∧ Aside0 (Fresh a a' cs) ∧ Aside0 (FrO TA nb B w w')) (fun v12 _ => n - (intOf v12).toNat)
  case atStart => exact ⟨[], a, rfl, by simp, ⟨by rw [SNode.with_nil]; exact HX.out⟩, HAR, HW, ⟨Fresh.none a⟩, ⟨FrO.refl _ _ _ _⟩⟩
  case round =>
    obtain ⟨cs, a1, rfl, hi, HX1, HA, HWF, HFR, HF⟩ := hrel
    by_cases hin : cs.length = n
    · have hlt : ¬ ((cs.length : Int) < (n : Int)) := by omega
      go_wp2_with fail
      go_ret
      exact ⟨rfl, cs, hin, HX1.out, a1, HA.out, hin ▸ HWF.out, HFR.out, HF.out⟩
    · have hlt : (cs.length : Int) < (n : Int) := by omega
      have h8 : cs.length < 8 := by omega
      have h8' : (cs.length : Int) < 8 := by omega
      have HT1 := Aside0.mk (show TabAt 0 Lib.deBruijn64tab wr from fun j hj => (HF.out.below.cell (p := ⟨0, j, none⟩) HB.out).trans (HT.out j hj))
      have HCALL := Aside0.mk (alloc_any B ga (k + cs.length) a1 wr HA.out HWF.out (by have := HK.out; omega) HT1.out HB.out)
      have HLr := Aside0.mk (HF.out.blk HL.out (by simp [TA]) (fun e => by have := HX.out.blk; obtain ⟨q, hq, _⟩ := this; rw [← e] at hq; exact blk_ne hq HL.out (by decide) rfl))
      have l0 : wr.cell? ⟨l, 0, none⟩ = some (.pointer (some ⟨ga, 0, none⟩)) := (blk_cell HLr.out 0).trans rfl
      go_wp2_with fail
      refine HCALL.out.mono ?_
      rintro e w1 ⟨c, a2, rfl, ha, hwf, t1, t2, t3, t4, hf⟩
      have HA1 := Aside0.mk ha
      have HW1 := Aside0.mk hwf
      have HFR1 := Aside0.mk (HFR.out.add t1 t2 t3 t4)
      have HX2 := Aside0.mk (HX1.out.fr hf (by simp [TA]))
      have HF1 := Aside0.mk (HF.out.thenT hf (fun _ h => h))
      clear ha hwf t1 t2 t3 t4 hf HCALL
      have hc := HX2.out.tow cs.length h8
      have hfz := HX2.out.blk.frozen (19 + cs.length)
      go_wp2_with fail
      refine ⟨⟨cs ++ [c], a2, by simp, by simp; omega, ⟨by rw [← SNode.with_add]; exact HX2.out.setTower _ _ h8⟩, ⟨HA1.out.kept ((HX2.out.blk.setFr (FrT.refl [67] B w1) (by simp) HX.out.ge _ _)) (by simp) (by simp)⟩, ⟨by simp only [List.length_append, List.length_cons, List.length_nil]; exact HW1.out⟩, HFR1, ⟨HF1.out.set HX.out.ge _ _⟩⟩, by simp [intOf]; omega⟩

/-- What is left of the arena behind cells were given back. -/
structure Gone (a a' : Ar) (cs : List Nat) : Prop where
  tk : ∀ d, a'.tk d = (!decide (d ∈ cs) && a.tk d)
  val : ∀ d, a'.val d = a.val d
theorem Gone.none (a : Ar) : Gone a a [] := ⟨by simp, fun _ => rfl⟩
theorem Gone.add {a a' a2 : Ar} {cs : List Nat} {c : Nat} (h : Gone a a' cs) (h2 : ∀ d, a2.tk d = (d != c && a'.tk d)) (h3 : ∀ d, a2.val d = a'.val d) : Gone a a2 (cs ++ [c]) := by
  refine ⟨fun d => ?_, fun d => by rw [h3, h.val]⟩
  rw [h2, h.tk, Bool.eq_iff_iff]
  simp
  constructor
  · rintro ⟨h1, h2, h3⟩; exact ⟨⟨h2, h1⟩, h3⟩
  · rintro ⟨⟨h2, h1⟩, h3⟩; exact ⟨h1, h2, h3⟩
def towerL (x : SNode) (n : Nat) : List Nat := (List.range n).map x.tower
theorem towerL_succ (x : SNode) (n : Nat) : towerL x (n + 1) = towerL x n ++ [x.tower n] := by simp [towerL, List.range_succ]

set_option maxRecDepth 100000 in
set_option maxHeartbeats 6400000 in
theorem fell_any (B k n l ga nb : Nat) (a : Ar) (x : SNode) (w : World) (har : ArAt B w ga a) (hw : a.Wf k) (hk : k + n < 1980) (hn : n ≤ 8) (hx : NodeAt B w nb x) (hh : x.height = n) (nv : Value) (hl : w.heap[l]? = some (.cells #[.pointer (some ⟨ga, 0, none⟩), nv] 61 (0, 0))) (hnd : (towerL x n).Nodup) (htk : ∀ i, i < n → a.tk (x.tower i) = true) :
    Calls Tryd.prog 24 #[.pointer (some ⟨l, 0, none⟩), .pointer (some ⟨nb, 0, none⟩)] w fun e w' => ∃ (a' : Ar), e = .returned (.tuple #[]) ∧ ArAt B w' ga a' ∧ a'.Wf (k + n) ∧ Gone a a' (towerL x n) ∧ FrT TA B w w' := by
  have HAR := Aside0.mk har
  have HW := Aside0.mk hw
  have HK := Aside0.mk hk
  have HX := Aside0.mk hx
  have HL := Aside0.mk hl
  have HN := Aside0.mk hn
  have HND := Aside0.mk hnd
  have HTK := Aside0.mk htk
  have c27 := hx.c27
  rw [hh] at c27
  have n8 : (n : Int) ≤ 8 := by omega
  have n0 : (0 : Int) ≤ (n : Int) := by omega
  clear har hw hk hx hh hnd htk
  go_enter Tryd.func24, Tryd.ntmps24
  go_wp2_with fail
  go_quiet (fail)
  go_wp2_with fail
  go_loopw [15] (fun v15 w' => ∃ (i : Nat) (a' : Ar), v15 = .int .i64 i ∧ i ≤ n ∧ Aside0 (ArAt B w' ga a') ∧ Aside0 (a'.Wf (k + i)) ∧ Aside0 (Gone a a' (towerL x i)) ∧ Aside0 (FrT TA B w w')) (fun v15 _ => n - (intOf v15).toNat)
  case atStart => exact ⟨0, a, rfl, by omega, ⟨HAR.out.drewN nq⟩, HW, ⟨Gone.none a⟩, ⟨(FrT.refl _ _ _).drewN nq⟩⟩
  case round =>
    obtain ⟨i, a1, rfl, hi, HA, HWF, HG, HF⟩ := hrel
    by_cases hin : i = n
    · subst hin
      have hlt : ¬ ((i : Int) < (i : Int)) := by omega
      go_wp2_with fail
      go_end0
      exact ⟨rfl, a1, HA.out, HWF.out, HG.out, HF.out⟩
    · have hlt : (i : Int) < (n : Int) := by omega
      have h8 : i < 8 := by omega
      have i0 : (0 : Int) ≤ (i : Int) := by omega
      have HX1 := Aside0.mk (HX.out.fr HF.out (by simp [TA]))
      have HLr := Aside0.mk (HF.out.blk HL.out (by simp [TA]))
      have l0 : wr.cell? ⟨l, 0, none⟩ = some (.pointer (some ⟨ga, 0, none⟩)) := (blk_cell HLr.out 0).trans rfl
      have ct := HX1.out.tow i h8
      have htk : a1.tk (x.tower i) = true := by
        rw [HG.out.tk, HTK.out i (by omega)]
        have hnd := HND.out
        have : x.tower i ∉ towerL x i := by
          intro hm
          have h2 : (towerL x (i + 1)).Nodup := by
            have : towerL x (i + 1) = (towerL x n).take (i + 1) := by
              unfold towerL
              rw [← List.map_take, List.take_range, Nat.min_eq_left (by omega)]
            rw [this]
            exact hnd.sublist (List.take_sublist _ _)
          rw [towerL_succ, List.nodup_append] at h2
          exact h2.2.2 _ hm _ (by simp) rfl
        simp [this]
      have HCALL := Aside0.mk (free_any B ga (k + i) a1 (x.tower i) wr HA.out HWF.out (by have := HK.out; omega) htk)
      clear htk
      go_wp2_with fail
      refine HCALL.out.mono ?_
      rintro e w1 ⟨a2, rfl, ha, hwf, t1, t2, hf⟩
      have HA1 := Aside0.mk ha
      have HW1 := Aside0.mk hwf
      have HG1 := Aside0.mk (HG.out.add t1 t2)
      have HF1 := Aside0.mk (HF.out.trans hf)
      clear ha hwf t1 t2 hf HCALL
      go_wp2_with fail
      refine ⟨⟨i + 1, a2, by go_num, by omega, HA1, HW1, ⟨by rw [towerL_succ]; exact HG1.out⟩, HF1⟩, by simp [intOf]; omega⟩
end Go.Proofs.YtmemkmnnededgaaDoor.H
