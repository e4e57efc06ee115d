/- Contracts of the program's package record: list over writes. -/
import Derived.Test.YtmemkmnnededgaaHO
namespace Go.Proofs.Ytmemkmnnededgaa.H
open Go.RowKit Go.Proofs.YtmemkmnnededgaaW.PrintWords Go.Proofs.YtmemkmnnededgaaW.PrintLast Go.Proofs.YtmemkmnnededgaaW.PrintMore
attribute [local go_sem] max2_int min2_int max_two min_two max_three min_three max_four min_four
set_option linter.unusedVariables false
set_option linter.unusedSimpArgs false

theorem c37_any (w0 : World) (g cr : Nat) (b : List Int) (s : St) (w : World) (hr : RdAt w0 w g b s) (hcr : w.heap[cr]? = some (.cells #[.pointer (some ⟨g, 0, none⟩)] 68 (0, 0))) :
    Calls Try.prog 37 #[.pointer (some ⟨cr, 0, none⟩)] w fun e w' => e = .returned (.agg #[.string (rdW b s).1.key, .string (rdW b s).1.val, .bool (rdW b s).1.gone]) ∧ RdAt w0 w' g b (rdW b s).2 ∧ FrT TR w0.heap.size w w' := by
  unfold rdW
  cases hg : (rdFlag b s).1 with
  | true => simpa using c37_gone w0 g cr b s w hr hcr hg
  | false => simpa using c37_kept w0 g cr b s w hr hcr hg

/-- So many are read, as long as no fault is met. -/
def rdL {α : Type} (one : St → α × St) : Nat → St → List α × St
  | 0, s => ([], s)
  | k + 1, s => if 0 ≤ s.bad then ([], s) else ((one s).1 :: (rdL one k (one s).2).1, (rdL one k (one s).2).2)
theorem rdL_bad {α : Type} (one : St → α × St) (k : Nat) (s : St) (h : 0 ≤ s.bad) : rdL one k s = ([], s) := by
  cases k with
  | zero => rfl
  | succ k => simp [rdL, h]
theorem rdNum_range (b : List Int) (most : Int) (s : St) (hm : 0 ≤ most) : 0 ≤ (rdNum b most s).1 ∧ (rdNum b most s).1 ≤ most := by
  unfold rdNum
  split
  · exact ⟨Int.le_refl 0, hm⟩
  · split
    · rename_i h
      exact ⟨(takeR_bounds b _ h.1).1, h.2⟩
    · exact ⟨Int.le_refl 0, hm⟩
def rdWs (b : List Int) (s : St) : List W27 × St := rdL (rdW b) (rdNum b 64 s).1.toNat (rdNum b 64 s).2
theorem info27 : (Try.prog.info? 27).map (fun i => (i.zero, i.size, i.bytes)) = some (some (.agg #[.string ⟨#[]⟩, .string ⟨#[]⟩, .bool false]), 3, 40) := by kernel_rfl

theorem FrT.grown_new {T : List TypeId} {B : Nat} {w w1 w2 : World} {α : Type} {d : Kd α} {e base : Nat} {ok : Nat → Prop} {v : Value} {xs : List α} (h : FrT T B w w1) (hv : d.R e w1 base ok v xs) (hbase : w.heap.size ≤ base) (hB : B ≤ w.heap.size) (hg : w1.grownBy w2 v.ownBlock) : FrT T B w w2 :=
  ⟨h.below.grown hg (Nat.le_trans hB h.size) (fun k hk => Nat.le_trans hB (Nat.le_trans hbase (Kd.R_base hv k hk))), fun k cs t fr hk ht => by
    have h2 := h.kept k cs t fr hk ht
    refine (hg.block k (blk_lt h2) (fun e2 => ?_)).trans h2
    have := Kd.R_base hv k e2.symm
    have := blk_lt hk
    omega⟩
theorem RdAt.grown {w0 w w' : World} {g : Nat} {b : List Int} {s : St} (h : RdAt w0 w g b s) {base : Nat} {e : TypeId} {size n : Nat} {v : Value} (hg : w.grownBy w' v.ownBlock) (ho : ∃ xs, w.ownsRow base e size v n xs) (he : e ≠ 108) (hB : w0.heap.size ≤ w.heap.size) (hb : w0.heap.size ≤ base) : RdAt w0 w' g b s := by
  obtain ⟨xs, ho⟩ := ho
  obtain ⟨A, c, hblk, hC, hc⟩ := h.blk
  exact ⟨⟨A, c, blk_grown hblk hg (own_ne ho hblk he), hC, hc⟩, h.old.grown hg hB (fun k hk => Nat.le_trans hb (own_base ho k hk)), h.ge, h.len, h.bytes, h.pos⟩

set_option maxRecDepth 100000 in
set_option maxHeartbeats 1600000 in
theorem list27_any (w0 : World) (g cr : Nat) (b : List Int) (s : St) (w : World) (hr : RdAt w0 w g b s) (hcr : w.heap[cr]? = some (.cells #[.pointer (some ⟨g, 0, none⟩)] 68 (0, 0))) :
    Calls Try.prog 36 #[.pointer (some ⟨g, 0, none⟩), .int .i64 64, .func (.func 37) #[] #[.pointer (some ⟨cr, 0, none⟩)]] w fun e w' => ∃ v : Value, e = .returned v ∧ k27.R 27 w' w.heap.size (fun _ => True) v (rdWs b s).1 ∧ RdAt w0 w' g b (rdWs b s).2 ∧ FrT TR w0.heap.size w w' := by
  have hz := hr.old.size
  have HC := Aside0.mk hcr
  obtain ⟨n0, n1⟩ := rdNum_range b 64 s (by omega)
  have HT := Aside0.mk (rnum_any w0 g b 64 s w hr (by omega) (by omega))
  unfold rdWs
  generalize rdNum b 64 s = r at *
  obtain ⟨n, s1⟩ := r
  simp only at n0 n1 HT ⊢
  obtain ⟨m, rfl⟩ := Int.eq_ofNat_of_zero_le n0
  simp only [Int.toNat_natCast]
  clear hr hcr n0
  go_enter Try.func36, Try.ntmps36
  go_wp2_with fail
  refine HT.out.mono ?_
  rintro e w1 ⟨rfl, h1, f1⟩
  have HR1 := Aside0.mk h1
  have HF1 := Aside0.mk f1
  clear h1 f1
  go_wp2_with fail
  go_loopw [7, 8] (fun v7 v8 w' => ∃ (ys : List W27) (k : Nat) (s' : St), v8 = .int .i64 k ∧ k ≤ 64 ∧ Aside0 (ys.length + k ≤ 64) ∧ Aside0 (k27.R 27 w' w.heap.size (fun _ => True) v7 ys) ∧ Aside0 (RdAt w0 w' g b s') ∧ Aside0 (FrT TR w0.heap.size w w') ∧ Aside0 (rdL (rdW b) m s1 = (ys ++ (rdL (rdW b) k s').1, (rdL (rdW b) k s').2))) (fun _ v8 _ => (intOf v8).toNat)
  case atStart => exact ⟨[], m, s1, rfl, by omega, ⟨by simp; omega⟩, ⟨Kd.R_nil _ _ _ _ _⟩, HR1, HF1, ⟨by simp⟩⟩
  case round =>
    obtain ⟨ys, k, s', rfl, hk, HL, HO, HR2, HF2, HE⟩ := hrel
    obtain ⟨A, c, hb2, _⟩ := HR2.out.blk
    have q2 : wr.cell? ⟨g, 2, none⟩ = some (.bool (decide (0 ≤ s'.bad))) := (blk_cell hb2 2).trans rfl
    clear hb2
    have fin : ∀ k', (rdL (rdW b) k s').1 = [] → (rdL (rdW b) k s').2 = k' → k' = s' → k27.R 27 wr w.heap.size (fun _ => True) u7 (rdL (rdW b) m s1).1 ∧ RdAt w0 wr g b (rdL (rdW b) m s1).2 ∧ FrT TR w0.heap.size w wr := by
      intro k' e1 e2 e3
      rw [HE.out, e1, e2, e3, List.append_nil]
      exact ⟨HO.out, HR2.out, HF2.out⟩
    have FIN := Aside0.mk fin
    clear fin
    by_cases hk0 : k = 0
    · subst hk0
      go_wp2_with fail
      go_ret
      exact ⟨u7, rfl, FIN.out _ rfl rfl rfl⟩
    · cases hbad : decide (0 ≤ s'.bad) with
      | true =>
        rw [hbad] at q2
        have HBD := Aside0.mk (rdL_bad (rdW b) k s' (of_decide_eq_true hbad))
        clear hbad
        have hk1 : (0 : Int) < (k : Int) := by omega
        go_wp2_with fail
        go_ret
        exact ⟨u7, rfl, FIN.out s' (by rw [HBD.out]) (by rw [HBD.out]) rfl⟩
      | false =>
        rw [hbad] at q2
        have HBD := Aside0.mk hbad
        have hk1 : (0 : Int) < (k : Int) := by omega
        have HC2 := Aside0.mk (HF2.out.blk HC.out (by simp [TR]))
        clear hbad
        go_wp2_with fail
        refine (c37_any w0 g cr b s' _ HR2.out HC2.out).mono ?_
        rintro e w3 ⟨rfl, h3, f3⟩
        have HR3 := Aside0.mk h3
        have HO3 := Aside0.mk (f3.R_lives HO.out (by simp [TR, k27, Kd.iso, Kd.pair, Kd.string, Kd.bool, Kd.scalar]))
        have HF3 := Aside0.mk (HF2.out.trans f3)
        have HE3 := Aside0.mk (show rdL (rdW b) m s1 = (ys ++ [(rdW b s').1] ++ (rdL (rdW b) (k - 1) (rdW b s').2).1, (rdL (rdW b) (k - 1) (rdW b s').2).2) by
          obtain ⟨j, rfl⟩ : ∃ j, k = j + 1 := ⟨k - 1, by omega⟩
          rw [HE.out, rdL, if_neg (of_decide_eq_false HBD.out)]
          simp)
        clear h3 f3 q2
        generalize rdW b s' = rw_ at *
        obtain ⟨x, s''⟩ := rw_
        simp only at HR3 HE3 ⊢
        go_wp2_with (at_builtin; go_must (refine Kd.R_append k27 (w0 := w3) w.heap.size rfl (.tmp 23) (.tmp 26) 22 27 (.agg #[.string ⟨#[]⟩, .string ⟨#[]⟩, .bool false]) 40 rfl Try.underlying22 info27 rfl (by decide) (by decide) _ ys x [.string x.key, .string x.val, .bool x.gone] (fun _ => True) (fun _ => False) rfl rfl ⟨[.string x.key], [.string x.val, .bool x.gone], rfl, rfl, ⟨[.string x.val], [.bool x.gone], rfl, rfl, rfl⟩⟩ (fun _ hk => hk.elim) (fun _ _ => trivial) HO3.out (Below.refl _ _) HF3.out.size (by have := HL.out; omega) ?_; intro v1 w4 ho hb hg hat; have HO4 := Aside0.mk ho; have HR4 := Aside0.mk (HR3.out.grown hg (Kd.R_own HO3.out) (by decide) (Nat.le_trans hz HF3.out.size) (Nat.le_trans hz (Nat.le_refl _))); have HF4 := Aside0.mk (HF3.out.grown_new HO3.out (Nat.le_refl _) hz hg); clear ho hb hg hat))
        refine ⟨⟨_, k - 1, s'', by go_num, by omega, ⟨?_⟩, HO4, HR4, HF4, HE3⟩, by simp [intOf]; omega⟩
        have := HL.out
        simp
        omega
end Go.Proofs.Ytmemkmnnededgaa.H
