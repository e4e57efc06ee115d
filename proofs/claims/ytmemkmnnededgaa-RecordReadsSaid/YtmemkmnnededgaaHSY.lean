/- Contracts of the reference's readers: Commit, Manifest; plain laws; the law RecordReads, walked. -/
import Derived.Test.YtmemkmnnededgaaHSX
import Derived.Test.YtmemkmnnededgaaHRB
import Derived.Test.YtmemkmnnededgaaHRE
import Derived.Test.YtmemkmnnededgaaHXB
import Derived.Test.YtmemkmnnededgaaHZ
import Derived.Test.YtmemkmnnededgaaHV
namespace Go.Proofs.Ytmemkmnnededgaa.H
open Go.RowKit Go.Proofs.YtmemkmnnededgaaW.PrintWords Go.Proofs.YtmemkmnnededgaaW.PrintLast Go.Proofs.YtmemkmnnededgaaW.PrintMore
attribute [local go_sem] max2_int min2_int max_two min_two max_three min_three max_four min_four
set_option linter.unusedVariables false
set_option linter.unusedSimpArgs false

theorem RfAt.grown {w0 w w' : World} {g : Nat} {b : List Int} {s : St} (h : RfAt w0 w g b s) {base : Nat} {e : TypeId} {size n : Nat} {v : Value} (hg : w.grownBy w' v.ownBlock) (ho : ∃ xs, w.ownsRow base e size v n xs) (he : e ≠ 80) (hB : w0.heap.size ≤ w.heap.size) (hb : w0.heap.size ≤ base) : RfAt w0 w' g b s := by
  obtain ⟨xs, ho⟩ := ho
  obtain ⟨A, c, hblk, hC, hc⟩ := h.blk
  exact ⟨⟨A, c, blk_grown hblk hg (own_ne ho hblk he), hC, hc⟩, h.old.grown hg hB (fun k hk => Nat.le_trans hb (own_base ho k hk)), h.ge, h.len, h.bytes, h.pos⟩
theorem RfAt.new {w0 w wa : World} {g : Nat} {b : List Int} {s : St} (h : RfAt w0 w g b s) {q : Nat} (hq : wa.heap.size ≤ q) (hg : g < wa.heap.size) (hz : w0.heap.size ≤ wa.heap.size) (j : Nat) (u : Value) : RfAt w0 (w.setCell ⟨q, j, none⟩ u) g b s := by
  obtain ⟨A, c, hb, hC, hc⟩ := h.blk
  exact ⟨⟨A, c, blk_far hb (p := ⟨q, j, none⟩) (Nat.ne_of_lt (Nat.lt_of_lt_of_le hg hq)) u, hC, hc⟩, h.old.setCell (Nat.le_trans hz hq) u, h.ge, h.len, h.bytes, h.pos⟩
def refCR (b : List Int) : (Int × List W27) × Int × Int :=
  (if (endR b (rdC b (st0 b 67)).2 (rightC (rdC b (st0 b 67)).1.1 (rdC b (st0 b 67)).1.2)).2 = 0 then (rdC b (st0 b 67)).1 else (0, []), endR b (rdC b (st0 b 67)).2 (rightC (rdC b (st0 b 67)).1.1 (rdC b (st0 b 67)).1.2))

set_option maxRecDepth 100000 in
set_option maxHeartbeats 6400000 in
theorem refCommit_any (A : Option Addr) (c : Nat) (b : List Int) (w : World) (hC : U8.C w A b.length b) (hc : b.length ≤ c) (hl : b.length < 140737488355328) (hb : Bytes b) :
    Calls Try.prog 13 #[.slice A b.length c] w fun e w' => ∃ v : Value, e = .returned (.tuple #[.agg #[.int .i64 (refCR b).1.1, v], .int .i64 (refCR b).2.1, .int .i64 (refCR b).2.2]) ∧ k27.R 27 w' w.heap.size (fun _ => True) v (refCR b).1.2 ∧ Below w.heap.size w w' := by
  have HC := Aside0.mk (Kd.C_alloc hC (.cells #[.int .i64 0, .slice none 0 0] 24))
  have HY := Aside0.mk hb
  have HR := Aside0.mk (blk_new w (.cells #[.int .i64 0, .slice none 0 0] 24))
  have HB := Aside0.mk (below_alloc (Below.refl w.heap.size w) (.cells #[.int .i64 0, .slice none 0 0] 24))
  have HS := Aside0.mk (show w.heap.size < (w.alloc (.cells #[.int .i64 0, .slice none 0 0] 24)).heap.size by simp)
  clear hC hb
  generalize hE0 : st0 b 67 = s0
  generalize hE1 : rdNum b 1099511627775 s0 = r1
  generalize hE2 : rdNum b 64 r1.2 = r2
  generalize hE3 : rdL (rdW b) r2.1.toNat r2.2 = r3
  generalize hE4 : endR b r3.2 (rightC r1.1 r3.1) = en
  have HZ := Aside0.mk (endR_zero b r3.2 (rightC r1.1 r3.1))
  have HN2 := Aside0.mk (show 0 ≤ r2.1 ∧ r2.1 ≤ 64 from hE2 ▸ rdNum_range b 64 r1.2 (by decide))
  have hRR : refCR b = (if en.2 = 0 then (r1.1, r3.1) else (0, []), en) := by
    unfold refCR rdC rdWs
    simp only [hE0, hE1, hE2, hE3, hE4]
  rw [hRR]
  rw [hE4] at HZ
  have HE0 := Aside0.mk hE0
  have HE1 := Aside0.mk hE1
  have HE2 := Aside0.mk hE2
  have HE3 := Aside0.mk hE3
  have HE4 := Aside0.mk hE4
  clear hE0 hE1 hE2 hE3 hE4 hRR
  obtain ⟨x1, s1⟩ := r1
  obtain ⟨n, s2⟩ := r2
  obtain ⟨ls, s3⟩ := r3
  obtain ⟨ea, ee⟩ := en
  obtain ⟨n0, n1⟩ := HN2.out
  dsimp only at n0 n1
  obtain ⟨m, rfl⟩ := Int.eq_ofNat_of_zero_le n0
  dsimp only [Int.toNat_natCast] at HE2 HE3 HE4 HZ ⊢
  clear n0 HN2
  go_enter Try.func13, Try.ntmps13
  go_wp2_with fail
  generalize w.alloc (.cells #[.int .i64 0, .slice none 0 0] 24) = w1 at *
  refine (begin_any A c b 67 w1 HC.out hc hl HY.out).mono ?_
  rintro e w2 ⟨rfl, hr2⟩
  rw [HE0.out] at hr2
  have HF2 := Aside0.mk hr2
  have HR2 := Aside0.mk (blk_below HR.out hr2.old)
  clear hr2
  go_wp2_with fail
  refine (rfnum_any w1 w1.heap.size b 1099511627775 s0 w2 HF2.out (by decide) (by decide)).mono ?_
  rintro e w3 ⟨rfl, hr3, hf3⟩
  rw [HE1.out] at hr3 ⊢
  have HF3 := Aside0.mk (hr3.alloc (.cells #[.int .i64 x1, .slice none 0 0] 24))
  have HQ3 := Aside0.mk (blk_new w3 (.cells #[.int .i64 x1, .slice none 0 0] 24))
  have HG3 := Aside0.mk (show w1.heap.size ≤ w3.heap.size from hr3.old.size)
  have HR3 := Aside0.mk (blk_alloc (hf3.blk HR2.out (by simp [TF])) (.cells #[.int .i64 x1, .slice none 0 0] 24))
  have HRQ := Aside0.mk (Nat.ne_of_lt (Nat.lt_of_lt_of_le HS.out HG3.out))
  clear hr3 hf3 HF2 HR2
  dsimp only
  go_wp2_with fail
  generalize w3.alloc (.cells #[.int .i64 x1, .slice none 0 0] 24) = w3a at *
  generalize w3.heap.size = q at *
  refine (rfnum_any w1 w1.heap.size b 64 s1 _ HF3.out (by decide) (by decide)).mono ?_
  rintro e w4 ⟨rfl, hr4, hf4⟩
  rw [HE2.out] at hr4 ⊢
  have HF4 := Aside0.mk hr4
  have HQ4 := Aside0.mk (hf4.blk HQ3.out (by simp [TF]))
  have HR4 := Aside0.mk (hf4.blk HR3.out (by simp [TF]))
  clear hr4 hf4 HF3 HQ3 HR3
  dsimp only
  go_wp2_with fail
  go_loopw [8] (fun v8 w' => ∃ (ys : List W27) (k : Nat) (s' : St) (v : Value), v8 = .int .i64 k ∧ k ≤ m ∧ Aside0 (ys.length ≤ k) ∧ Aside0 (k27.R 27 w' w1.heap.size (fun _ => True) v ys) ∧ Aside0 (RfAt w1 w' w1.heap.size b s') ∧ Aside0 (w'.heap[w.heap.size]? = some (.cells #[.int .i64 0, .slice none 0 0] 24 (0, 0))) ∧ Aside0 (w'.heap[q]? = some (.cells #[.int .i64 x1, v] 24 (0, 0))) ∧ Aside0 ((ls, s3) = (ys ++ (rdL (rdW b) (m - k) s').1, (rdL (rdW b) (m - k) s').2))) (fun v8 _ => m - (intOf v8).toNat)
  case atStart => exact ⟨[], 0, s2, .slice none 0 0, rfl, Nat.zero_le _, ⟨Nat.le_refl _⟩, ⟨Kd.R_nil _ _ _ _ _⟩, HF4, HR4, HQ4, ⟨by rw [← HE3.out]; simp⟩⟩
  case round =>
    obtain ⟨ys, k, s', v, rfl, hk, HL, HO, HFr, HRr, HQr, HE⟩ := hrel
    obtain ⟨A2, c2, hb2, _⟩ := HFr.out.blk
    have q2 : wr.cell? ⟨w1.heap.size, 2, none⟩ = some (.int .i64 s'.bad) := (blk_cell hb2 2).trans rfl
    clear hb2
    by_cases hgo : (k : Int) < (m : Int) ∧ s'.bad < 0
    · obtain ⟨g1, g2⟩ := hgo
      have HBD := Aside0.mk g2
      have hg := HFr.out.lt
      have hz := HFr.out.old.size
      have HG := Aside0.mk hg
      have HZ1 := Aside0.mk hz
      go_wp2_with fail
      refine (rfflag_any w1 w1.heap.size b s' _ HFr.out).mono ?_
      rintro e w5 ⟨rfl, hr5, hf5⟩
      generalize hEF : rdFlag b s' = rf at *
      obtain ⟨fl, s5⟩ := rf
      have HEF := Aside0.mk hEF
      clear hEF
      have HFc5 := Aside0.mk (hf5.alloc (Nat.le_trans HZ1.out hf5.size) (.cells #[.string ⟨#[]⟩, .string ⟨#[]⟩, .bool fl] 27))
      have HFr5 := Aside0.mk (hr5.alloc (.cells #[.string ⟨#[]⟩, .string ⟨#[]⟩, .bool fl] 27))
      have HP5 := Aside0.mk (blk_new w5 (.cells #[.string ⟨#[]⟩, .string ⟨#[]⟩, .bool fl] 27))
      have HPG := Aside0.mk (show wr.heap.size ≤ w5.heap.size from hf5.size)
      clear hr5 hf5 q2
      dsimp only
      go_wp2_with fail
      generalize w5.alloc (.cells #[.string ⟨#[]⟩, .string ⟨#[]⟩, .bool fl] 27) = w5a at *
      generalize w5.heap.size = p at *
      refine (rftext_any w1 w1.heap.size b 16 s5 _ HFr5.out (by decide)).mono ?_
      rintro e w6 ⟨rfl, hr6, hf6⟩
      generalize hEK : rdText b 16 s5 = rk at *
      obtain ⟨key, s6⟩ := rk
      have HEK := Aside0.mk hEK
      clear hEK
      have HP6 := Aside0.mk (hf6.blk HP5.out (by simp [TF]))
      have f6 := blk_frozen HP6.out 0
      have q6 := (blk_cell HP6.out 0).trans rfl
      have HFr6 := Aside0.mk (hr6.new HPG.out HG.out HZ1.out 0 (.string key))
      have HFc6 := Aside0.mk (setNew (HFc5.out.trans hf6) HPG.out HZ1.out 0 (.string key))
      have HP6b := Aside0.mk (blk_put HP6.out 0 (.string key) rfl)
      clear hr6 hf6 HFr5 HFc5 HP5 
      dsimp only
      cases fl with
      | true =>
        obtain ⟨Av, cv, rfl⟩ := Kd.R_slice HO.out
        have HQa := Aside0.mk (HFc6.out.blk HQr.out (by simp [TF]))
        have HRa := Aside0.mk (HFc6.out.blk HRr.out (by simp [TF]))
        have HOa := Aside0.mk (HFc6.out.R_lives HO.out (by simp [TF, k27, Kd.iso, Kd.pair, Kd.string, Kd.bool, Kd.scalar]))
        have c0 : (w6.setCell ⟨p, 0, none⟩ (.string key)).cell? ⟨p, 0, none⟩ = some (.string key) := (blk_cell HP6b.out 0).trans rfl
        have c1 : (w6.setCell ⟨p, 0, none⟩ (.string key)).cell? ⟨p, 1, none⟩ = some (.string ⟨#[]⟩) := (blk_cell HP6b.out 1).trans rfl
        have c2 : (w6.setCell ⟨p, 0, none⟩ (.string key)).cell? ⟨p, 2, none⟩ = some (.bool true) := (blk_cell HP6b.out 2).trans rfl
        have d1 : (w6.setCell ⟨p, 0, none⟩ (.string key)).cell? ⟨q, 1, none⟩ = some (.slice Av ys.length cv) := (blk_cell HQa.out 1).trans rfl
        have NQ := Aside0.mk (Kd.R_ne HOa.out HQa.out (by decide))
        have NR := Aside0.mk (Kd.R_ne HOa.out HRa.out (by decide))
        have HE9 := Aside0.mk (show (ls, s3) = (ys ++ [⟨key, ⟨#[]⟩, true⟩] ++ (rdL (rdW b) (m - (k + 1)) s6).1, (rdL (rdW b) (m - (k + 1)) s6).2) by
          obtain ⟨j, hj⟩ : ∃ j, m - k = j + 1 := ⟨m - k - 1, by omega⟩
          rw [HE.out, hj, rdL, if_neg (Int.not_le.mpr HBD.out), show m - (k + 1) = j by omega]
          have hw : rdW b s' = (⟨key, ⟨#[]⟩, true⟩, s6) := by
            unfold rdW
            rw [HEF.out]
            simp [HEK.out]
          rw [hw]
          simp)
        go_wp2_with (at_builtin; go_must (refine Kd.R_append k27 (w0 := w1) w1.heap.size rfl (.tmp 44) (.tmp 46) 22 27 (.agg #[.string ⟨#[]⟩, .string ⟨#[]⟩, .bool false]) 40 rfl Try.underlying22 info27 rfl (by decide) (by decide) _ ys ⟨key, ⟨#[]⟩, true⟩ [.string key, .string ⟨#[]⟩, .bool true] (fun _ => True) (fun _ => False) rfl (by rw [World.size_setCell]; rfl) ⟨[.string key], [.string ⟨#[]⟩, .bool true], rfl, rfl, ⟨[.string ⟨#[]⟩], [.bool true], rfl, rfl, rfl⟩⟩ (fun _ hk => hk.elim) (fun _ _ => trivial) HOa.out HFr6.out.old HFr6.out.old.size (by have := HL.out; omega) ?_; intro v1 w8 ho hb hg hat; obtain ⟨A8, c8, rfl⟩ := Kd.R_slice ho; generalize hL8 : (ys ++ [(⟨key, ⟨#[]⟩, true⟩ : W27)]).length = L8 at *; clear hL8; have HO8 := Aside0.mk ho; have HFr8 := Aside0.mk (HFr6.out.grown hg (Kd.R_own HOa.out) (by decide) HFr6.out.old.size (Nat.le_refl _)); have HQ8 := Aside0.mk (blk_grown HQa.out hg NQ.out); have HR8 := Aside0.mk (blk_grown HRa.out hg NR.out); clear ho hb hg hat; have f8 := blk_frozen HQ8.out 1; have q8 := (blk_cell HQ8.out 1).trans rfl; clear c0 c1 c2 d1))
        refine ⟨⟨ys ++ [⟨key, ⟨#[]⟩, true⟩], k + 1, s6, .slice A8 L8 c8, by go_num, by omega, ⟨?_⟩, ⟨Kd.R_set HO8.out HQ8.out (by simp [k27, Kd.iso, Kd.pair, Kd.string, Kd.bool, Kd.scalar]) 1 (.slice A8 L8 c8)⟩, ⟨HFr8.out.far HQ8.out (by decide) 1 (.slice A8 L8 c8) HG3.out⟩, ⟨blk_far HR8.out (p := ⟨q, 1, none⟩) HRQ.out (.slice A8 L8 c8)⟩, ⟨blk_put HQ8.out 1 (.slice A8 L8 c8) rfl⟩, HE9⟩, by simp [intOf]; omega⟩
        have := HL.out
        simp
        omega
      | false =>
        have c2 : (w6.setCell ⟨p, 0, none⟩ (.string key)).cell? ⟨p, 2, none⟩ = some (.bool false) := (blk_cell HP6b.out 2).trans rfl
        go_wp2_with fail
        clear f6 q6 c2 HP6
        generalize w6.setCell ⟨p, 0, none⟩ (.string key) = w6b at *
        refine (rftext_any w1 w1.heap.size b 64 s6 _ HFr6.out (by decide)).mono ?_
        rintro e w7 ⟨rfl, hr7, hf7⟩
        generalize hEV : rdText b 64 s6 = rv at *
        obtain ⟨val, s7⟩ := rv
        have HEV := Aside0.mk hEV
        clear hEV
        have HP7 := Aside0.mk (hf7.blk HP6b.out (by simp [TF]))
        have f7 := blk_frozen HP7.out 1
        have q7 := (blk_cell HP7.out 1).trans rfl
        have HFr7 := Aside0.mk (hr7.new HPG.out HG.out HZ1.out 1 (.string val))
        have HFc7 := Aside0.mk (setNew (HFc6.out.trans hf7) HPG.out HZ1.out 1 (.string val))
        have HP7b := Aside0.mk (blk_put HP7.out 1 (.string val) rfl)
        clear hr7 hf7 HFr6 HFc6 HP6b 
        dsimp only
        obtain ⟨Av, cv, rfl⟩ := Kd.R_slice HO.out
        have HQa := Aside0.mk (HFc7.out.blk HQr.out (by simp [TF]))
        have HRa := Aside0.mk (HFc7.out.blk HRr.out (by simp [TF]))
        have HOa := Aside0.mk (HFc7.out.R_lives HO.out (by simp [TF, k27, Kd.iso, Kd.pair, Kd.string, Kd.bool, Kd.scalar]))
        have c0 : (w7.setCell ⟨p, 1, none⟩ (.string val)).cell? ⟨p, 0, none⟩ = some (.string key) := (blk_cell HP7b.out 0).trans rfl
        have c1 : (w7.setCell ⟨p, 1, none⟩ (.string val)).cell? ⟨p, 1, none⟩ = some (.string val) := (blk_cell HP7b.out 1).trans rfl
        have c2 : (w7.setCell ⟨p, 1, none⟩ (.string val)).cell? ⟨p, 2, none⟩ = some (.bool false) := (blk_cell HP7b.out 2).trans rfl
        have d1 : (w7.setCell ⟨p, 1, none⟩ (.string val)).cell? ⟨q, 1, none⟩ = some (.slice Av ys.length cv) := (blk_cell HQa.out 1).trans rfl
        have NQ := Aside0.mk (Kd.R_ne HOa.out HQa.out (by decide))
        have NR := Aside0.mk (Kd.R_ne HOa.out HRa.out (by decide))
        have HE9 := Aside0.mk (show (ls, s3) = (ys ++ [⟨key, val, false⟩] ++ (rdL (rdW b) (m - (k + 1)) s7).1, (rdL (rdW b) (m - (k + 1)) s7).2) by
          obtain ⟨j, hj⟩ : ∃ j, m - k = j + 1 := ⟨m - k - 1, by omega⟩
          rw [HE.out, hj, rdL, if_neg (Int.not_le.mpr HBD.out), show m - (k + 1) = j by omega]
          have hw : rdW b s' = (⟨key, val, false⟩, s7) := by
            unfold rdW
            rw [HEF.out]
            simp [HEK.out, HEV.out]
          rw [hw]
          simp)
        go_wp2_with (at_builtin; go_must (refine Kd.R_append k27 (w0 := w1) w1.heap.size rfl (.tmp 44) (.tmp 46) 22 27 (.agg #[.string ⟨#[]⟩, .string ⟨#[]⟩, .bool false]) 40 rfl Try.underlying22 info27 rfl (by decide) (by decide) _ ys ⟨key, val, false⟩ [.string key, .string val, .bool false] (fun _ => True) (fun _ => False) rfl (by rw [World.size_setCell]; rfl) ⟨[.string key], [.string val, .bool false], rfl, rfl, ⟨[.string val], [.bool false], rfl, rfl, rfl⟩⟩ (fun _ hk => hk.elim) (fun _ _ => trivial) HOa.out HFr7.out.old HFr7.out.old.size (by have := HL.out; omega) ?_; intro v1 w8 ho hb hg hat; obtain ⟨A8, c8, rfl⟩ := Kd.R_slice ho; generalize hL8 : (ys ++ [(⟨key, val, false⟩ : W27)]).length = L8 at *; clear hL8; have HO8 := Aside0.mk ho; have HFr8 := Aside0.mk (HFr7.out.grown hg (Kd.R_own HOa.out) (by decide) HFr7.out.old.size (Nat.le_refl _)); have HQ8 := Aside0.mk (blk_grown HQa.out hg NQ.out); have HR8 := Aside0.mk (blk_grown HRa.out hg NR.out); clear ho hb hg hat; have f8 := blk_frozen HQ8.out 1; have q8 := (blk_cell HQ8.out 1).trans rfl; clear c0 c1 c2 d1))
        refine ⟨⟨ys ++ [⟨key, val, false⟩], k + 1, s7, .slice A8 L8 c8, by go_num, by omega, ⟨?_⟩, ⟨Kd.R_set HO8.out HQ8.out (by simp [k27, Kd.iso, Kd.pair, Kd.string, Kd.bool, Kd.scalar]) 1 (.slice A8 L8 c8)⟩, ⟨HFr8.out.far HQ8.out (by decide) 1 (.slice A8 L8 c8) HG3.out⟩, ⟨blk_far HR8.out (p := ⟨q, 1, none⟩) HRQ.out (.slice A8 L8 c8)⟩, ⟨blk_put HQ8.out 1 (.slice A8 L8 c8) rfl⟩, HE9⟩, by simp [intOf]; omega⟩
        have := HL.out
        simp
        omega
    · have HXE := Aside0.mk (show (ls, s3) = (ys, s') by
        rcases (show m ≤ k ∨ 0 ≤ s'.bad by by_cases h : (k : Int) < (m : Int); exact Or.inr (Int.not_lt.mp (fun h2 => hgo ⟨h, h2⟩)); exact Or.inl (by omega)) with h | h
        · rw [HE.out, show m - k = 0 by omega]; simp [rdL]
        · rw [HE.out, rdL_bad (rdW b) (m - k) s' h]; simp)
      obtain ⟨Av, cv, rfl, hcv, hrv⟩ := Kd.R_reads HO.out
      have HRV := Aside0.mk hrv
      have d0 : wr.cell? ⟨q, 0, none⟩ = some (.int .i64 x1) := (blk_cell HQr.out 0).trans rfl
      have d1 : wr.cell? ⟨q, 1, none⟩ = some (.slice Av ys.length cv) := (blk_cell HQr.out 1).trans rfl
      have hyl := HL.out
      have HBr := Aside0.mk (below_then HB.out (Nat.le_of_lt HS.out) HFr.out.old)
      obtain ⟨rfl, rfl⟩ := Prod.mk.inj HXE.out
      clear hrv
      rcases (show m ≤ k ∨ (k < m ∧ 0 ≤ s3.bad) by by_cases h : k < m; exact Or.inr ⟨h, Int.not_lt.mp (fun h2 => hgo ⟨by omega, h2⟩)⟩; exact Or.inl (by omega)) with h | ⟨h, h'⟩
      all_goals
        clear hgo
        go_wp2_with fail
        refine (refRightCommit_any x1 ls Av cv wr HRV.out (by omega)).mono ?_
        rintro e w6 ⟨rfl, hb6⟩
        clear d0 d1 q2
        obtain ⟨A5, c5, hblk, hC5, hc5⟩ := HFr.out.blk
        have HF6 := Aside0.mk (show RfAt w1 w6 w1.heap.size b s3 from ⟨⟨A5, c5, blk_below hblk hb6, hC5, hc5⟩, below_then HFr.out.old HFr.out.old.size hb6, HFr.out.ge, HFr.out.len, HFr.out.bytes, HFr.out.pos⟩)
        have HQ6 := Aside0.mk (blk_below HQr.out hb6)
        have HR6 := Aside0.mk (blk_below HRr.out hb6)
        have HO6 := Aside0.mk (Kd.R_below HO.out hb6)
        clear hblk hC5 hc5 hb6
        go_wp2_with fail
        refine (rfend_any w1 w1.heap.size b s3 (rightC x1 ls) w6 HF6.out).mono ?_
        rintro e w7 ⟨rfl, hf7⟩
        rw [HE4.out]
        have HQ7 := Aside0.mk (hf7.blk HQ6.out (by simp [TF]))
        have HR7 := Aside0.mk (hf7.blk HR6.out (by simp [TF]))
        have HO7 := Aside0.mk (hf7.R_lives HO6.out (by simp [TF, k27, Kd.iso, Kd.pair, Kd.string, Kd.bool, Kd.scalar]))
        have HB7 := Aside0.mk (below_then HB.out (Nat.le_of_lt HS.out) (HF6.out.old.trans hf7.below))
        have c0 : w7.cell? ⟨q, 0, none⟩ = some (.int .i64 x1) := (blk_cell HQ7.out 0).trans rfl
        have c1 : w7.cell? ⟨q, 1, none⟩ = some (.slice Av ls.length cv) := (blk_cell HQ7.out 1).trans rfl
        have r0 : w7.cell? ⟨w.heap.size, 0, none⟩ = some (.int .i64 0) := (blk_cell HR7.out 0).trans rfl
        have r1 : w7.cell? ⟨w.heap.size, 1, none⟩ = some (.slice none 0 0) := (blk_cell HR7.out 1).trans rfl
        have g0 := blk_frozen HR7.out 0
        have g1 := blk_frozen HR7.out 1
        clear hf7 HF6 HQ6 HR6
        by_cases he : ee = 0
        · subst he
          obtain rfl : ea = 0 := HZ.out rfl
          dsimp only
          go_wp2_with fail
          have HR8 := Aside0.mk (st2 HR7.out (.int .i64 x1) (.slice Av ls.length cv))
          have HB8 := Aside0.mk (Below.setCell (Below.setCell HB7.out (p := ⟨w.heap.size, 0, none⟩) (Nat.le_refl _) (.int .i64 x1)) (p := ⟨w.heap.size, 1, none⟩) (Nat.le_refl _) (.slice Av ls.length cv))
          have HO8 := Aside0.mk (Kd.R_set (Kd.R_set HO7.out HR7.out (by simp [k27, Kd.iso, Kd.pair, Kd.string, Kd.bool, Kd.scalar]) 0 (.int .i64 x1)) (blk_put HR7.out 0 (.int .i64 x1) rfl) (by simp [k27, Kd.iso, Kd.pair, Kd.string, Kd.bool, Kd.scalar]) 1 (.slice Av ls.length cv))
          clear c0 c1 r0 r1 g0 g1
          generalize ((w7.setCell ⟨w.heap.size, 0, none⟩ (.int .i64 x1)).setCell ⟨w.heap.size, 1, none⟩ (.slice Av ls.length cv)) = w8 at *
          have c0_ : w8.cell? ⟨w.heap.size, 0, none⟩ = some (.int .i64 x1) := (blk_cell HR8.out 0).trans rfl
          have c1_ : w8.cell? ⟨w.heap.size, 1, none⟩ = some (.slice Av ls.length cv) := (blk_cell HR8.out 1).trans rfl
          exact bodyPost_ret (v := .tuple #[.agg #[.int .i64 x1, .slice Av ls.length cv], .int .i64 0, .int .i64 0]) (by simp [results, Try.results13, go_sem, c0_, c1_]) rfl ⟨_, rfl, Kd.R_lower HO8.out (Nat.le_of_lt HS.out), HB8.out⟩
        · have he' : (ee != 0) = true := bne_iff_ne.mpr he
          dsimp only
          go_wp2_with fail
          have HR8 := Aside0.mk (st2 HR7.out (.int .i64 0) (.slice none 0 0))
          have HB8 := Aside0.mk (Below.setCell (Below.setCell HB7.out (p := ⟨w.heap.size, 0, none⟩) (Nat.le_refl _) (.int .i64 0)) (p := ⟨w.heap.size, 1, none⟩) (Nat.le_refl _) (.slice none 0 0))
          clear c0 c1 r0 r1 g0 g1
          generalize ((w7.setCell ⟨w.heap.size, 0, none⟩ (.int .i64 0)).setCell ⟨w.heap.size, 1, none⟩ (.slice none 0 0)) = w8 at *
          have c0_ : w8.cell? ⟨w.heap.size, 0, none⟩ = some (.int .i64 0) := (blk_cell HR8.out 0).trans rfl
          have c1_ : w8.cell? ⟨w.heap.size, 1, none⟩ = some (.slice none 0 0) := (blk_cell HR8.out 1).trans rfl
          exact bodyPost_ret (v := .tuple #[.agg #[.int .i64 0, .slice none 0 0], .int .i64 ea, .int .i64 ee]) (by simp [results, Try.results13, go_sem, c0_, c1_]) rfl ⟨_, rfl, Kd.R_nil _ _ _ _ _, HB8.out⟩
end Go.Proofs.Ytmemkmnnededgaa.H

namespace Go.Proofs.Ytmemkmnnededgaa.H
open Go.RowKit Go.Proofs.YtmemkmnnededgaaW.PrintWords Go.Proofs.YtmemkmnnededgaaW.PrintLast Go.Proofs.YtmemkmnnededgaaW.PrintMore
attribute [local go_sem] max2_int min2_int max_two min_two max_three min_three max_four min_four
set_option linter.unusedVariables false
set_option linter.unusedSimpArgs false

def refMR (b : List Int) : (Int × Int × List P43) × Int × Int :=
  (if (endR b (rdM b (st0 b 77)).2 (rightM (rdM b (st0 b 77)).1.1 (rdM b (st0 b 77)).1.2.1 (rdM b (st0 b 77)).1.2.2)).2 = 0 then (rdM b (st0 b 77)).1 else (0, 0, []), endR b (rdM b (st0 b 77)).2 (rightM (rdM b (st0 b 77)).1.1 (rdM b (st0 b 77)).1.2.1 (rdM b (st0 b 77)).1.2.2))

set_option maxRecDepth 100000 in
set_option maxHeartbeats 6400000 in
theorem refManifest_any (A : Option Addr) (c : Nat) (b : List Int) (w : World) (hC : U8.C w A b.length b) (hc : b.length ≤ c) (hl : b.length < 140737488355328) (hb : Bytes b) :
    Calls Try.prog 15 #[.slice A b.length c] w fun e w' => ∃ v : Value, e = .returned (.tuple #[.agg #[.int .i64 (refMR b).1.1, .int .i64 (refMR b).1.2.1, v], .int .i64 (refMR b).2.1, .int .i64 (refMR b).2.2]) ∧ k43.R 43 w' w.heap.size (fun _ => True) v (refMR b).1.2.2 ∧ Below w.heap.size w w' := by
  have HC := Aside0.mk (Kd.C_alloc hC (.cells #[.int .i64 0, .int .i64 0, .slice none 0 0] 38))
  have HY := Aside0.mk hb
  have HR := Aside0.mk (blk_new w (.cells #[.int .i64 0, .int .i64 0, .slice none 0 0] 38))
  have HB := Aside0.mk (below_alloc (Below.refl w.heap.size w) (.cells #[.int .i64 0, .int .i64 0, .slice none 0 0] 38))
  have HS := Aside0.mk (show w.heap.size < (w.alloc (.cells #[.int .i64 0, .int .i64 0, .slice none 0 0] 38)).heap.size by simp)
  clear hC hb
  generalize hE0 : st0 b 77 = s0
  generalize hE1 : rdNum b 1099511627775 s0 = r1
  generalize hEL : rdNum b 2147483647 r1.2 = rl
  generalize hE2 : rdNum b 16 rl.2 = r2
  generalize hE3 : rdL (rdP b) r2.1.toNat r2.2 = r3
  generalize hE4 : endR b r3.2 (rightM r1.1 rl.1 r3.1) = en
  have HZ := Aside0.mk (endR_zero b r3.2 (rightM r1.1 rl.1 r3.1))
  have HN2 := Aside0.mk (show 0 ≤ r2.1 ∧ r2.1 ≤ 16 from hE2 ▸ rdNum_range b 16 rl.2 (by decide))
  have hRR : refMR b = (if en.2 = 0 then (r1.1, rl.1, r3.1) else (0, 0, []), en) := by
    unfold refMR rdM rdPs
    simp only [hE0, hE1, hEL, hE2, hE3, hE4]
  rw [hRR]
  rw [hE4] at HZ
  have HE0 := Aside0.mk hE0
  have HE1 := Aside0.mk hE1
  have HEL := Aside0.mk hEL
  have HE2 := Aside0.mk hE2
  have HE3 := Aside0.mk hE3
  have HE4 := Aside0.mk hE4
  clear hE0 hE1 hEL hE2 hE3 hE4 hRR
  obtain ⟨x1, s1⟩ := r1
  obtain ⟨lg, sl⟩ := rl
  obtain ⟨n, s2⟩ := r2
  obtain ⟨ls, s3⟩ := r3
  obtain ⟨ea, ee⟩ := en
  obtain ⟨n0, n1⟩ := HN2.out
  dsimp only at n0 n1
  obtain ⟨m, rfl⟩ := Int.eq_ofNat_of_zero_le n0
  dsimp only [Int.toNat_natCast] at HEL HE2 HE3 HE4 HZ ⊢
  clear n0 HN2
  go_enter Try.func15, Try.ntmps15
  go_wp2_with fail
  generalize w.alloc (.cells #[.int .i64 0, .int .i64 0, .slice none 0 0] 38) = w1 at *
  refine (begin_any A c b 77 w1 HC.out hc hl HY.out).mono ?_
  rintro e w2 ⟨rfl, hr2⟩
  rw [HE0.out] at hr2
  have HF2 := Aside0.mk hr2
  have HR2 := Aside0.mk (blk_below HR.out hr2.old)
  clear hr2
  go_wp2_with fail
  refine (rfnum_any w1 w1.heap.size b 1099511627775 s0 w2 HF2.out (by decide) (by decide)).mono ?_
  rintro e w3 ⟨rfl, hr3, hf3⟩
  rw [HE1.out] at hr3 ⊢
  have HF3 := Aside0.mk (hr3.alloc (.cells #[.int .i64 x1, .int .i64 0, .slice none 0 0] 38))
  have HQ3 := Aside0.mk (blk_new w3 (.cells #[.int .i64 x1, .int .i64 0, .slice none 0 0] 38))
  have HG3 := Aside0.mk (show w1.heap.size ≤ w3.heap.size from hr3.old.size)
  have HR3 := Aside0.mk (blk_alloc (hf3.blk HR2.out (by simp [TF])) (.cells #[.int .i64 x1, .int .i64 0, .slice none 0 0] 38))
  have HRQ := Aside0.mk (Nat.ne_of_lt (Nat.lt_of_lt_of_le HS.out HG3.out))
  clear hr3 hf3 HF2 HR2
  dsimp only
  go_wp2_with fail
  generalize w3.alloc (.cells #[.int .i64 x1, .int .i64 0, .slice none 0 0] 38) = w3a at *
  generalize w3.heap.size = q at *
  refine (rfnum_any w1 w1.heap.size b 2147483647 s1 _ HF3.out (by decide) (by decide)).mono ?_
  rintro e w3b ⟨rfl, hr3, hf3⟩
  rw [HEL.out] at hr3 ⊢
  have HQ3b := Aside0.mk (hf3.blk HQ3.out (by simp [TF]))
  have HR3b := Aside0.mk (hf3.blk HR3.out (by simp [TF]))
  have f3 := blk_frozen HQ3b.out 1
  have q3 := (blk_cell HQ3b.out 1).trans rfl
  have HF3c := Aside0.mk (hr3.far HQ3b.out (by decide) 1 (.int .i64 lg) HG3.out)
  have HQ3c := Aside0.mk (blk_put HQ3b.out 1 (.int .i64 lg) rfl)
  have HR3c := Aside0.mk (blk_far HR3b.out (p := ⟨q, 1, none⟩) HRQ.out (.int .i64 lg))
  clear hr3 hf3 HF3 HQ3 HR3 HQ3b HR3b
  dsimp only
  go_wp2_with fail
  clear f3 q3
  generalize w3b.setCell ⟨q, 1, none⟩ (.int .i64 lg) = w3c at *
  refine (rfnum_any w1 w1.heap.size b 16 sl _ HF3c.out (by decide) (by decide)).mono ?_
  rintro e w4 ⟨rfl, hr4, hf4⟩
  rw [HE2.out] at hr4 ⊢
  have HF4 := Aside0.mk hr4
  have HQ4 := Aside0.mk (hf4.blk HQ3c.out (by simp [TF]))
  have HR4 := Aside0.mk (hf4.blk HR3c.out (by simp [TF]))
  clear hr4 hf4 HF3c HQ3c HR3c
  dsimp only
  go_wp2_with fail
  go_loopw [8] (fun v8 w' => ∃ (ys : List P43) (k : Nat) (s' : St) (v : Value), v8 = .int .i64 k ∧ k ≤ m ∧ Aside0 (ys.length ≤ k) ∧ Aside0 (k43.R 43 w' w1.heap.size (fun _ => True) v ys) ∧ Aside0 (RfAt w1 w' w1.heap.size b s') ∧ Aside0 (w'.heap[w.heap.size]? = some (.cells #[.int .i64 0, .int .i64 0, .slice none 0 0] 38 (0, 0))) ∧ Aside0 (w'.heap[q]? = some (.cells #[.int .i64 x1, .int .i64 lg, v] 38 (0, 0))) ∧ Aside0 ((ls, s3) = (ys ++ (rdL (rdP b) (m - k) s').1, (rdL (rdP b) (m - k) s').2))) (fun v8 _ => m - (intOf v8).toNat)
  case atStart => exact ⟨[], 0, s2, .slice none 0 0, rfl, Nat.zero_le _, ⟨Nat.le_refl _⟩, ⟨Kd.R_nil _ _ _ _ _⟩, HF4, HR4, HQ4, ⟨by rw [← HE3.out]; simp⟩⟩
  case round =>
    obtain ⟨ys, k, s', v, rfl, hk, HL, HO, HFr, HRr, HQr, HE⟩ := hrel
    obtain ⟨A2, c2, hb2, _⟩ := HFr.out.blk
    have q2 : wr.cell? ⟨w1.heap.size, 2, none⟩ = some (.int .i64 s'.bad) := (blk_cell hb2 2).trans rfl
    clear hb2
    by_cases hgo : (k : Int) < (m : Int) ∧ s'.bad < 0
    · obtain ⟨g1, g2⟩ := hgo
      have HBD := Aside0.mk g2
      have hg := HFr.out.lt
      have hz := HFr.out.old.size
      have HG := Aside0.mk hg
      have HZ1 := Aside0.mk hz
      go_wp2_with fail
      refine (rfnum_any w1 w1.heap.size b 2147483647 s' _ HFr.out (by decide) (by decide)).mono ?_
      rintro e w5 ⟨rfl, hr5, hf5⟩
      generalize hEN : rdNum b 2147483647 s' = rn at *
      obtain ⟨nn, s5⟩ := rn
      have HEN := Aside0.mk hEN
      clear hEN
      have HFc5 := Aside0.mk (hf5.alloc (Nat.le_trans HZ1.out hf5.size) (.cells #[.int .i64 nn, .int .i64 0, .int .i64 0] 43))
      have HFr5 := Aside0.mk (hr5.alloc (.cells #[.int .i64 nn, .int .i64 0, .int .i64 0] 43))
      have HP5 := Aside0.mk (blk_new w5 (.cells #[.int .i64 nn, .int .i64 0, .int .i64 0] 43))
      have HPG := Aside0.mk (show wr.heap.size ≤ w5.heap.size from hf5.size)
      clear hr5 hf5 q2
      dsimp only
      go_wp2_with fail
      generalize w5.alloc (.cells #[.int .i64 nn, .int .i64 0, .int .i64 0] 43) = w5a at *
      generalize w5.heap.size = p at *
      refine (rfnum_any w1 w1.heap.size b 1099511627775 s5 _ HFr5.out (by decide) (by decide)).mono ?_
      rintro e w6 ⟨rfl, hr6, hf6⟩
      generalize hEK : rdNum b 1099511627775 s5 = rk at *
      obtain ⟨fr, s6⟩ := rk
      have HEK := Aside0.mk hEK
      clear hEK
      have HP6 := Aside0.mk (hf6.blk HP5.out (by simp [TF]))
      have f6 := blk_frozen HP6.out 1
      have q6 := (blk_cell HP6.out 1).trans rfl
      have HFr6 := Aside0.mk (hr6.new HPG.out HG.out HZ1.out 1 (.int .i64 fr))
      have HFc6 := Aside0.mk (setNew (HFc5.out.trans hf6) HPG.out HZ1.out 1 (.int .i64 fr))
      have HP6b := Aside0.mk (blk_put HP6.out 1 (.int .i64 fr) rfl)
      clear hr6 hf6 HFr5 HFc5 HP5
      dsimp only
      go_wp2_with fail
      clear f6 q6 HP6
      generalize w6.setCell ⟨p, 1, none⟩ (.int .i64 fr) = w6b at *
      refine (rfnum_any w1 w1.heap.size b 1099511627775 s6 _ HFr6.out (by decide) (by decide)).mono ?_
      rintro e w7 ⟨rfl, hr7, hf7⟩
      generalize hEV : rdNum b 1099511627775 s6 = rv at *
      obtain ⟨tt, s7⟩ := rv
      have HEV := Aside0.mk hEV
      clear hEV
      have HP7 := Aside0.mk (hf7.blk HP6b.out (by simp [TF]))
      have f7 := blk_frozen HP7.out 2
      have q7 := (blk_cell HP7.out 2).trans rfl
      have HFr7 := Aside0.mk (hr7.new HPG.out HG.out HZ1.out 2 (.int .i64 tt))
      have HFc7 := Aside0.mk (setNew (HFc6.out.trans hf7) HPG.out HZ1.out 2 (.int .i64 tt))
      have HP7b := Aside0.mk (blk_put HP7.out 2 (.int .i64 tt) rfl)
      clear hr7 hf7 HFr6 HFc6 HP6b 
      dsimp only
      obtain ⟨Av, cv, rfl⟩ := Kd.R_slice HO.out
      have HQa := Aside0.mk (HFc7.out.blk HQr.out (by simp [TF]))
      have HRa := Aside0.mk (HFc7.out.blk HRr.out (by simp [TF]))
      have HOa := Aside0.mk (HFc7.out.R_lives HO.out (by simp [TF, k43, Kd.iso, Kd.pair, Kd.int, Kd.scalar]))
      have c0 : (w7.setCell ⟨p, 2, none⟩ (.int .i64 tt)).cell? ⟨p, 0, none⟩ = some (.int .i64 nn) := (blk_cell HP7b.out 0).trans rfl
      have c1 : (w7.setCell ⟨p, 2, none⟩ (.int .i64 tt)).cell? ⟨p, 1, none⟩ = some (.int .i64 fr) := (blk_cell HP7b.out 1).trans rfl
      have c2 : (w7.setCell ⟨p, 2, none⟩ (.int .i64 tt)).cell? ⟨p, 2, none⟩ = some (.int .i64 tt) := (blk_cell HP7b.out 2).trans rfl
      have d1 : (w7.setCell ⟨p, 2, none⟩ (.int .i64 tt)).cell? ⟨q, 2, none⟩ = some (.slice Av ys.length cv) := (blk_cell HQa.out 2).trans rfl
      have NQ := Aside0.mk (Kd.R_ne HOa.out HQa.out (by decide))
      have NR := Aside0.mk (Kd.R_ne HOa.out HRa.out (by decide))
      have HE9 := Aside0.mk (show (ls, s3) = (ys ++ [⟨nn, fr, tt⟩] ++ (rdL (rdP b) (m - (k + 1)) s7).1, (rdL (rdP b) (m - (k + 1)) s7).2) by
        obtain ⟨j, hj⟩ : ∃ j, m - k = j + 1 := ⟨m - k - 1, by omega⟩
        rw [HE.out, hj, rdL, if_neg (Int.not_le.mpr HBD.out), show m - (k + 1) = j by omega]
        have hw : rdP b s' = (⟨nn, fr, tt⟩, s7) := by
          unfold rdP
          simp only [HEN.out, HEK.out, HEV.out]
        rw [hw]
        simp)
      go_wp2_with (at_builtin; go_must (refine Kd.R_append k43 (w0 := w1) w1.heap.size rfl (.tmp 44) (.tmp 46) 36 43 (.agg #[.int .i64 0, .int .i64 0, .int .i64 0]) 24 rfl Try.underlying36 info43 rfl (by decide) (by decide) _ ys ⟨nn, fr, tt⟩ [.int .i64 nn, .int .i64 fr, .int .i64 tt] (fun _ => True) (fun _ => False) rfl (by rw [World.size_setCell]; rfl) ⟨[.int .i64 nn], [.int .i64 fr, .int .i64 tt], rfl, rfl, ⟨[.int .i64 fr], [.int .i64 tt], rfl, rfl, rfl⟩⟩ (fun _ hk => hk.elim) (fun _ _ => trivial) HOa.out HFr7.out.old HFr7.out.old.size (by have := HL.out; omega) ?_; intro v1 w8 ho hb hg hat; obtain ⟨A8, c8, rfl⟩ := Kd.R_slice ho; generalize hL8 : (ys ++ [(⟨nn, fr, tt⟩ : P43)]).length = L8 at *; clear hL8; have HO8 := Aside0.mk ho; have HFr8 := Aside0.mk (HFr7.out.grown hg (Kd.R_own HOa.out) (by decide) HFr7.out.old.size (Nat.le_refl _)); have HQ8 := Aside0.mk (blk_grown HQa.out hg NQ.out); have HR8 := Aside0.mk (blk_grown HRa.out hg NR.out); clear ho hb hg hat; have f8 := blk_frozen HQ8.out 2; have q8 := (blk_cell HQ8.out 2).trans rfl; clear c0 c1 c2 d1))
      refine ⟨⟨ys ++ [⟨nn, fr, tt⟩], k + 1, s7, .slice A8 L8 c8, by go_num, by omega, ⟨?_⟩, ⟨Kd.R_set HO8.out HQ8.out (by simp [k43, Kd.iso, Kd.pair, Kd.int, Kd.scalar]) 2 (.slice A8 L8 c8)⟩, ⟨HFr8.out.far HQ8.out (by decide) 2 (.slice A8 L8 c8) HG3.out⟩, ⟨blk_far HR8.out (p := ⟨q, 2, none⟩) HRQ.out (.slice A8 L8 c8)⟩, ⟨blk_put HQ8.out 2 (.slice A8 L8 c8) rfl⟩, HE9⟩, by simp [intOf]; omega⟩
      have := HL.out
      simp
      omega
    · have HXE := Aside0.mk (show (ls, s3) = (ys, s') by
        rcases (show m ≤ k ∨ 0 ≤ s'.bad by by_cases h : (k : Int) < (m : Int); exact Or.inr (Int.not_lt.mp (fun h2 => hgo ⟨h, h2⟩)); exact Or.inl (by omega)) with h | h
        · rw [HE.out, show m - k = 0 by omega]; simp [rdL]
        · rw [HE.out, rdL_bad (rdP b) (m - k) s' h]; simp)
      obtain ⟨Av, cv, rfl, hcv, hrv⟩ := Kd.R_reads HO.out
      have HRV := Aside0.mk hrv
      have d0 : wr.cell? ⟨q, 0, none⟩ = some (.int .i64 x1) := (blk_cell HQr.out 0).trans rfl
      have d1 : wr.cell? ⟨q, 1, none⟩ = some (.int .i64 lg) := (blk_cell HQr.out 1).trans rfl
      have d2 : wr.cell? ⟨q, 2, none⟩ = some (.slice Av ys.length cv) := (blk_cell HQr.out 2).trans rfl
      have hyl := HL.out
      have HBr := Aside0.mk (below_then HB.out (Nat.le_of_lt HS.out) HFr.out.old)
      obtain ⟨rfl, rfl⟩ := Prod.mk.inj HXE.out
      clear hrv
      rcases (show m ≤ k ∨ (k < m ∧ 0 ≤ s3.bad) by by_cases h : k < m; exact Or.inr ⟨h, Int.not_lt.mp (fun h2 => hgo ⟨by omega, h2⟩)⟩; exact Or.inl (by omega)) with h | ⟨h, h'⟩
      all_goals
        clear hgo
        go_wp2_with fail
        refine (refRightManifest_any x1 lg ls Av cv wr HRV.out (by omega)).mono ?_
        rintro e w6 ⟨rfl, hb6⟩
        clear d0 d1 d2 q2
        obtain ⟨A5, c5, hblk, hC5, hc5⟩ := HFr.out.blk
        have HF6 := Aside0.mk (show RfAt w1 w6 w1.heap.size b s3 from ⟨⟨A5, c5, blk_below hblk hb6, hC5, hc5⟩, below_then HFr.out.old HFr.out.old.size hb6, HFr.out.ge, HFr.out.len, HFr.out.bytes, HFr.out.pos⟩)
        have HQ6 := Aside0.mk (blk_below HQr.out hb6)
        have HR6 := Aside0.mk (blk_below HRr.out hb6)
        have HO6 := Aside0.mk (Kd.R_below HO.out hb6)
        clear hblk hC5 hc5 hb6
        go_wp2_with fail
        refine (rfend_any w1 w1.heap.size b s3 (rightM x1 lg ls) w6 HF6.out).mono ?_
        rintro e w7 ⟨rfl, hf7⟩
        rw [HE4.out]
        have HQ7 := Aside0.mk (hf7.blk HQ6.out (by simp [TF]))
        have HR7 := Aside0.mk (hf7.blk HR6.out (by simp [TF]))
        have HO7 := Aside0.mk (hf7.R_lives HO6.out (by simp [TF, k43, Kd.iso, Kd.pair, Kd.int, Kd.scalar]))
        have HB7 := Aside0.mk (below_then HB.out (Nat.le_of_lt HS.out) (HF6.out.old.trans hf7.below))
        have c0 : w7.cell? ⟨q, 0, none⟩ = some (.int .i64 x1) := (blk_cell HQ7.out 0).trans rfl
        have c1 : w7.cell? ⟨q, 1, none⟩ = some (.int .i64 lg) := (blk_cell HQ7.out 1).trans rfl
        have c2 : w7.cell? ⟨q, 2, none⟩ = some (.slice Av ls.length cv) := (blk_cell HQ7.out 2).trans rfl
        have r0 : w7.cell? ⟨w.heap.size, 0, none⟩ = some (.int .i64 0) := (blk_cell HR7.out 0).trans rfl
        have r1 : w7.cell? ⟨w.heap.size, 1, none⟩ = some (.int .i64 0) := (blk_cell HR7.out 1).trans rfl
        have r2 : w7.cell? ⟨w.heap.size, 2, none⟩ = some (.slice none 0 0) := (blk_cell HR7.out 2).trans rfl
        have g0 := blk_frozen HR7.out 0
        have g1 := blk_frozen HR7.out 1
        have g2 := blk_frozen HR7.out 2
        clear hf7 HF6 HQ6 HR6
        by_cases he : ee = 0
        · subst he
          obtain rfl : ea = 0 := HZ.out rfl
          dsimp only
          go_wp2_with fail
          have HR8 := Aside0.mk (st3 HR7.out (.int .i64 x1) (.int .i64 lg) (.slice Av ls.length cv))
          have HB8 := Aside0.mk (Below.setCell (Below.setCell (Below.setCell HB7.out (p := ⟨w.heap.size, 0, none⟩) (Nat.le_refl _) (.int .i64 x1)) (p := ⟨w.heap.size, 1, none⟩) (Nat.le_refl _) (.int .i64 lg)) (p := ⟨w.heap.size, 2, none⟩) (Nat.le_refl _) (.slice Av ls.length cv))
          have HO8 := Aside0.mk (Kd.R_set (Kd.R_set (Kd.R_set HO7.out HR7.out (by simp [k43, Kd.iso, Kd.pair, Kd.int, Kd.scalar]) 0 (.int .i64 x1)) (blk_put HR7.out 0 (.int .i64 x1) rfl) (by simp [k43, Kd.iso, Kd.pair, Kd.int, Kd.scalar]) 1 (.int .i64 lg)) (blk_put (blk_put HR7.out 0 (.int .i64 x1) rfl) 1 (.int .i64 lg) rfl) (by simp [k43, Kd.iso, Kd.pair, Kd.int, Kd.scalar]) 2 (.slice Av ls.length cv))
          clear c0 c1 c2 r0 r1 r2 g0 g1 g2
          generalize (((w7.setCell ⟨w.heap.size, 0, none⟩ (.int .i64 x1)).setCell ⟨w.heap.size, 1, none⟩ (.int .i64 lg)).setCell ⟨w.heap.size, 2, none⟩ (.slice Av ls.length cv)) = w8 at *
          have c0_ : w8.cell? ⟨w.heap.size, 0, none⟩ = some (.int .i64 x1) := (blk_cell HR8.out 0).trans rfl
          have c1_ : w8.cell? ⟨w.heap.size, 1, none⟩ = some (.int .i64 lg) := (blk_cell HR8.out 1).trans rfl
          have c2_ : w8.cell? ⟨w.heap.size, 2, none⟩ = some (.slice Av ls.length cv) := (blk_cell HR8.out 2).trans rfl
          exact bodyPost_ret (v := .tuple #[.agg #[.int .i64 x1, .int .i64 lg, .slice Av ls.length cv], .int .i64 0, .int .i64 0]) (by simp [results, Try.results15, go_sem, c0_, c1_, c2_]) rfl ⟨_, rfl, Kd.R_lower HO8.out (Nat.le_of_lt HS.out), HB8.out⟩
        · have he' : (ee != 0) = true := bne_iff_ne.mpr he
          dsimp only
          go_wp2_with fail
          have HR8 := Aside0.mk (st3 HR7.out (.int .i64 0) (.int .i64 0) (.slice none 0 0))
          have HB8 := Aside0.mk (Below.setCell (Below.setCell (Below.setCell HB7.out (p := ⟨w.heap.size, 0, none⟩) (Nat.le_refl _) (.int .i64 0)) (p := ⟨w.heap.size, 1, none⟩) (Nat.le_refl _) (.int .i64 0)) (p := ⟨w.heap.size, 2, none⟩) (Nat.le_refl _) (.slice none 0 0))
          clear c0 c1 c2 r0 r1 r2 g0 g1 g2
          generalize (((w7.setCell ⟨w.heap.size, 0, none⟩ (.int .i64 0)).setCell ⟨w.heap.size, 1, none⟩ (.int .i64 0)).setCell ⟨w.heap.size, 2, none⟩ (.slice none 0 0)) = w8 at *
          have c0_ : w8.cell? ⟨w.heap.size, 0, none⟩ = some (.int .i64 0) := (blk_cell HR8.out 0).trans rfl
          have c1_ : w8.cell? ⟨w.heap.size, 1, none⟩ = some (.int .i64 0) := (blk_cell HR8.out 1).trans rfl
          have c2_ : w8.cell? ⟨w.heap.size, 2, none⟩ = some (.slice none 0 0) := (blk_cell HR8.out 2).trans rfl
          exact bodyPost_ret (v := .tuple #[.agg #[.int .i64 0, .int .i64 0, .slice none 0 0], .int .i64 ea, .int .i64 ee]) (by simp [results, Try.results15, go_sem, c0_, c1_, c2_]) rfl ⟨_, rfl, Kd.R_nil _ _ _ _ _, HB8.out⟩
end Go.Proofs.Ytmemkmnnededgaa.H

namespace Go.Proofs.Ytmemkmnnededgaa.H
open Go.RowKit Go.Proofs.YtmemkmnnededgaaW.PrintWords Go.Proofs.YtmemkmnnededgaaW.PrintLast Go.Proofs.YtmemkmnnededgaaW.PrintMore
set_option linter.unusedVariables false
set_option linter.unusedSimpArgs false

/-- The first fault is where the reader is. -/
def BadAt (s : St) : Prop := s.bad < 0 ∨ s.bad = s.at_
theorem num_badAt (b : List Int) (most : Int) (s : St) (h : BadAt s) : BadAt (rdNum b most s).2 := by
  unfold rdNum
  split
  · exact h
  · split
    · exact Or.inl (by simp only; omega)
    · exact Or.inr rfl
theorem text_badAt (b : List Int) (most : Int) (s : St) (h : BadAt s) : BadAt (rdText b most s).2 := by
  unfold rdText
  split
  · exact h
  · split
    · exact Or.inl (by simp only; omega)
    · exact Or.inr rfl
theorem flag_badAt (b : List Int) (s : St) (h : BadAt s) : BadAt (rdFlag b s).2 := by
  unfold rdFlag
  split
  · exact h
  · split
    · exact Or.inl (by simp only; omega)
    · exact Or.inr rfl
theorem num_stay (b : List Int) (most : Int) (s : St) (h : 0 ≤ s.bad) : (rdNum b most s).2 = s := by unfold rdNum; rw [if_pos h]
theorem text_stay (b : List Int) (most : Int) (s : St) (h : 0 ≤ s.bad) : (rdText b most s).2 = s := by unfold rdText; rw [if_pos h]
theorem W_badAt (b : List Int) (s : St) (h : BadAt s) : BadAt (rdW b s).2 := by
  unfold rdW
  split
  · exact text_badAt _ _ _ (flag_badAt _ _ h)
  · exact text_badAt _ _ _ (text_badAt _ _ _ (flag_badAt _ _ h))
theorem P_badAt (b : List Int) (s : St) (h : BadAt s) : BadAt (rdP b s).2 := num_badAt _ _ _ (num_badAt _ _ _ (num_badAt _ _ _ h))
theorem L_badAt {α : Type} (one : St → α × St) (h1 : ∀ s, BadAt s → BadAt (one s).2) : ∀ (k : Nat) (s : St), BadAt s → BadAt (rdL one k s).2 := by
  intro k
  induction k with
  | zero => intro s h; exact h
  | succ k ih =>
    intro s h
    rw [rdL]
    split
    · exact h
    · exact ih _ (h1 _ h)
theorem C_badAt (b : List Int) (s : St) (h : BadAt s) : BadAt (rdC b s).2 := L_badAt _ (W_badAt b) _ _ (num_badAt _ _ _ (num_badAt _ _ _ h))
theorem M_badAt (b : List Int) (s : St) (h : BadAt s) : BadAt (rdM b s).2 := L_badAt _ (P_badAt b) _ _ (num_badAt _ _ _ (num_badAt _ _ _ (num_badAt _ _ _ h)))
theorem R_badAt (b : List Int) (s : St) (h : BadAt s) : BadAt (rdR b s).2 := num_badAt _ _ _ (text_badAt _ _ _ (text_badAt _ _ _ h))
theorem G_badAt (b : List Int) (s : St) (h : BadAt s) : BadAt (rdG b s).2 := num_badAt _ _ _ (text_badAt _ _ _ h)
theorem C_stay (b : List Int) (s : St) (h : 0 ≤ s.bad) : (rdC b s).2 = s := by
  unfold rdC rdWs
  simp only
  rw [num_stay b _ s h, num_stay b _ s h, rdL_bad _ _ _ h]
theorem M_stay (b : List Int) (s : St) (h : 0 ≤ s.bad) : (rdM b s).2 = s := by
  unfold rdM rdPs
  simp only
  rw [num_stay b _ s h, num_stay b _ s h, num_stay b _ s h, rdL_bad _ _ _ h]
theorem R_stay (b : List Int) (s : St) (h : 0 ≤ s.bad) : (rdR b s).2 = s := by
  unfold rdR
  simp only
  rw [text_stay b _ s h, text_stay b _ s h, num_stay b _ s h]
theorem G_stay (b : List Int) (s : St) (h : 0 ≤ s.bad) : (rdG b s).2 = s := by
  unfold rdG
  simp only
  rw [text_stay b _ s h, num_stay b _ s h]

/-- Both tell alike. -/
theorem same_end {α : Type} (b : List Int) (k : Int) (f : St → α × St) (none : α) (r1 r2 : α → Bool) (hs : ∀ s, 0 ≤ s.bad → (f s).2 = s) (hb : ∀ s, BadAt s → BadAt (f s).2)
    (hr : ¬ (b.length = 0 ∨ b.getD 0 0 ≠ k) → ¬ (0 ≤ (f ⟨1, -1⟩).2.bad ∨ (f ⟨1, -1⟩).2.at_ < b.length) → r1 (f ⟨1, -1⟩).1 = r2 (f ⟨1, -1⟩).1) :
    ((if (endR b (f (st0 b k)).2 (r1 (f (st0 b k)).1)).2 = 0 then (f (st0 b k)).1 else none, endR b (f (st0 b k)).2 (r1 (f (st0 b k)).1)) : α × Int × Int) =
    (if b.length = 0 ∨ b.getD 0 0 ≠ k then (none, 0, 61)
    else if 0 ≤ (f ⟨1, -1⟩).2.bad ∨ (f ⟨1, -1⟩).2.at_ < b.length then (none, (f ⟨1, -1⟩).2.at_, 61)
    else if r2 (f ⟨1, -1⟩).1 = true then ((f ⟨1, -1⟩).1, 0, 0) else (none, 0, 60)) := by
  by_cases h0 : b.length = 0 ∨ b.getD 0 0 ≠ k
  · have e : st0 b k = ⟨1, 0⟩ := by unfold st0; rw [if_pos h0]
    rw [if_pos h0, e, hs ⟨1, 0⟩ (by decide)]
    simp [endR]
  · have e : st0 b k = ⟨1, -1⟩ := by unfold st0; rw [if_neg h0]
    rw [if_neg h0, e]
    have hB := hb ⟨1, -1⟩ (Or.inl (by decide))
    have hR := hr h0
    generalize f ⟨1, -1⟩ = r at *
    obtain ⟨v, s⟩ := r
    unfold endR
    simp only at hB hR ⊢
    by_cases h1 : 0 ≤ s.bad
    · rw [if_pos h1, if_pos (Or.inl h1)]
      have : s.bad = s.at_ := by rcases hB with h | h; omega; exact h
      rw [this]
      simp
    · rw [if_neg h1]
      by_cases h2 : s.at_ < b.length
      · rw [if_pos h2, if_pos (Or.inr h2)]
        simp
      · have h3 : ¬ (0 ≤ s.bad ∨ s.at_ < (b.length : Int)) := fun h => h.elim h1 h2
        rw [if_neg h2, if_neg h3, hR h3]
        cases r2 v <;> simp
theorem refCR_eq (b : List Int) : refCR b = takeCR b :=
  same_end b 67 (rdC b) (0, []) (fun v => rightC v.1 v.2) (fun v => rightC v.1 v.2) (C_stay b) (C_badAt b) (fun _ _ => rfl)
theorem refMR_eq (b : List Int) : refMR b = takeMR b :=
  same_end b 77 (rdM b) (0, 0, []) (fun v => rightM v.1 v.2.1 v.2.2) (fun v => rightM v.1 v.2.1 v.2.2) (M_stay b) (M_badAt b) (fun _ _ => rfl)
theorem refRR_eq (b : List Int) (hb : Bytes b) : refRR b = takeRR b :=
  same_end b 82 (rdR b) (⟨#[]⟩, ⟨#[]⟩, 0) (fun v => rightR v.1 v.2.1 v.2.2) (fun v => isKeyB v.1) (R_stay b) (R_badAt b) (fun h0 h1 => by
    obtain ⟨⟨a1, a2, a3⟩, e⟩ := all_read rd_R b hb 82 h0 h1
    have hv : isValB (rdR b ⟨1, -1⟩).1.2.1 = true := by unfold isValB; rw [decide_eq_true_iff]; omega
    simp only [rightR]
    rw [hv, (isTime_iff _).2 a3]
    simp)
theorem refGR_eq (b : List Int) (hb : Bytes b) : refGR b = takeGR b :=
  same_end b 71 (rdG b) (⟨#[]⟩, 0) (fun v => rightG v.1 v.2) (fun v => isKeyB v.1) (G_stay b) (G_badAt b) (fun h0 h1 => by
    obtain ⟨⟨a1, a3⟩, e⟩ := all_read rd_G b hb 71 h0 h1
    simp only [rightG]
    rw [(isTime_iff _).2 a3]
    simp)
end Go.Proofs.Ytmemkmnnededgaa.H

namespace Go.Proofs.Ytmemkmnnededgaa.H
open Go.RowKit Go.Proofs.YtmemkmnnededgaaW.PrintWords Go.Proofs.YtmemkmnnededgaaW.PrintLast Go.Proofs.YtmemkmnnededgaaW.PrintMore
attribute [local go_sem] max2_int min2_int max_two min_two max_three min_three max_four min_four
set_option linter.unusedVariables false
set_option linter.unusedSimpArgs false

/-- A row of n elements of sz cells that one owns, whatever its cells are: at or above B. -/
def Hole (B : Nat) (w : World) (A : Option Addr) (n sz e : Nat) : Prop :=
  0 < n → ∃ Z cs, A = some ⟨Z, 0, none⟩ ∧ w.heap[Z]? = some (.cells cs e (0, 0)) ∧ n * sz ≤ cs.size ∧ B ≤ Z
theorem Hole.of_R {α : Type} {d : Kd α} {e B base : Nat} {ok : Nat → Prop} {w : World} {A : Option Addr} {n c : Nat} {xs : List α} (h : d.R e w base ok (.slice A n c) xs) (hB : B ≤ base) : Hole B w A n d.sz e := by
  intro hn
  obtain ⟨inner, ho⟩ := Kd.R_own h
  have hnn := (Kd.R_reads' h).1
  rcases ho.2 with ⟨h1, h2⟩ | ⟨g, cap, cur, h1, h2, h3, h4, h5, h6, h7⟩
  · injection h1 with h1 h3 h4
    omega
  · injection h1 with e1 e2 e3
    refine ⟨g, cur, e1, h3, ?_, Nat.le_trans hB h2⟩
    rw [h6, hnn]
    exact Nat.mul_le_mul_right _ h4
theorem Hole.below {B : Nat} {w w' : World} {A : Option Addr} {n sz e : Nat} (h : Hole B w A n sz e) (hb : Below w.heap.size w w') : Hole B w' A n sz e := fun hn => by
  obtain ⟨Z, cs, h1, h2, h3⟩ := h hn
  exact ⟨Z, cs, h1, blk_below h2 hb, h3⟩
theorem Hole.alloc {B : Nat} {w : World} {A : Option Addr} {n sz e : Nat} (h : Hole B w A n sz e) (o : Obj) : Hole B (w.alloc o) A n sz e := h.below (below_alloc (Below.refl _ _) o)
theorem blk_set {w : World} {Z e : Nat} {cs : Array Value} (h : w.heap[Z]? = some (.cells cs e (0, 0))) (j : Nat) (u : Value) : ∃ cs', (w.setCell ⟨Z, j, none⟩ u).heap[Z]? = some (.cells cs' e (0, 0)) ∧ cs'.size = cs.size :=
  ⟨cs.setIfInBounds j u, blk_put h j u rfl, Array.size_setIfInBounds⟩
theorem blk_set3 {w : World} {Z e : Nat} {cs : Array Value} (h : w.heap[Z]? = some (.cells cs e (0, 0))) (j0 j1 j2 : Nat) (u0 u1 u2 : Value) : ∃ cs', (((w.setCell ⟨Z, j0, none⟩ u0).setCell ⟨Z, j1, none⟩ u1).setCell ⟨Z, j2, none⟩ u2).heap[Z]? = some (.cells cs' e (0, 0)) ∧ cs'.size = cs.size := by
  obtain ⟨c1, h1, e1⟩ := blk_set h j0 u0
  obtain ⟨c2, h2, e2⟩ := blk_set h1 j1 u1
  obtain ⟨c3, h3, e3⟩ := blk_set h2 j2 u2
  exact ⟨c3, h3, by omega⟩
theorem R_new8' (W : World) (B : Nat) (hB : B = W.heap.size) : U8.R 5 (W.alloc (.cells #[] 5)) W.heap.size (fun _ => True) (.slice (some ⟨B, 0, none⟩) 0 0) [] := by
  subst hB
  have h2 := World.ownsRow_lit (base := W.heap.size) (e := 5) (size := 1) W #[] 0 (Nat.le_refl _) (by decide) rfl
  exact ⟨fun _ _ => trivial, [], h2, ⟨rfl, fun j p hj => by simp at hj⟩⟩

theorem rdL_len {α : Type} (one : St → α × St) : ∀ (k : Nat) (s : St), (rdL one k s).1.length ≤ k := by
  intro k
  induction k with
  | zero => intro s; simp [rdL]
  | succ k ih =>
    intro s
    rw [rdL]
    split
    · simp
    · have := ih (one s).2
      simp
      omega
theorem takeCR_len (b : List Int) : (takeCR b).1.2.length ≤ 64 := by
  unfold takeCR
  split
  · simp
  · split
    · simp
    · split
      · have h1 := rdNum_range b 64 (rdNum b 1099511627775 ⟨1, -1⟩).2 (by decide)
        have h2 := rdL_len (rdW b) (rdNum b 64 (rdNum b 1099511627775 ⟨1, -1⟩).2).1.toNat (rdNum b 64 (rdNum b 1099511627775 ⟨1, -1⟩).2).2
        unfold rdC rdWs
        simp only
        omega
      · simp
theorem takeMR_len (b : List Int) : (takeMR b).1.2.2.length ≤ 16 := by
  unfold takeMR
  split
  · simp
  · split
    · simp
    · split
      · have h1 := rdNum_range b 16 (rdNum b 2147483647 (rdNum b 1099511627775 ⟨1, -1⟩).2).2 (by decide)
        have h2 := rdL_len (rdP b) (rdNum b 16 (rdNum b 2147483647 (rdNum b 1099511627775 ⟨1, -1⟩).2).2).1.toNat (rdNum b 16 (rdNum b 2147483647 (rdNum b 1099511627775 ⟨1, -1⟩).2).2).2
        unfold rdM rdPs
        simp only
        omega
      · simp

set_option maxRecDepth 100000 in
set_option maxHeartbeats 6400000 in
theorem recordReads_any (A : Option Addr) (c : Nat) (b : List Int) (w : World) (hC : U8.C w A b.length b) (hc : b.length ≤ c) (hl : b.length < 140737488355328) (hb : Bytes b) :
    Calls Try.prog 4 #[.slice A b.length c] w fun e w' => e = .returned (.bool true) ∧ Below w.heap.size w w' := by
  have HC := Aside0.mk hC
  have HY := Aside0.mk hb
  have HL := Aside0.mk hl
  clear hC hb
  go_enter Try.func4, Try.ntmps4
  go_wp2_with fail
  refine (shown_any w).mono ?_
  rintro e w1 ⟨rfl, hb1⟩
  have HB1 := Aside0.mk hb1
  clear hb1
  go_wp2_with (at_builtin; go_must (refine Kd.R_append_rows (Kd.int .u8) (w0 := w1) w1.heap.size rfl (.tmp 35) (.tmp 36) 28 5 (.int .u8 0) 1 rfl Try.underlying28 info5 rfl (by decide) (by decide) _ ([] : List Int) b _ _ _ (fun _ => True) (fun _ => False) rfl rfl (R_new8' w1 _ rfl) (Kd.C_alloc (Kd.C_below HC.out HB1.out) _) (fun _ _ h => h) (fun _ h => h.elim) (fun _ _ => trivial) (below_alloc (Below.refl _ _) _) (by simp) (by have := HL.out; simp; omega) ?_; intro v2 wa ho hb2 hg hat; obtain ⟨A4, c4, rfl⟩ := Kd.R_slice ho; have hcr := Kd.R_reads' ho; have HCI := Aside0.mk hcr.2.2; have hc4 := hcr.2.1; have HBa := Aside0.mk (below_then HB1.out HB1.out.size hb2); clear ho hb2 hg hat hcr))
  replace HCI : Aside0 (U8.C wa A4 b.length b) := HCI
  replace hc4 : b.length ≤ c4 := hc4
  have HCB := Aside0.mk (Kd.C_below HC.out HBa.out)
  go_loopw [5] (fun v5 w' => ∃ t : Nat, t ≤ 2 ∧ v5 = .int .i64 t ∧ Aside0 (Below wa.heap.size wa w')) (fun v5 _ => 2 - (intOf v5).toNat)
  case atStart => exact ⟨0, by omega, rfl, ⟨Below.refl _ _⟩⟩
  case round =>
    obtain ⟨t, ht, rfl, HT⟩ := hrel
    by_cases hlt : t < 2
    · go_wp2_with fail
      refine (commit_any A4 c4 b wr (Kd.C_below HCI.out HT.out) hc4 HL.out HY.out).mono ?_
      rintro e w2 ⟨v2, rfl, ho2, hb2⟩
      generalize hrx : takeCR b = rx at *
      have HRX := Aside0.mk hrx
      have hlc := takeCR_len b
      rw [hrx] at hlc
      clear hrx
      obtain ⟨⟨tc, lc⟩, ca, ce⟩ := rx
      dsimp only at ho2 hlc ⊢
      obtain ⟨Ac, cc, rfl⟩ := Kd.R_slice ho2
      have HHC := Aside0.mk (Hole.of_R ho2 HT.out.size)
      have HO2 := Aside0.mk (Kd.R_alloc ho2 (.cells #[.int .i64 tc, .slice Ac lc.length cc] 24))
      have HT2 := Aside0.mk ((below_then HT.out HT.out.size hb2).alloc (Nat.le_trans HT.out.size hb2.size) (.cells #[.int .i64 tc, .slice Ac lc.length cc] 24))
      have HP2 := Aside0.mk (blk_new w2 (.cells #[.int .i64 tc, .slice Ac lc.length cc] 24))
      clear ho2 hb2
      go_wp2_with fail
      generalize w2.alloc (.cells #[.int .i64 tc, .slice Ac lc.length cc] 24) = w2a at *
      generalize w2.heap.size = pc at *
      refine (refCommit_any A c b w2a (Kd.C_below HCB.out HT2.out) hc HL.out HY.out).mono ?_
      rintro e w3 ⟨v3, rfl, ho3, hb3⟩
      rw [refCR_eq, HRX.out] at ho3 ⊢
      dsimp only at ho3 ⊢
      obtain ⟨Ad, cd, rfl⟩ := Kd.R_slice ho3
      have HO3 := Aside0.mk (Kd.R_alloc (Kd.R_below HO2.out hb3) (.cells #[.int .i64 tc, .slice Ad lc.length cd] 24))
      have HQ3 := Aside0.mk (Kd.R_alloc ho3 (.cells #[.int .i64 tc, .slice Ad lc.length cd] 24))
      have HT3 := Aside0.mk ((below_then HT2.out HT2.out.size hb3).alloc (Nat.le_trans HT2.out.size hb3.size) (.cells #[.int .i64 tc, .slice Ad lc.length cd] 24))
      have HP3 := Aside0.mk (blk_alloc (blk_below HP2.out hb3) (.cells #[.int .i64 tc, .slice Ad lc.length cd] 24))
      have HD3 := Aside0.mk (blk_new w3 (.cells #[.int .i64 tc, .slice Ad lc.length cd] 24))
      have hpl := blk_lt (blk_below HP2.out hb3)
      have p0 : w3.cell? ⟨pc, 0, none⟩ = some (.int .i64 tc) := (blk_cell (blk_below HP2.out hb3) 0).trans rfl
      have p1 : w3.cell? ⟨pc, 1, none⟩ = some (.slice Ac lc.length cc) := (blk_cell (blk_below HP2.out hb3) 1).trans rfl
      clear ho3 hb3
      go_wp2_with fail
      clear p0 p1 hpl
      generalize w3.alloc (.cells #[.int .i64 tc, .slice Ad lc.length cd] 24) = w3a at *
      generalize w3.heap.size = pd at *
      refine (same11_true tc lc Ac Ad cc cd w3a (Kd.R_reads' HO3.out).2.2 (Kd.R_reads' HQ3.out).2.2 (by omega)).mono ?_
      rintro e w4 ⟨rfl, hb4⟩
      have HT4 := Aside0.mk (below_then HT3.out HT3.out.size hb4)
      have HP4 := Aside0.mk (blk_below HP3.out hb4)
      have HH4 := Aside0.mk ((Hole.of_R HO3.out HT.out.size).below hb4)
      clear hb4
      go_wp2_with fail
      go_loopw [13] (fun v13 w' => ∃ k : Nat, k ≤ lc.length ∧ v13 = .int .i64 k ∧ Aside0 (Below wa.heap.size wa w') ∧ Aside0 (w'.heap[pc]? = some (.cells #[.int .i64 tc, .slice Ac lc.length cc] 24 (0, 0))) ∧ Aside0 (Hole wa.heap.size w' Ac lc.length 3 27)) (fun v13 _ => lc.length - (intOf v13).toNat)
      case atStart => exact ⟨0, Nat.zero_le _, rfl, HT4, HP4, HH4⟩
      case round =>
        obtain ⟨k, hk, rfl, HT5, HP5, HH5⟩ := hrel
        have p1 : wr.cell? ⟨pc, 1, none⟩ = some (.slice Ac lc.length cc) := (blk_cell HP5.out 1).trans rfl
        by_cases hlt2 : k < lc.length
        · obtain ⟨Z, cs, rfl, hz, hcs, hzb⟩ := HH5.out (by omega)
          have HZ := Aside0.mk hz
          have HCS := Aside0.mk hcs
          have HZB := Aside0.mk hzb
          have c0 : wr.cell? ⟨Z, k * 3, none⟩ = some (cs[k * 3]'(by omega)) := (blk_cell hz _).trans (Array.getElem?_eq_getElem _)
          have c1 : wr.cell? ⟨Z, k * 3 + 1, none⟩ = some (cs[k * 3 + 1]'(by omega)) := (blk_cell hz _).trans (Array.getElem?_eq_getElem _)
          have c2 : wr.cell? ⟨Z, k * 3 + 2, none⟩ = some (cs[k * 3 + 2]'(by omega)) := (blk_cell hz _).trans (Array.getElem?_eq_getElem _)
          have f0 := blk_frozen hz (k * 3)
          have f1 := blk_frozen hz (k * 3 + 1)
          have f2 := blk_frozen hz (k * 3 + 2)
          generalize cs[k * 3]'(by omega) = y0 at *
          generalize cs[k * 3 + 1]'(by omega) = y1 at *
          generalize cs[k * 3 + 2]'(by omega) = y2 at *
          clear hz hcs hzb
          go_wp2_with fail
          have HP6 := Aside0.mk (blk_far (blk_far (blk_far HP5.out (p := ⟨Z, k * 3, none⟩) (blk_ne HP5.out HZ.out (by decide)) (.string ⟨#[]⟩)) (p := ⟨Z, k * 3 + 1, none⟩) (blk_ne HP5.out HZ.out (by decide)) (.string ⟨#[]⟩)) (p := ⟨Z, k * 3 + 2, none⟩) (blk_ne HP5.out HZ.out (by decide)) (.bool false))
          refine ⟨⟨k + 1, by omega, by go_num, ⟨Below.setCell (Below.setCell (Below.setCell HT5.out HZB.out _) HZB.out _) HZB.out _⟩, HP6, ⟨fun _ => ?_⟩⟩, by simp [intOf]; omega⟩
          obtain ⟨cs', h1, h2⟩ := blk_set3 HZ.out (k * 3) (k * 3 + 1) (k * 3 + 2) (.string ⟨#[]⟩) (.string ⟨#[]⟩) (.bool false)
          exact ⟨Z, cs', rfl, h1, by rw [h2]; exact HCS.out, HZB.out⟩
        · go_wp2_with fail
          refine (manifest_any A4 c4 b wr (Kd.C_below HCI.out HT5.out) hc4 HL.out HY.out).mono ?_
          rintro e w2 ⟨v2, rfl, ho2, hb2⟩
          generalize hrx : takeMR b = rx at *
          have HRM := Aside0.mk hrx
          have hlm := takeMR_len b
          rw [hrx] at hlm
          clear hrx
          obtain ⟨⟨tm, gm, lm⟩, ma, me⟩ := rx
          dsimp only at ho2 hlm ⊢
          obtain ⟨Am, cm, rfl⟩ := Kd.R_slice ho2
          have HO2 := Aside0.mk (Kd.R_alloc ho2 (.cells #[.int .i64 tm, .int .i64 gm, .slice Am lm.length cm] 38))
          have HT2 := Aside0.mk ((below_then HT5.out HT5.out.size hb2).alloc (Nat.le_trans HT5.out.size hb2.size) (.cells #[.int .i64 tm, .int .i64 gm, .slice Am lm.length cm] 38))
          have HP2 := Aside0.mk (blk_new w2 (.cells #[.int .i64 tm, .int .i64 gm, .slice Am lm.length cm] 38))
          clear ho2 hb2
          go_wp2_with fail
          generalize w2.alloc (.cells #[.int .i64 tm, .int .i64 gm, .slice Am lm.length cm] 38) = w2a at *
          generalize w2.heap.size = pm at *
          refine (refManifest_any A c b w2a (Kd.C_below HCB.out HT2.out) hc HL.out HY.out).mono ?_
          rintro e w3 ⟨v3, rfl, ho3, hb3⟩
          rw [refMR_eq, HRM.out] at ho3 ⊢
          dsimp only at ho3 ⊢
          obtain ⟨An, cn, rfl⟩ := Kd.R_slice ho3
          have HO3 := Aside0.mk (Kd.R_alloc (Kd.R_below HO2.out hb3) (.cells #[.int .i64 tm, .int .i64 gm, .slice An lm.length cn] 38))
          have HQ3 := Aside0.mk (Kd.R_alloc ho3 (.cells #[.int .i64 tm, .int .i64 gm, .slice An lm.length cn] 38))
          have HT3 := Aside0.mk ((below_then HT2.out HT2.out.size hb3).alloc (Nat.le_trans HT2.out.size hb3.size) (.cells #[.int .i64 tm, .int .i64 gm, .slice An lm.length cn] 38))
          have HP3 := Aside0.mk (blk_alloc (blk_below HP2.out hb3) (.cells #[.int .i64 tm, .int .i64 gm, .slice An lm.length cn] 38))
          have hpl := blk_lt (blk_below HP2.out hb3)
          have p0 : w3.cell? ⟨pm, 0, none⟩ = some (.int .i64 tm) := (blk_cell (blk_below HP2.out hb3) 0).trans rfl
          have p1 : w3.cell? ⟨pm, 1, none⟩ = some (.int .i64 gm) := (blk_cell (blk_below HP2.out hb3) 1).trans rfl
          have p2 : w3.cell? ⟨pm, 2, none⟩ = some (.slice Am lm.length cm) := (blk_cell (blk_below HP2.out hb3) 2).trans rfl
          clear ho3 hb3
          go_wp2_with fail
          clear p0 p1 p2 hpl
          generalize w3.alloc (.cells #[.int .i64 tm, .int .i64 gm, .slice An lm.length cn] 38) = w3a at *
          generalize w3.heap.size = pn at *
          refine (same16_true tm gm lm Am An cm cn w3a (Kd.R_reads' HO3.out).2.2 (Kd.R_reads' HQ3.out).2.2 (by omega)).mono ?_
          rintro e w4 ⟨rfl, hb4⟩
          have HT4 := Aside0.mk (below_then HT3.out HT3.out.size hb4)
          have HP4 := Aside0.mk (blk_below HP3.out hb4)
          have HH4 := Aside0.mk ((Hole.of_R HO3.out HT5.out.size).below hb4)
          clear hb4
          go_wp2_with fail
          go_loopw [21] (fun v21 w' => ∃ k : Nat, k ≤ lm.length ∧ v21 = .int .i64 k ∧ Aside0 (Below wa.heap.size wa w') ∧ Aside0 (w'.heap[pm]? = some (.cells #[.int .i64 tm, .int .i64 gm, .slice Am lm.length cm] 38 (0, 0))) ∧ Aside0 (Hole wa.heap.size w' Am lm.length 3 43)) (fun v21 _ => lm.length - (intOf v21).toNat)
          case atStart => exact ⟨0, Nat.zero_le _, rfl, HT4, HP4, HH4⟩
          case round =>
            obtain ⟨k2, hk2, rfl, HT7, HP7, HH7⟩ := hrel
            have p2 : wr.cell? ⟨pm, 2, none⟩ = some (.slice Am lm.length cm) := (blk_cell HP7.out 2).trans rfl
            by_cases hlt3 : k2 < lm.length
            · obtain ⟨Z, cs, rfl, hz, hcs, hzb⟩ := HH7.out (by omega)
              have HZ := Aside0.mk hz
              have HCS := Aside0.mk hcs
              have HZB := Aside0.mk hzb
              have c0 : wr.cell? ⟨Z, k2 * 3, none⟩ = some (cs[k2 * 3]'(by omega)) := (blk_cell hz _).trans (Array.getElem?_eq_getElem _)
              have c1 : wr.cell? ⟨Z, k2 * 3 + 1, none⟩ = some (cs[k2 * 3 + 1]'(by omega)) := (blk_cell hz _).trans (Array.getElem?_eq_getElem _)
              have c2 : wr.cell? ⟨Z, k2 * 3 + 2, none⟩ = some (cs[k2 * 3 + 2]'(by omega)) := (blk_cell hz _).trans (Array.getElem?_eq_getElem _)
              have f0 := blk_frozen hz (k2 * 3)
              have f1 := blk_frozen hz (k2 * 3 + 1)
              have f2 := blk_frozen hz (k2 * 3 + 2)
              generalize cs[k2 * 3]'(by omega) = y0 at *
              generalize cs[k2 * 3 + 1]'(by omega) = y1 at *
              generalize cs[k2 * 3 + 2]'(by omega) = y2 at *
              clear hz hcs hzb
              go_wp2_with fail
              have HP8 := Aside0.mk (blk_far (blk_far (blk_far HP7.out (p := ⟨Z, k2 * 3, none⟩) (blk_ne HP7.out HZ.out (by decide)) (.int .i64 0)) (p := ⟨Z, k2 * 3 + 1, none⟩) (blk_ne HP7.out HZ.out (by decide)) (.int .i64 0)) (p := ⟨Z, k2 * 3 + 2, none⟩) (blk_ne HP7.out HZ.out (by decide)) (.int .i64 0))
              refine ⟨⟨k2 + 1, by omega, by go_num, ⟨Below.setCell (Below.setCell (Below.setCell HT7.out HZB.out _) HZB.out _) HZB.out _⟩, HP8, ⟨fun _ => ?_⟩⟩, by simp [intOf]; omega⟩
              obtain ⟨cs', h1, h2⟩ := blk_set3 HZ.out (k2 * 3) (k2 * 3 + 1) (k2 * 3 + 2) (.int .i64 0) (.int .i64 0) (.int .i64 0)
              exact ⟨Z, cs', rfl, h1, by rw [h2]; exact HCS.out, HZB.out⟩
            · go_wp2_with fail
              exact ⟨⟨t + 1, by omega, by go_num, HT7⟩, by simp [intOf]; omega⟩
    · go_wp2_with fail
      refine (row_any A4 c4 b wr (Kd.C_below HCI.out HT.out) hc4 HL.out HY.out).mono ?_
      rintro e w2 ⟨rfl, hb2⟩
      generalize hrx : takeRR b = rx at *
      have HRR := Aside0.mk hrx
      clear hrx
      obtain ⟨⟨rk, rv, rt⟩, ra, re⟩ := rx
      dsimp only
      have HT2 := Aside0.mk ((below_then HT.out HT.out.size hb2).alloc (Nat.le_trans HT.out.size hb2.size) (.cells #[.string rk, .string rv, .int .i64 rt] 45))
      have HP2 := Aside0.mk (blk_new w2 (.cells #[.string rk, .string rv, .int .i64 rt] 45))
      clear hb2
      go_wp2_with fail
      generalize w2.alloc (.cells #[.string rk, .string rv, .int .i64 rt] 45) = w2a at *
      generalize w2.heap.size = pr at *
      refine (refRow_any A c b w2a (Kd.C_below HCB.out HT2.out) hc HL.out HY.out).mono ?_
      rintro e w3 ⟨rfl, hb3⟩
      rw [refRR_eq b HY.out, HRR.out]
      dsimp only
      have HT3 := Aside0.mk ((below_then HT2.out HT2.out.size hb3).alloc (Nat.le_trans HT2.out.size hb3.size) (.cells #[.string rk, .string rv, .int .i64 rt] 45))
      have HP3 := Aside0.mk (blk_alloc (blk_below HP2.out hb3) (.cells #[.string rk, .string rv, .int .i64 rt] 45))
      have HQ3 := Aside0.mk (blk_new w3 (.cells #[.string rk, .string rv, .int .i64 rt] 45))
      clear hb3
      go_wp2_with fail
      generalize w3.alloc (.cells #[.string rk, .string rv, .int .i64 rt] 45) = w3a at *
      generalize w3.heap.size = ps at *
      refine (gone_any A4 c4 b w3a (Kd.C_below HCI.out HT3.out) hc4 HL.out HY.out).mono ?_
      rintro e w4 ⟨rfl, hb4⟩
      generalize hrx : takeGR b = rx at *
      have HRG := Aside0.mk hrx
      clear hrx
      obtain ⟨⟨gk, gt⟩, ga, ge⟩ := rx
      dsimp only
      have HT4 := Aside0.mk ((below_then HT3.out HT3.out.size hb4).alloc (Nat.le_trans HT3.out.size hb4.size) (.cells #[.string gk, .int .i64 gt] 49))
      have HP4 := Aside0.mk (blk_alloc (blk_below HP3.out hb4) (.cells #[.string gk, .int .i64 gt] 49))
      have HQ4 := Aside0.mk (blk_alloc (blk_below HQ3.out hb4) (.cells #[.string gk, .int .i64 gt] 49))
      have HU4 := Aside0.mk (blk_new w4 (.cells #[.string gk, .int .i64 gt] 49))
      clear hb4
      go_wp2_with fail
      generalize w4.alloc (.cells #[.string gk, .int .i64 gt] 49) = w4a at *
      generalize w4.heap.size = px at *
      refine (refGone_any A c b w4a (Kd.C_below HCB.out HT4.out) hc HL.out HY.out).mono ?_
      rintro e w5 ⟨rfl, hb5⟩
      rw [refGR_eq b HY.out, HRG.out]
      dsimp only
      have HT5 := Aside0.mk ((below_then HT4.out HT4.out.size hb5).alloc (Nat.le_trans HT4.out.size hb5.size) (.cells #[.string gk, .int .i64 gt] 49))
      have hP5 := (blk_alloc (blk_below HP4.out hb5) (.cells #[.string gk, .int .i64 gt] 49))
      have hQ5 := (blk_alloc (blk_below HQ4.out hb5) (.cells #[.string gk, .int .i64 gt] 49))
      have hU5 := (blk_alloc (blk_below HU4.out hb5) (.cells #[.string gk, .int .i64 gt] 49))
      have hV5 := (blk_new w5 (.cells #[.string gk, .int .i64 gt] 49))
      have s1 := Kd.C_string (dst := 9) Try.underlying28 Try.underlying5 Try.underlying9 (c := c4) (Kd.C_below HCI.out HT5.out)
      have s2 := Kd.C_string (dst := 9) Try.underlying28 Try.underlying5 Try.underlying9 (c := c) (Kd.C_below HCB.out HT5.out)
      have hu45 := Try.underlying45
      have hu49 := Try.underlying49
      have c0 : (w5.alloc (.cells #[.string gk, .int .i64 gt] 49)).cell? ⟨pr, 0, none⟩ = some (.string rk) := (blk_cell hP5 0).trans rfl
      have c1 : (w5.alloc (.cells #[.string gk, .int .i64 gt] 49)).cell? ⟨pr, 1, none⟩ = some (.string rv) := (blk_cell hP5 1).trans rfl
      have c2 : (w5.alloc (.cells #[.string gk, .int .i64 gt] 49)).cell? ⟨pr, 2, none⟩ = some (.int .i64 rt) := (blk_cell hP5 2).trans rfl
      have d0 : (w5.alloc (.cells #[.string gk, .int .i64 gt] 49)).cell? ⟨ps, 0, none⟩ = some (.string rk) := (blk_cell hQ5 0).trans rfl
      have d1 : (w5.alloc (.cells #[.string gk, .int .i64 gt] 49)).cell? ⟨ps, 1, none⟩ = some (.string rv) := (blk_cell hQ5 1).trans rfl
      have d2 : (w5.alloc (.cells #[.string gk, .int .i64 gt] 49)).cell? ⟨ps, 2, none⟩ = some (.int .i64 rt) := (blk_cell hQ5 2).trans rfl
      have e0 : (w5.alloc (.cells #[.string gk, .int .i64 gt] 49)).cell? ⟨px, 0, none⟩ = some (.string gk) := (blk_cell hU5 0).trans rfl
      have e1 : (w5.alloc (.cells #[.string gk, .int .i64 gt] 49)).cell? ⟨px, 1, none⟩ = some (.int .i64 gt) := (blk_cell hU5 1).trans rfl
      clear hb5 hP5 hQ5 hU5 hV5
      go_wp2_with fail
      go_ret
      exact ⟨rfl, below_then HBa.out HBa.out.size HT5.out⟩
end Go.Proofs.Ytmemkmnnededgaa.H

