/- The walk of the law. -/
import Derived.Test.YtmemkmnnededgaaDoorFA
import Derived.Deep.LoopGhost
namespace Go.Proofs.YtmemkmnnededgaaDoor.H
open Go.RowKit Go.Proofs.YtmemkmnnededgaaDoorW.PrintWords Go.Proofs.YtmemkmnnededgaaDoorW.PrintLast Go.Proofs.YtmemkmnnededgaaDoorW.PrintMore
attribute [local go_sem] max2_int min2_int max_two min_two max_three min_three max_four min_four
set_option linter.unusedVariables false
set_option linter.unusedSimpArgs false

set_option maxRecDepth 100000 in
set_option maxHeartbeats 20000000 in
theorem top_any (b : Int) (A : Option Addr) (n c : Nat) (A2 : Option Addr) (n2 c2 : Nat) (keys : List ByteArray) (picks : List Int) (w : World) (hK : Kd.string.C w A n keys) (hc : n ≤ c) (hP : (Kd.int .i64).C w A2 n2 picks) (hT : TabAt 0 Lib.deBruijn64tab w) :
    Calls Tryd.prog 3 #[.int .i64 b, .slice A n c, .slice A2 n2 c2] w fun e w' => e = .returned (.bool true) ∧ Below w.heap.size w w' := by
  have HK := Aside0.mk hK
  have HP := Aside0.mk hP
  have HT := Aside0.mk hT
  have hkn := hK.1
  have HKN := Aside0.mk hkn
  have HZ := Aside0.mk (show 0 < w.heap.size from tab_pos hT)
  clear hK hP hT hkn
  go_enter Tryd.func3, Tryd.ntmps3
  go_upto_if 28 with fail
  go_cut [1] (fun s1 wx => w = wx ∧ ∃ (A' : Option Addr) (m c' : Nat), s1 = .slice A' m c' ∧ m ≤ 40 ∧ Aside0 (Kd.string.C w A' m (keys.take 40)))
  case first =>
    by_cases hn : 40 < n
    · have hn' : (40 : Int) < (n : Int) := by omega
      have h40 : (40 : Int) ≤ (c : Int) := by omega
      go_wp2_with fail
      go_meet
      refine ⟨rfl, A, 40, c, rfl, Nat.le_refl _, ⟨?_⟩⟩
      have hkn := HKN.out
      have h := HK.out
      rw [← hkn] at h
      have h2 := Kd.C_take (m := 40) h (by omega)
      have e : (keys.take 40).length = 40 := by rw [List.length_take]; omega
      rw [e] at h2
      exact h2
    · have hn' : ¬ (40 : Int) < (n : Int) := by omega
      go_wp2_with fail
      go_meet
      refine ⟨rfl, A, n, c, rfl, by omega, ⟨?_⟩⟩
      rw [List.take_of_length_le (by have := HKN.out; omega)]
      exact HK.out
  case rest =>
    obtain ⟨rfl, A', m, c', rfl, hm, HKS⟩ := hcut
    clear HK HKN hc
    generalize keys.take 40 = ks at *
    go_wp2_with fail
    refine (cells_any w.heap.size w (Nat.le_refl _)).mono ?_
    rintro e w1 ⟨rfl, har, hb⟩
    have HAR1 := Aside0.mk har
    have HB1 := Aside0.mk hb
    have HT1 := Aside0.mk (show TabAt 0 Lib.deBruijn64tab w1 from fun j hj => (hb.cell (p := ⟨0, j, none⟩) HZ.out).trans (HT.out j hj))
    clear har hb
    by_cases hbk : 1 ≤ b ∧ b ≤ 256
    case neg =>
      have hbad : b < 1 ∨ 256 < b := by omega
      have HBAD := Aside0.mk hbad
      clear hbk hbad
      go_wp2_with fail
      refine (new_bad w.heap.size b w1 HBAD.out).mono ?_
      rintro e w2 ⟨rfl, rfl⟩
      go_wp2_with fail
      refine (snew_any w.heap.size 0 w2 w.heap.size ar0 HAR1.out ar0_wf (by omega) HT1.out HZ.out).mono ?_
      rintro e w3 ⟨cs, a', bb, rfl, _, _, _, _, _, hf⟩
      have HF3 := Aside0.mk hf
      clear hf
      go_wp2_with fail
      all_goals
        go_ret
        exact ⟨ret_bool (by have := HBAD.out; first | (simp; omega) | simp), HB1.out.trans HF3.out.below⟩
    case pos =>
      obtain ⟨nb, rfl⟩ : ∃ nb : Nat, b = (nb : Int) := ⟨b.toNat, by omega⟩
      have hnb1 : 1 ≤ nb := by omega
      have hnb2 : nb ≤ 256 := by omega
      clear hbk
      go_wp2_with fail
      refine (new_any w.heap.size 0 nb w1 w.heap.size ar0 HAR1.out ar0_wf (by omega) hnb1 hnb2 HT1.out HZ.out).mono ?_
      rintro e w2 ⟨hs, a2, rfl, hhl, hht, har2, hwf2, hfr2, hf2⟩
      have HT2 := Aside0.mk (show TabAt 0 Lib.deBruijn64tab w2 from fun j hj => (hf2.below.cell (p := ⟨0, j, none⟩) HZ.out).trans (HT1.out j hj))
      have HHL := Aside0.mk hhl
      have HHT := Aside0.mk hht
      have HAR2 := Aside0.mk har2
      have HWF2 := Aside0.mk hwf2
      have HFR2 := Aside0.mk hfr2
      have HF2 := Aside0.mk hf2
      clear hhl hht har2 hwf2 hfr2 hf2
      go_wp2_with fail
      refine (snew_any w.heap.size (0 + nb) w2 w.heap.size a2 HAR2.out HWF2.out (by omega) HT2.out HZ.out).mono ?_
      rintro e w3 ⟨cs, a3, nb0, rfl, hcl, hli, har3, hwf3, hfr3, hf3⟩
      have HCL := Aside0.mk hcl
      have HLI := Aside0.mk hli
      have HAR3 := Aside0.mk har3
      have HWF3 := Aside0.mk hwf3
      have HFR3 := Aside0.mk hfr3
      have HF3 := Aside0.mk hf3
      clear hcl hli har3 hwf3 hfr3 hf3
      go_upto_region 11 with fail
      have HMI := Aside0.mk (show MI w.heap.size (w3.alloc (.cells #[.slice none 0 0, .slice none 0 0] 35)) w.heap.size w1.heap.size w2.heap.size (G0 a3 hs nb0 cs) w3.heap.size (fun _ => .slice none 0 0) (fun _ => []) from mi_start HZ.out HHT.out HLI.out HAR3.out HF3.out (by have := HB1.out.size; have := HF2.out.below.size; have := HF3.out.below.size; omega) HT2.out)
      have HGI := Aside0.mk (show GI ks (G0 a3 hs nb0 cs) (nb + 8) from GI0 ks HFR2.out HFR3.out HHL.out hnb1 hnb2 HCL.out (HWF3.out.mono (by omega)))
      have HBE := Aside0.mk (show Below w.heap.size w (w3.alloc (.cells #[.slice none 0 0, .slice none 0 0] 35)) from below_alloc (by exact (HB1.out.trans HF2.out.below).trans HF3.out.below) _)
      have HNB := Aside0.mk (show (G0 a3 hs nb0 cs).nb = nb from HHL.out)
      generalize (w3.alloc (.cells #[.slice none 0 0, .slice none 0 0] 35)) = w4 at *
      generalize w3.heap.size = po at *
      generalize G0 a3 hs nb0 cs = g0 at *
      generalize w1.heap.size = h at *
      generalize w2.heap.size = l at *
      clear HHL HHT HAR2 HWF2 HFR2 HF2 HT2 HCL HLI HAR3 HWF3 HFR3 HF3 HAR1 HB1 HT1
      go_wp2_with fail
      go_loopg [14] m (fun gk s14 wr => ∃ (i : Nat) (V : Nat → Value) (T : Nat → List TOp), s14 = .int .i64 i ∧ i ≤ m ∧ gk = m - i ∧ Aside0 (MI w.heap.size wr w.heap.size h l g0 po V T) ∧ Aside0 (BP ks T i) ∧ Aside0 (Below w.heap.size w wr))
      case atStart => exact ⟨0, _, _, rfl, by omega, rfl, HMI, ⟨BP.none ks⟩, HBE⟩
      case round =>
        clear HMI HBE
        obtain ⟨i, V, T, rfl, him, rfl, HMI, HBP, HBE⟩ := hrel
        have HKL := Aside0.mk (show ks.length = m from HKS.out.1)
        by_cases hin : i = m
        case pos =>
          subst hin
          have hlt : ¬ ((i : Int) < (i : Int)) := by omega
          go_upto_region 17 with fail
          have HKL' := Aside0.mk (show ks.length ≤ 40 by have := HKL.out; omega)
          have hbp := HBP.out
          rw [← HKL.out] at hbp
          have HLP := Aside0.mk (LP.start (nb := nb) HKL'.out HZ.out HMI.out hbp (by rw [HNB.out]; exact HGI.out) HNB.out)
          have HTM := Aside0.mk (Tm.start HKL'.out hbp)
          have HBE5 := Aside0.mk (below_alloc HBE.out (.cells #[.int .i64 0, .int .i64 0] 42))
          clear hbp HMI HGI
          generalize wr.alloc (.cells #[.int .i64 0, .int .i64 0] 42) = w5 at *
          generalize wr.heap.size = pa at *
          have HLEN := Aside0.mk (show ∀ j, j < 2 → ((fun j => prs (T j)) j).length ≤ 200 from fun j hj => by
            have h1 := HBP.out.len
            have h3 : j = 0 ∨ j = 1 := by omega
            simp only [prs, List.length_map]
            rcases h3 with rfl | rfl <;> omega)
          generalize (fun j => prs (T j)) = L at *
          generalize g0.nb + 8 = k0 at *
          generalize (fun _ : Nat => 620) = p0 at *
          generalize (fun _ : Nat => 0) = at0 at *
          go_wp2_with fail
          go_loopg [16] 2000001 (fun gk s16 wx => ∃ (q : Nat) (g : G) (k : Nat) (R : Nat → List TOp) (p at_ : Nat → Nat), s16 = .int .i64 q ∧ Aside0 (gk + q = 2000001) ∧ Aside0 (LP ks w.heap.size wx w.heap.size h l po pa V L nb g k R p at_) ∧ Aside0 (Tm q R (phi R p)) ∧ Aside0 (Below w.heap.size w wx))
          case atStart => exact ⟨0, g0, k0, T, p0, at0, rfl, ⟨rfl⟩, HLP, HTM, HBE5⟩
          case round =>
            clear HLP HTM HBE5 HBE HBP HNB
            obtain ⟨q, g, k, R, p, at_, rfl, HGK, HLP, HTM, HBE⟩ := hrel
            have hq2 : (q : Int) < 2000000 := by have := HTM.out.lt; omega
            have q0 : (0 : Int) ≤ (q : Int) := by omega
            have hmodq : (q : Int).tmod 2 = ((q % 2 : Nat) : Int) := by rw [Int.tmod_eq_emod_of_nonneg (by omega)]; omega
            go_upto_region 21 with fail
            go_cut [125] (fun s125 wx => wr = wx ∧ ∃ bb : Bool, s125 = .bool bb ∧ (bb = true ↔ q < n2 ∧ q < 10000))
            case first =>
              by_cases c1 : q < n2
              case neg =>
                have c1' : ¬ (q : Int) < (n2 : Int) := by omega
                go_wp2_with fail
                go_meet
                exact ⟨rfl, false, rfl, by simp [c1]⟩
              case pos =>
                have c1' : (q : Int) < (n2 : Int) := by omega
                by_cases c2 : q < 10000
                case neg =>
                  have c2' : ¬ (q : Int) < 10000 := by omega
                  go_wp2_with fail
                  go_meet
                  exact ⟨rfl, false, rfl, by simp [c2]⟩
                case pos =>
                  have c2' : (q : Int) < 10000 := by omega
                  go_wp2_with fail
                  go_meet
                  exact ⟨rfl, true, rfl, by simp [c1, c2]⟩
            case rest =>
            obtain ⟨rfl, bb, rfl, hbb⟩ := hcut
            have HBB := Aside0.mk hbb
            clear hbb
            go_upto_if 125 with fail
            go_cut [17] (fun s17 wx => wr = wx ∧ ∃ j : Nat, s17 = .int .i64 j ∧ j < 2 ∧ (10000 ≤ q → j = q % 2))
            case first =>
              cases bb with
              | false =>
                go_wp2_with fail
                go_meet
                exact ⟨rfl, q % 2, rfl, by omega, fun _ => rfl⟩
              | true =>
                have hbb := HBB.out.1 rfl
                have c1' : (q : Int) < (n2 : Int) := by omega
                obtain ⟨adp, rfl, hpc⟩ := Kd.at_int HP.out (q : Int) (by omega) c1'
                rw [Int.toNat_natCast] at hpc
                have pc := (HBE.out.cell (cell_lt' hpc)).trans hpc
                have HQ := Aside0.mk hbb
                clear hbb
                generalize rd picks (q : Int) = xp at *
                go_wp2_with fail
                go_meet
                obtain ⟨j, hj1, hj2⟩ := pick2 xp
                exact ⟨rfl, j, by rw [hj1], hj2, fun h10 => by have := HQ.out; omega⟩
            case rest =>
              obtain ⟨rfl, j, rfl, j2, hjq⟩ := hcut
              have HJQ := Aside0.mk hjq
              clear hjq HBB
              have j0 : (0 : Int) ≤ (j : Int) := by omega
              have j1 : (j : Int) < 2 := by omega
              have ca := HLP.out.ats.cell j j2
              obtain ⟨Aj, cj, eV, cv⟩ := HLP.out.rows.cell j j2
              have HEV := Aside0.mk eV
              clear eV
              go_wp2_with fail
              go_quiet (fail)
              have HLP1 := Aside0.mk (HLP.out.drewN HZ.out nq)
              have HBE1 := Aside0.mk (HBE.out.trans (pw_below_drewN (Below.refl _ _) nq))
              clear ca cv
              go_upto_if 140 with fail
              generalize wr.drewN nq = wr1 at *
              go_cut [18] (fun s18 wx => ∃ (g1 : G) (k1 : Nat) (R1 : Nat → List TOp) (p1 at1 : Nat → Nat), Aside0 (LP ks w.heap.size wx w.heap.size h l po pa V L nb g1 k1 R1 p1 at1) ∧ Aside0 (phi R1 p1 + 1 ≤ phi R p ∨ (phi R1 p1 ≤ phi R p ∧ R j = [] ∧ R1 = R)) ∧ Aside0 (Below w.heap.size w wx))
              case first =>
                by_cases hlt : at_ j < (L j).length
                case neg =>
                  have HNIL := Aside0.mk ((HLP1.out.nil_iff j j2).2 (by have := HLP1.out.atl j j2; omega))
                  rw [show decide (at_ j < (L j).length) = false from decide_eq_false hlt]
                  clear hlt
                  go_wp2_with fail
                  go_meet
                  exact ⟨g, k, R, p, at_, HLP1, ⟨Or.inr ⟨Nat.le_refl _, HNIL.out, rfl⟩⟩, HBE1⟩
                case pos =>
                  as_aux_lemma =>
                  obtain ⟨x, rest, hR, hx, hd, ho⟩ := HLP1.out.head j j2 hlt
                  have ca := HLP1.out.ats.cell j j2
                  obtain ⟨Z, cz, eV2, hcz, z0, z1⟩ := HLP1.out.rows.elem j j2 (at_ j) hlt
                  have cv := HLP1.out.rows.blk.cell j j2
                  rw [eV2] at cv
                  rw [hx] at z0 z1
                  have HR_ := Aside0.mk hR
                  have HX_ := Aside0.mk hx
                  have HD_ := Aside0.mk hd
                  have HO_ := Aside0.mk (ho.below (below_drew (Below.refl _ _)))
                  have HLPd := Aside0.mk (HLP1.out.drew HZ.out)
                  have HCZ := Aside0.mk hcz
                  clear hR hx hd ho eV2 hcz
                  have a0 : (0 : Int) ≤ (at_ j : Int) := by omega
                  have a1 : (at_ j : Int) < ((L j).length : Int) := by omega
                  have HLT := Aside0.mk hlt
                  have HOI_ := Aside0.mk (show OI ks g x (p j) from by
                    have h2 : j = 0 ∨ j = 1 := by omega
                    have hR := HR_.out
                    rcases h2 with rfl | rfl
                    · have h3 := HLP1.out.ti.i0
                      rw [hR] at h3
                      exact h3.1
                    · have h3 := HLP1.out.ti.i1
                      rw [hR] at h3
                      exact h3.1)
                  have HCALL := Aside0.mk (tstep HKL'.out HZ.out HLPd.out.ti.wr HO_.out HLPd.out.ti.gi (by have := HLPd.out.ti.bud; omega) HOI_.out)
                  rw [show decide (at_ j < (L j).length) = true from decide_eq_true hlt]
                  clear HX_
                  clear hlt
                  go_upto_region 24 with fail
                  refine start_ (n := 10) (ds := [8]) (S := fun w' => w'.cell? ⟨pa, j, none⟩ = some (.int .i64 (at_ j)) ∧ w'.cell? ⟨po, j, none⟩ = some (.slice (some ⟨Z, 0, none⟩) (L j).length cz) ∧ w'.cell? ⟨Z, at_ j * 2, none⟩ = some (encO x.pr.1) ∧ w'.cell? ⟨Z, at_ j * 2 + 1, none⟩ = some (encO x.pr.2)) #[false, false, false, false, false, false, false, false, false, false] (by kernel_rfl) rfl rfl ⟨ca, cv, z0, z1⟩ (fun hHeld => ?_)
                  refine take_ (i := 0) (N := (some 141)) (v := ?_) (a' := ?_) #[true, false, false, false, false, false, false, false, false, false] rfl rfl (by kernel_rfl) (fun _ _ _ h => h) (Or.inl ⟨by rfl, ?_⟩) hHeld ?_ ?_
                  rotate_left
                  · rintro w' ⟨s0, s1, s2, s3⟩
                    go_simp
                    with_reducible rfl
                  rotate_left
                  · simp only [Act.put, List.setIfInBounds_toArray, List.set_cons_zero, List.set_cons_succ]
                    rfl
                  refine take_ (i := 1) (N := (some 142)) (v := ?_) (a' := ?_) #[true, true, false, false, false, false, false, false, false, false] rfl rfl (by kernel_rfl) (fun _ _ _ h => h) (Or.inl ⟨by rfl, ?_⟩) hHeld ?_ ?_
                  rotate_left
                  · rintro w' ⟨s0, s1, s2, s3⟩
                    go_simp
                    with_reducible rfl
                  rotate_left
                  · simp only [Act.put, List.setIfInBounds_toArray, List.set_cons_zero, List.set_cons_succ]
                    rfl
                  refine take_ (i := 2) (N := (some 143)) (v := ?_) (a' := ?_) #[true, true, true, false, false, false, false, false, false, false] rfl rfl (by kernel_rfl) (fun _ _ _ h => h) (Or.inl ⟨by rfl, ?_⟩) hHeld ?_ ?_
                  rotate_left
                  · rintro w' ⟨s0, s1, s2, s3⟩
                    go_simp
                    with_reducible rfl
                  rotate_left
                  · simp only [Act.put, List.setIfInBounds_toArray, List.set_cons_zero, List.set_cons_succ]
                    rfl
                  refine take_ (i := 3) (N := (some 144)) (v := ?_) (a' := ?_) #[true, true, true, true, false, false, false, false, false, false] rfl rfl (by kernel_rfl) (fun _ _ _ h => h) (Or.inl ⟨by rfl, ?_⟩) hHeld ?_ ?_
                  rotate_left
                  · rintro w' ⟨s0, s1, s2, s3⟩
                    go_simp
                    with_reducible rfl
                  rotate_left
                  · simp only [Act.put, List.setIfInBounds_toArray, List.set_cons_zero, List.set_cons_succ]
                    rfl
                  refine take_ (i := 4) (N := (some 145)) (v := ?_) (a' := ?_) #[true, true, true, true, true, false, false, false, false, false] rfl rfl (by kernel_rfl) (fun _ _ _ h => h) (Or.inl ⟨by rfl, ?_⟩) hHeld ?_ ?_
                  rotate_left
                  · rintro w' ⟨s0, s1, s2, s3⟩
                    go_simp
                    with_reducible rfl
                  rotate_left
                  · simp only [Act.put, List.setIfInBounds_toArray, List.set_cons_zero, List.set_cons_succ]
                    rfl
                  refine take_ (i := 5) (N := (some 146)) (v := ?_) (a' := ?_) #[true, true, true, true, true, true, false, false, false, false] rfl rfl (by kernel_rfl) (fun _ _ _ h => h) (Or.inl ⟨by rfl, ?_⟩) hHeld ?_ ?_
                  rotate_left
                  · rintro w' ⟨s0, s1, s2, s3⟩
                    go_simp
                    with_reducible rfl
                  rotate_left
                  · simp only [Act.put, List.setIfInBounds_toArray, List.set_cons_zero, List.set_cons_succ]
                    rfl
                  refine take_ (i := 6) (N := (some 147)) (v := ?_) (a' := ?_) #[true, true, true, true, true, true, true, false, false, false] rfl rfl (by kernel_rfl) (fun _ _ _ h => h) (Or.inl ⟨by rfl, ?_⟩) hHeld ?_ ?_
                  rotate_left
                  · rintro w' ⟨s0, s1, s2, s3⟩
                    go_simp
                    with_reducible rfl
                  rotate_left
                  · simp only [Act.put, List.setIfInBounds_toArray, List.set_cons_zero, List.set_cons_succ]
                    rfl
                  refine take_ (i := 7) (N := (some 148)) (v := ?_) (a' := ?_) #[true, true, true, true, true, true, true, true, false, false] rfl rfl (by kernel_rfl) (fun _ _ _ h => h) (Or.inl ⟨by rfl, ?_⟩) hHeld ?_ ?_
                  rotate_left
                  · rintro w' ⟨s0, s1, s2, s3⟩
                    go_simp
                    with_reducible rfl
                  rotate_left
                  · simp only [Act.put, List.setIfInBounds_toArray, List.set_cons_zero, List.set_cons_succ]
                    rfl
                  refine last_ (i := 8) (N := (some 149)) #[true, true, true, true, true, true, true, true, true, false] rfl rfl (by kernel_rfl) (by decide) (fun K hK => ?_)
                  go_simp
                  have hcall := HCALL.out
                  rw [TOp.cells_eq] at hcall
                  go_at_call 9
                  refine hcall.mono ?_
                  rintro e w8 ⟨r, rfl, hpo⟩
                  have HPO := Aside0.mk hpo
                  clear hpo hcall
                  dsimp only
                  refine hK.out _ _ ?_
                  clear hK K
                  refine pure_ (i := 9) (N := (some 18)) (v := ?_) (a' := ?_) #[true, true, true, true, true, true, true, true, true, true] rfl rfl (by kernel_rfl) (fun _ _ _ h => h) (Or.inl ⟨by rfl, ?_⟩) ?_ ?_
                  rotate_left
                  · intro w'
                    go_simp
                    with_reducible rfl
                  rotate_left
                  · simp only [Act.put, List.setIfInBounds_toArray, List.set_cons_zero, List.set_cons_succ]
                    rfl
                  refine done_ (by kernel_rfl) ?_
                  clear ca cv z0 z1
                  cases r with
                  | false =>
                    go_wp2_with fail
                    go_meet
                    obtain ⟨g', k', R', p', h1, h2⟩ := HLPd.out.step_no j j2 HR_.out HO_.out HPO.out
                    exact ⟨g', k', R', p', at_, ⟨h1⟩, ⟨Or.inl h2⟩, ⟨(below_drew HBE1.out).trans (Post_below HPO.out)⟩⟩
                  | true =>
                    obtain ⟨g', k', R', p', h1, h2, h3, h4, h5⟩ := HLPd.out.step_yes HZ.out j j2 HR_.out HO_.out HLT.out HD_.out HPO.out
                    have HL1 := Aside0.mk h1
                    have HL2 := Aside0.mk h2
                    have HL5 := Aside0.mk h5
                    clear h1 h2 h5
                    have ww : wrap64 ((at_ j : Int) + 1) = ((at_ j + 1 : Nat) : Int) := by
                      have := HLP1.out.atl j j2
                      have := HLEN.out j j2
                      unfold wrap64
                      omega
                    go_wp2_with fail
                    go_meet
                    exact ⟨g', k', R', p', _, HL1, ⟨Or.inl HL2.out⟩, ⟨((below_drew HBE1.out).trans HL5.out).setCell (p := ⟨pa, j, none⟩) HLPd.out.age _⟩⟩
              case rest =>
                obtain ⟨g1, k1, R1, p1, at1, HLP2, HPH, HBE2⟩ := hcut
                clear HLP HBE HLP1 HBE1 HEV
                have ca0 := HLP2.out.ats.cell 0 (by omega)
                have ca1 := HLP2.out.ats.cell 1 (by omega)
                obtain ⟨A0, c0, _, cv0⟩ := HLP2.out.rows.cell 0 (by omega)
                obtain ⟨A1, c1, _, cv1⟩ := HLP2.out.rows.cell 1 (by omega)
                go_upto_region 27 with fail
                go_cut [169] (fun s169 wx => wc = wx ∧ ∃ bb : Bool, s169 = .bool bb ∧ (bb = true ↔ R1 0 = [] ∧ R1 1 = []))
                case first =>
                  by_cases e0 : at1 0 = (L 0).length
                  case pos =>
                    have HE0 := Aside0.mk ((HLP2.out.nil_iff 0 (by omega)).2 e0)
                    by_cases e1 : at1 1 = (L 1).length
                    case pos =>
                      have HE1 := Aside0.mk ((HLP2.out.nil_iff 1 (by omega)).2 e1)
                      rw [e0] at ca0
                      rw [e1] at ca1
                      clear e0 e1
                      go_wp2_with fail
                      go_meet
                      exact ⟨rfl, true, by simp, by simp [HE0.out, HE1.out]⟩
                    case neg =>
                      have HE1 := Aside0.mk (fun h => e1 ((HLP2.out.nil_iff 1 (by omega)).1 h))
                      rw [e0] at ca0
                      have b1 : (((at1 1 : Nat) : Int) == (((L 1).length : Nat) : Int)) = false := by rw [beq_eq_false_iff_ne]; omega
                      have b1' : (at1 1 == (L 1).length) = false := by rw [beq_eq_false_iff_ne]; omega
                      clear e0
                      go_wp2_with fail
                      go_meet
                      exact ⟨rfl, false, rfl, (fun h => by cases h), fun h => absurd h.2 HE1.out⟩
                  case neg =>
                    have HE0 := Aside0.mk (fun h => e0 ((HLP2.out.nil_iff 0 (by omega)).1 h))
                    have b1 : (((at1 0 : Nat) : Int) == (((L 0).length : Nat) : Int)) = false := by rw [beq_eq_false_iff_ne]; omega
                    have b1' : (at1 0 == (L 0).length) = false := by rw [beq_eq_false_iff_ne]; omega
                    go_wp2_with fail
                    go_meet
                    exact ⟨rfl, false, rfl, (fun h => by cases h), fun h => absurd h.1 HE0.out⟩
                case rest =>
                  obtain ⟨rfl, bb, rfl, hbb⟩ := hcut
                  have HBB := Aside0.mk hbb
                  clear hbb
                  cases bb with
                  | false =>
                    have hwq : wrap64 ((q : Int) + 1) = (q : Int) + 1 := by unfold wrap64; omega
                    go_wp2_with fail
                    go_roundg (2000001 - (q + 1))
                    case measure => have := HGK.out; omega
                    case rel =>
                      refine ⟨q + 1, g1, k1, R1, p1, at1, by go_num, ⟨by omega⟩, HLP2, ⟨HTM.out.next HJQ.out HPH.out ?_⟩, HBE2⟩
                      have := HBB.out
                      simp at this
                      by_cases h0 : R1 0 = []
                      · exact Or.inr (this h0)
                      · exact Or.inl h0
                  | true =>
                    have hboth := HBB.out.1 rfl
                    have HBOTH := Aside0.mk hboth
                    clear hboth
                    as_aux_lemma =>
                    have HF := Aside0.mk (all_in HLP2.out.ti HBOTH.out)
                    have HGI := Aside0.mk HLP2.out.ti.gi
                    have HB1 := Aside0.mk (show k1 < 1000 + g1.nb by have := HLP2.out.ti.bud; omega)
                    have HC10 := Aside0.mk (keys_of HKL'.out HLP2.out.ti.wr HLP2.out.ti.gi HF.out HB1.out)
                    go_wp2_with fail
                    refine HC10.out.mono ?_
                    rintro e w9 ⟨v1, rfl, hr9, har9, hf9⟩
                    obtain ⟨A9, c9, rfl⟩ := Kd.R_slice hr9
                    have HR9 := Aside0.mk hr9
                    have HWR9 := Aside0.mk (HLP2.out.ti.wr.arT HZ.out har9 hf9)
                    have HF9 := Aside0.mk hf9
                    have HBE9 := Aside0.mk (HBE2.out.trans hf9.below)
                    clear hr9 har9 hf9 HC10
                    have HC11 := Aside0.mk (skeys_of HKL'.out HWR9.out HLP2.out.ti.gi HB1.out)
                    go_wp2_with fail
                    refine HC11.out.mono ?_
                    rintro e w10 ⟨v2, rfl, hr10, har10, hf10⟩
                    obtain ⟨A10, c10, rfl⟩ := Kd.R_slice hr10
                    have HR10 := Aside0.mk hr10
                    have HR9' := Aside0.mk (hf10.R_lives HR9.out (by simp [TA, Kd.string, Kd.scalar]))
                    have HFx := Aside0.mk (HF9.out.trans hf10)
                    have HBE10 := Aside0.mk (HBE9.out.trans hf10.below)
                    clear hr10 har10 hf10 HC11
                    have ca0 := (HLP2.out.ats.fr HFx.out (by simp [TA])).cell 0 (by omega)
                    have ca1 := (HLP2.out.ats.fr HFx.out (by simp [TA])).cell 1 (by omega)
                    obtain ⟨A0, c0, _, cv0⟩ := (HLP2.out.rows.fr HFx.out (by simp [TA]) (by simp [TA])).cell 0 (by omega)
                    obtain ⟨A1, c1, _, cv1⟩ := (HLP2.out.rows.fr HFx.out (by simp [TA]) (by simp [TA])).cell 1 (by omega)
                    rw [(HLP2.out.nil_iff 0 (by omega)).1 HBOTH.out.1] at ca0
                    rw [(HLP2.out.nil_iff 1 (by omega)).1 HBOTH.out.2] at ca1
                    have HKA := Aside0.mk (fun x => in_both HGI.out (fun key h1 h2 => (HF.out key h1 h2).1) (fun key h1 h2 => (HF.out key h1 h2).2) x)
                    have HKLEN := Aside0.mk (show (nkeys g1.ns (g1.lst 0)).length ≤ 40 by have := lst_len HGI.out HKL'.out; simp only [nkeys, List.length_map]; omega)
                    generalize nkeys g1.ns (g1.lst 0) = K at *
                    go_upto_region 32 with fail
                    have HC9 := Aside0.mk ((Kd.R_reads' HR9'.out).2.2)
                    have HC10 := Aside0.mk ((Kd.R_reads' HR10.out).2.2)
                    have HKC := Aside0.mk (H.C_below HKS.out HBE10.out)
                    clear HR9 HR9' HR10 HWR9 HF9 HFx HBE9 ca0 ca1 cv0 cv1 HLP2 HPH HBE2 HTM HJQ HGK HBB HBOTH HF HGI HB1
                    go_wp2_with fail
                    go_loopg [21] K.length (fun gk s21 wx => ∃ q t : Nat, s21 = .int .i64 q ∧ wx = w10.drewN t ∧ q ≤ K.length ∧ Aside0 (gk + q = K.length))
                    case atStart => exact ⟨0, 0, rfl, rfl, Nat.zero_le _, ⟨rfl⟩⟩
                    case round =>
                      obtain ⟨q3, t3, rfl, rfl, hq3, HGK⟩ := hrel
                      by_cases hin : q3 = K.length
                      case pos =>
                        subst hin
                        have hlt : ¬ ((K.length : Int) < (K.length : Int)) := by omega
                        clear HC10
                        go_wp2_with fail
                        go_loopg [22] i (fun gk s22 wx => ∃ q t : Nat, s22 = .int .i64 q ∧ wx = w10.drewN t ∧ q ≤ i ∧ Aside0 (gk + q = i))
                        case atStart => exact ⟨0, t3, rfl, rfl, Nat.zero_le _, ⟨Nat.add_zero _⟩⟩
                        case round =>
                          obtain ⟨q4, t4, rfl, rfl, hq4, HGK⟩ := hrel
                          by_cases hin : q4 = i
                          case pos =>
                            subst hin
                            have hlt : ¬ ((q4 : Int) < (q4 : Int)) := by omega
                            go_wp2_with fail
                            go_ret
                            exact ⟨rfl, HBE10.out.trans (pw_below_drewN (Below.refl _ _) t4)⟩
                          case neg =>
                            have hlt : (q4 : Int) < (i : Int) := by omega
                            have HI := Aside0.mk (show q4 < ks.length by have := HKL.out; omega)
                            obtain ⟨adk, rfl, kk0⟩ := Kd.at_string HKC.out (q4 : Int) (by omega) hlt
                            have ek : rdOf ByteArray.empty ks (q4 : Int) = ks[q4]'HI.out := by
                              have := HI.out
                              simp [rdOf, this]
                            rw [ek, Int.toNat_natCast] at kk0
                            have HKI := Aside0.mk (List.getElem_mem HI.out)
                            generalize ks[q4]'HI.out = key at *
                            have KK := Aside0.mk (show ∀ t, (w10.drewN t).cell? (adk.add q4) = some (.string key) from fun t => kk0)
                            clear ek kk0
                            have kc := KK.out t4
                            have q0 : (0 : Int) ≤ (q4 : Int) := by omega
                            have HIS := Aside0.mk (rIsKey_any key (w10.drewN t4))
                            go_wp2_with fail
                            refine HIS.out.mono ?_
                            rintro e wx ⟨rfl, rfl⟩
                            clear HIS kc
                            go_wp2_with fail
                            go_loopg [24, 25] K.length (fun gk s24 s25 wx => ∃ (r t : Nat) (bb : Bool), s24 = .bool bb ∧ s25 = .int .i64 r ∧ wx = w10.drewN t ∧ r ≤ K.length ∧ Aside0 (gk + r = K.length) ∧ Aside0 (bb = true ↔ key ∈ K.take r))
                            case atStart => exact ⟨0, t4, false, rfl, rfl, rfl, Nat.zero_le _, ⟨Nat.add_zero _⟩, ⟨by simp⟩⟩
                            case round =>
                              obtain ⟨r5, t5, bb, rfl, rfl, rfl, hr5, HGK5, HAM⟩ := hrel
                              by_cases hin5 : r5 = K.length
                              case pos =>
                                subst hin5
                                have hlt : ¬ ((K.length : Int) < (K.length : Int)) := by omega
                                obtain rfl : bb = isKeyB key := by
                                  have h1 := HAM.out
                                  rw [List.take_length] at h1
                                  have h2 := (HKA.out key).2
                                  have h3 := HKI.out
                                  rw [Bool.eq_iff_iff, h1, h2]
                                  exact ⟨fun h => h.2, fun h => ⟨h3, h⟩⟩
                                go_wp2_with fail
                                go_roundg (i - (q4 + 1))
                                case measure => have := HGK.out; omega
                                case rel => exact ⟨q4 + 1, t5, by go_num, rfl, by omega, ⟨by omega⟩⟩
                              case neg =>
                                have hlt : (r5 : Int) < (K.length : Int) := by omega
                                have HR5 := Aside0.mk (show r5 < K.length by omega)
                                obtain ⟨ad9, rfl, k9⟩ := Kd.at_string HC9.out (r5 : Int) (by omega) hlt
                                have ek : rdOf ByteArray.empty K (r5 : Int) = K[r5]'HR5.out := by
                                  have := HR5.out
                                  simp [rdOf, this]
                                rw [ek, Int.toNat_natCast] at k9
                                have HTK := Aside0.mk (show key ∈ K.take (r5 + 1) ↔ (key ∈ K.take r5 ∨ K[r5]'HR5.out = key) by
                                  rw [List.take_succ_eq_append_getElem HR5.out, List.mem_append, List.mem_singleton]
                                  exact ⟨fun h => h.imp id Eq.symm, fun h => h.imp id Eq.symm⟩)
                                generalize K[r5]'HR5.out = kk at *
                                have d9 : (w10.drewN t5).cell? (ad9.add r5) = some (.string kk) := k9
                                have dk := KK.out t5
                                have r0 : (0 : Int) ≤ (r5 : Int) := by omega
                                have hwr : wrap64 ((r5 : Int) + 1) = (r5 : Int) + 1 := by unfold wrap64; have := HKL'.out; have := HKLEN.out; omega
                                have kk5 : w10.cell? (adk.add q4) = some (.string key) := dk
                                clear ek
                                cases bb with
                                | true =>
                                  go_wp2_with fail
                                  go_quiet (fail)
                                  go_wp2_with fail
                                  go_roundg (K.length - (r5 + 1))
                                  case measure => have := HGK5.out; omega
                                  case rel => exact ⟨r5 + 1, t5 + nq, true, rfl, by go_num, rfl, by omega, ⟨by omega⟩, ⟨by rw [HTK.out]; exact ⟨fun _ => Or.inl (by simpa using HAM.out), fun _ => rfl⟩⟩⟩
                                | false =>
                                  go_wp2_with fail
                                  go_quiet (fail)
                                  go_wp2_with fail
                                  go_roundg (K.length - (r5 + 1))
                                  case measure => have := HGK5.out; omega
                                  case rel => exact ⟨r5 + 1, t5 + nq, _, rfl, by go_num, rfl, by omega, ⟨by omega⟩, ⟨by
                                    rw [HTK.out]
                                    have h0 : ¬ key ∈ K.take r5 := fun h => by have := HAM.out.2 h; cases this
                                    by_cases e : kk = key
                                    · subst e; simp
                                    · have h1 := toList_ne e
                                      simp [h1, h0, e]⟩⟩
                      case neg =>
                        have hlt : (q3 : Int) < (K.length : Int) := by omega
                        obtain ⟨ad9, rfl, k9⟩ := Kd.at_string HC9.out (q3 : Int) (by omega) hlt
                        obtain ⟨ad10, rfl, k10⟩ := Kd.at_string HC10.out (q3 : Int) (by omega) hlt
                        rw [Int.toNat_natCast] at k9 k10
                        generalize rdOf ByteArray.empty K (q3 : Int) = kk at *
                        have d9 : (w10.drewN t3).cell? (ad9.add q3) = some (.string kk) := k9
                        have d10 : (w10.drewN t3).cell? (ad10.add q3) = some (.string kk) := k10
                        have q0 : (0 : Int) ≤ (q3 : Int) := by omega
                        have hwq : wrap64 ((q3 : Int) + 1) = (q3 : Int) + 1 := by unfold wrap64; have := HKL'.out; have := HKLEN.out; omega
                        go_wp2_with fail
                        go_quiet (fail)
                        go_wp2_with fail
                        go_roundg (K.length - (q3 + 1))
                        case measure => have := HGK.out; omega
                        case rel => exact ⟨q3 + 1, t3 + nq, by go_num, rfl, by omega, ⟨by omega⟩⟩
        case neg =>
          as_aux_lemma =>
          have hlt : (i : Int) < (m : Int) := by omega
          have HI := Aside0.mk (show i < ks.length by have := HKL.out; omega)
          obtain ⟨ad, rfl, hkc⟩ := Kd.at_string HKS.out (i : Int) (by omega) hlt
          have ek : rdOf ByteArray.empty ks (i : Int) = ks[i]'HI.out := by
            have := HI.out
            simp [rdOf, this]
          rw [ek, Int.toNat_natCast] at hkc
          have HKC := Aside0.mk (show ∀ W, Below w.heap.size w W → W.cell? (ad.add i) = some (.string (ks[i]'HI.out)) from fun W hb => (hb.cell (cell_lt' hkc)).trans hkc)
          clear ek hkc
          have kc := HKC.out wr HBE.out
          have hmod : (i : Int).tmod 2 = ((i % 2 : Nat) : Int) := by rw [Int.tmod_eq_emod_of_nonneg (by omega)]; omega
          have hmod9 : (i : Int).tmod 9 = ((i % 9 : Nat) : Int) := by rw [Int.tmod_eq_emod_of_nonneg (by omega)]; omega
          have j0 : (0 : Int) ≤ ((i % 2 : Nat) : Int) := by omega
          have j1 : ((i % 2 : Nat) : Int) < 2 := by omega
          have j2 : i % 2 < 2 := by omega
          have i0 : (0 : Int) ≤ (i : Int) := by omega
          generalize hjj : i % 2 = j at *
          have HJ := Aside0.mk hjj
          clear hjj
          obtain ⟨Aj, cj, eV, cv⟩ := HMI.out.rows.cell j j2
          have HLB := Aside0.mk (show (prs (T j)).length ≤ 200 by
            have h1 := HBP.out.len
            have : (T j).length ≤ 3 * i := by
              have : j = 0 ∨ j = 1 := by omega
              rcases this with rfl | rfl <;> omega
            simp only [prs, List.length_map]
            omega)
          have HEV := Aside0.mk eV
          clear eV
          go_upto_region 14 with fail
          refine start_ (n := 28) (ds := [27]) (S := fun w' => w'.cell? ⟨po, j, none⟩ = some (.slice Aj (prs (T j)).length cj) ∧ w'.cell? (ad.add i) = some (.string (ks[i]'HI.out))) #[false, false, false, false, false, false, false, false, false, false, false, false, false, false, false, false, false, false, false, false, false, false, false, false, false, false, false, false] (by kernel_rfl) rfl rfl ⟨cv, kc⟩ (fun hHeld => ?_)
          refine take_ (i := 0) (N := (some 66)) (v := ?_) (a' := ?_) #[true, false, false, false, false, false, false, false, false, false, false, false, false, false, false, false, false, false, false, false, false, false, false, false, false, false, false, false] rfl rfl (by kernel_rfl) (fun _ _ _ h => h) (Or.inl ⟨by rfl, ?_⟩) hHeld ?_ ?_
          rotate_left
          · rintro w' ⟨s0, s1⟩
            go_simp
            with_reducible rfl
          rotate_left
          · simp only [Act.put, List.setIfInBounds_toArray, List.set_cons_zero, List.set_cons_succ]
            rfl
          refine take_ (i := 1) (N := (some 67)) (v := ?_) (a' := ?_) #[true, true, false, false, false, false, false, false, false, false, false, false, false, false, false, false, false, false, false, false, false, false, false, false, false, false, false, false] rfl rfl (by kernel_rfl) (fun _ _ _ h => h) (Or.inl ⟨by rfl, ?_⟩) hHeld ?_ ?_
          rotate_left
          · rintro w' ⟨s0, s1⟩
            go_simp
            with_reducible rfl
          rotate_left
          · simp only [Act.put, List.setIfInBounds_toArray, List.set_cons_zero, List.set_cons_succ]
            rfl
          refine take_ (i := 2) (N := (some 68)) (v := ?_) (a' := ?_) #[true, true, true, false, false, false, false, false, false, false, false, false, false, false, false, false, false, false, false, false, false, false, false, false, false, false, false, false] rfl rfl (by kernel_rfl) (fun _ _ _ h => h) (Or.inl ⟨by rfl, ?_⟩) hHeld ?_ ?_
          rotate_left
          · rintro w' ⟨s0, s1⟩
            go_simp
            with_reducible rfl
          rotate_left
          · simp only [Act.put, List.setIfInBounds_toArray, List.set_cons_zero, List.set_cons_succ]
            rfl
          refine take_ (i := 3) (N := (some 69)) (v := ?_) (a' := ?_) #[true, true, true, true, false, false, false, false, false, false, false, false, false, false, false, false, false, false, false, false, false, false, false, false, false, false, false, false] rfl rfl (by kernel_rfl) (fun _ _ _ h => h) (Or.inl ⟨by rfl, ?_⟩) hHeld ?_ ?_
          rotate_left
          · rintro w' ⟨s0, s1⟩
            go_simp
            with_reducible rfl
          rotate_left
          · simp only [Act.put, List.setIfInBounds_toArray, List.set_cons_zero, List.set_cons_succ]
            rfl
          refine take_ (i := 4) (N := (some 70)) (v := ?_) (a' := ?_) #[true, true, true, true, true, false, false, false, false, false, false, false, false, false, false, false, false, false, false, false, false, false, false, false, false, false, false, false] rfl rfl (by kernel_rfl) (fun _ _ _ h => h) (Or.inl ⟨by rfl, ?_⟩) hHeld ?_ ?_
          rotate_left
          · rintro w' ⟨s0, s1⟩
            go_simp
            with_reducible rfl
          rotate_left
          · simp only [Act.put, List.setIfInBounds_toArray, List.set_cons_zero, List.set_cons_succ]
            rfl
          refine take_ (i := 5) (N := (some 71)) (v := ?_) (a' := ?_) #[true, true, true, true, true, true, false, false, false, false, false, false, false, false, false, false, false, false, false, false, false, false, false, false, false, false, false, false] rfl rfl (by kernel_rfl) (fun _ _ _ h => h) (Or.inl ⟨by rfl, ?_⟩) hHeld ?_ ?_
          rotate_left
          · rintro w' ⟨s0, s1⟩
            go_simp
            with_reducible rfl
          rotate_left
          · simp only [Act.put, List.setIfInBounds_toArray, List.set_cons_zero, List.set_cons_succ]
            rfl
          refine take_ (i := 6) (N := (some 72)) (v := ?_) (a' := ?_) #[true, true, true, true, true, true, true, false, false, false, false, false, false, false, false, false, false, false, false, false, false, false, false, false, false, false, false, false] rfl rfl (by kernel_rfl) (fun _ _ _ h => h) (Or.inl ⟨by rfl, ?_⟩) hHeld ?_ ?_
          rotate_left
          · rintro w' ⟨s0, s1⟩
            go_simp
            with_reducible rfl
          rotate_left
          · simp only [Act.put, List.setIfInBounds_toArray, List.set_cons_zero, List.set_cons_succ]
            rfl
          refine take_ (i := 7) (N := (some 73)) (v := ?_) (a' := ?_) #[true, true, true, true, true, true, true, true, false, false, false, false, false, false, false, false, false, false, false, false, false, false, false, false, false, false, false, false] rfl rfl (by kernel_rfl) (fun _ _ _ h => h) (Or.inl ⟨by rfl, ?_⟩) hHeld ?_ ?_
          rotate_left
          · rintro w' ⟨s0, s1⟩
            go_simp
            with_reducible rfl
          rotate_left
          · simp only [Act.put, List.setIfInBounds_toArray, List.set_cons_zero, List.set_cons_succ]
            rfl
          refine take_ (i := 8) (N := (some 74)) (v := ?_) (a' := ?_) #[true, true, true, true, true, true, true, true, true, false, false, false, false, false, false, false, false, false, false, false, false, false, false, false, false, false, false, false] rfl rfl (by kernel_rfl) (fun _ _ _ h => h) (Or.inl ⟨by rfl, ?_⟩) hHeld ?_ ?_
          rotate_left
          · rintro w' ⟨s0, s1⟩
            go_simp
            with_reducible rfl
          rotate_left
          · simp only [Act.put, List.setIfInBounds_toArray, List.set_cons_zero, List.set_cons_succ]
            rfl
          refine take_ (i := 9) (N := (some 75)) (v := ?_) (a' := ?_) #[true, true, true, true, true, true, true, true, true, true, false, false, false, false, false, false, false, false, false, false, false, false, false, false, false, false, false, false] rfl rfl (by kernel_rfl) (fun _ _ _ h => h) (Or.inl ⟨by rfl, ?_⟩) hHeld ?_ ?_
          rotate_left
          · rintro w' ⟨s0, s1⟩
            go_simp
            with_reducible rfl
          rotate_left
          · simp only [Act.put, List.setIfInBounds_toArray, List.set_cons_zero, List.set_cons_succ]
            rfl
          refine take_ (i := 10) (N := (some 76)) (v := ?_) (a' := ?_) #[true, true, true, true, true, true, true, true, true, true, true, false, false, false, false, false, false, false, false, false, false, false, false, false, false, false, false, false] rfl rfl (by kernel_rfl) (fun _ _ _ h => h) (Or.inl ⟨by rfl, ?_⟩) hHeld ?_ ?_
          rotate_left
          · rintro w' ⟨s0, s1⟩
            go_simp
            with_reducible rfl
          rotate_left
          · simp only [Act.put, List.setIfInBounds_toArray, List.set_cons_zero, List.set_cons_succ]
            rfl
          refine take_ (i := 11) (N := (some 77)) (v := ?_) (a' := ?_) #[true, true, true, true, true, true, true, true, true, true, true, true, false, false, false, false, false, false, false, false, false, false, false, false, false, false, false, false] rfl rfl (by kernel_rfl) (fun _ _ _ h => h) (Or.inl ⟨by rfl, ?_⟩) hHeld ?_ ?_
          rotate_left
          · rintro w' ⟨s0, s1⟩
            go_simp
            with_reducible rfl
          rotate_left
          · simp only [Act.put, List.setIfInBounds_toArray, List.set_cons_zero, List.set_cons_succ]
            rfl
          refine take_ (i := 14) (N := (some 80)) (v := ?_) (a' := ?_) #[true, true, true, true, true, true, true, true, true, true, true, true, false, false, true, false, false, false, false, false, false, false, false, false, false, false, false, false] rfl rfl (by kernel_rfl) (fun _ _ _ h => h) (Or.inl ⟨by rfl, ?_⟩) hHeld ?_ ?_
          rotate_left
          · rintro w' ⟨s0, s1⟩
            go_simp
            with_reducible rfl
          rotate_left
          · simp only [Act.put, List.setIfInBounds_toArray, List.set_cons_zero, List.set_cons_succ]
            rfl
          refine take_ (i := 15) (N := (some 81)) (v := ?_) (a' := ?_) #[true, true, true, true, true, true, true, true, true, true, true, true, false, false, true, true, false, false, false, false, false, false, false, false, false, false, false, false] rfl rfl (by kernel_rfl) (fun _ _ _ h => h) (Or.inl ⟨by rfl, ?_⟩) hHeld ?_ ?_
          rotate_left
          · rintro w' ⟨s0, s1⟩
            go_simp
            with_reducible rfl
          rotate_left
          · simp only [Act.put, List.setIfInBounds_toArray, List.set_cons_zero, List.set_cons_succ]
            rfl
          refine take_ (i := 16) (N := (some 82)) (v := ?_) (a' := ?_) #[true, true, true, true, true, true, true, true, true, true, true, true, false, false, true, true, true, false, false, false, false, false, false, false, false, false, false, false] rfl rfl (by kernel_rfl) (fun _ _ _ h => h) (Or.inl ⟨by rfl, ?_⟩) hHeld ?_ ?_
          rotate_left
          · rintro w' ⟨s0, s1⟩
            go_simp
            with_reducible rfl
          rotate_left
          · simp only [Act.put, List.setIfInBounds_toArray, List.set_cons_zero, List.set_cons_succ]
            rfl
          refine take_ (i := 17) (N := (some 83)) (v := ?_) (a' := ?_) #[true, true, true, true, true, true, true, true, true, true, true, true, false, false, true, true, true, true, false, false, false, false, false, false, false, false, false, false] rfl rfl (by kernel_rfl) (fun _ _ _ h => h) (Or.inl ⟨by rfl, ?_⟩) hHeld ?_ ?_
          rotate_left
          · rintro w' ⟨s0, s1⟩
            go_simp
            with_reducible rfl
          rotate_left
          · simp only [Act.put, List.setIfInBounds_toArray, List.set_cons_zero, List.set_cons_succ]
            rfl
          refine take_ (i := 18) (N := (some 84)) (v := ?_) (a' := ?_) #[true, true, true, true, true, true, true, true, true, true, true, true, false, false, true, true, true, true, true, false, false, false, false, false, false, false, false, false] rfl rfl (by kernel_rfl) (fun _ _ _ h => h) (Or.inl ⟨by rfl, ?_⟩) hHeld ?_ ?_
          rotate_left
          · rintro w' ⟨s0, s1⟩
            go_simp
            with_reducible rfl
          rotate_left
          · simp only [Act.put, List.setIfInBounds_toArray, List.set_cons_zero, List.set_cons_succ]
            rfl
          refine take_ (i := 19) (N := (some 85)) (v := ?_) (a' := ?_) #[true, true, true, true, true, true, true, true, true, true, true, true, false, false, true, true, true, true, true, true, false, false, false, false, false, false, false, false] rfl rfl (by kernel_rfl) (fun _ _ _ h => h) (Or.inl ⟨by rfl, ?_⟩) hHeld ?_ ?_
          rotate_left
          · rintro w' ⟨s0, s1⟩
            go_simp
            with_reducible rfl
          rotate_left
          · simp only [Act.put, List.setIfInBounds_toArray, List.set_cons_zero, List.set_cons_succ]
            rfl
          refine take_ (i := 20) (N := (some 86)) (v := ?_) (a' := ?_) #[true, true, true, true, true, true, true, true, true, true, true, true, false, false, true, true, true, true, true, true, true, false, false, false, false, false, false, false] rfl rfl (by kernel_rfl) (fun _ _ _ h => h) (Or.inl ⟨by rfl, ?_⟩) hHeld ?_ ?_
          rotate_left
          · rintro w' ⟨s0, s1⟩
            go_simp
            with_reducible rfl
          rotate_left
          · simp only [Act.put, List.setIfInBounds_toArray, List.set_cons_zero, List.set_cons_succ]
            rfl
          refine take_ (i := 21) (N := (some 87)) (v := ?_) (a' := ?_) #[true, true, true, true, true, true, true, true, true, true, true, true, false, false, true, true, true, true, true, true, true, true, false, false, false, false, false, false] rfl rfl (by kernel_rfl) (fun _ _ _ h => h) (Or.inl ⟨by rfl, ?_⟩) hHeld ?_ ?_
          rotate_left
          · rintro w' ⟨s0, s1⟩
            go_simp
            with_reducible rfl
          rotate_left
          · simp only [Act.put, List.setIfInBounds_toArray, List.set_cons_zero, List.set_cons_succ]
            rfl
          refine one_ (i := 12) (N := (some 78)) #[true, true, true, true, true, true, true, true, true, true, true, true, true, false, true, true, true, true, true, true, true, true, false, false, false, false, false, false] rfl rfl (by kernel_rfl) (by decide) (fun K hK => ?_)
          go_simp
          go_at_call 7
          refine (insert_any w.heap.size wr.drew h (ks[i]'HI.out) (i : Int) HBE.out.size).mono ?_
          rintro e w5 ⟨rfl, ho5, hb5⟩
          have HO5 := Aside0.mk ho5
          have HM5 := Aside0.mk ((HMI.out.drew HZ.out).below HZ.out hb5)
          have HBE5 := Aside0.mk ((below_drew HBE.out).trans (hb5.mono HBE.out.size))
          have s5 := (hb5.cell (p := ⟨po, j, none⟩) (cell_lt' cv)).trans cv
          clear ho5 hb5
          dsimp only
          refine hK.out _ _ ⟨s5, HKC.out w5 HBE5.out⟩ (fun hHeld => ?_)
          clear hK K
          refine take_ (i := 13) (N := (some 79)) (v := ?_) (a' := ?_) #[true, true, true, true, true, true, true, true, true, true, true, true, true, true, true, true, true, true, true, true, true, true, false, false, false, false, false, false] rfl rfl (by kernel_rfl) (fun _ _ _ h => h) (Or.inl ⟨by rfl, ?_⟩) hHeld ?_ ?_
          rotate_left
          · rintro w' ⟨s0, s1⟩
            go_simp
            with_reducible rfl
          rotate_left
          · simp only [Act.put, List.setIfInBounds_toArray, List.set_cons_zero, List.set_cons_succ]
            rfl
          refine one_ (i := 22) (N := (some 88)) #[true, true, true, true, true, true, true, true, true, true, true, true, true, true, true, true, true, true, true, true, true, true, true, false, false, false, false, false] rfl rfl (by kernel_rfl) (by decide) (fun K hK => ?_)
          go_simp
          go_at_call 8
          refine (sinsert_any w.heap.size w5 l (ks[i]'HI.out) (i : Int) (i % 9) (min (max (i % 9) 1) 8) HBE5.out.size (by omega)).mono ?_
          rintro e w6 ⟨os, rfl, hge6, hso6, hb6⟩
          have HOS6 := Aside0.mk hso6
          have HGE6 := Aside0.mk hge6
          have HO6 := Aside0.mk (OpAt.below (h := h) (l := l) (x := .h wr.heap.size (hop0 (ks[i]'HI.out) i)) HO5.out hb6)
          have HM6a := Aside0.mk (HM5.out.below HZ.out hb6)
          have HBE6 := Aside0.mk (HBE5.out.trans (hb6.mono HBE5.out.size))
          have s6 := (hb6.cell (p := ⟨po, j, none⟩) (cell_lt' s5)).trans s5
          clear hso6 hge6 hb6
          dsimp only
          refine hK.out _ _ ⟨s6, HKC.out w6 HBE6.out⟩ (fun hHeld => ?_)
          clear hK K
          refine take_ (i := 23) (N := (some 89)) (v := ?_) (a' := ?_) #[true, true, true, true, true, true, true, true, true, true, true, true, true, true, true, true, true, true, true, true, true, true, true, true, false, false, false, false] rfl rfl (by kernel_rfl) (fun _ _ _ h => h) (Or.inl ⟨by rfl, ?_⟩) hHeld ?_ ?_
          rotate_left
          · rintro w' ⟨s0, s1⟩
            go_simp
            with_reducible rfl
          rotate_left
          · simp only [Act.put, List.setIfInBounds_toArray, List.set_cons_zero, List.set_cons_succ]
            rfl
          refine one_ (i := 24) (N := (some 90)) #[true, true, true, true, true, true, true, true, true, true, true, true, true, true, true, true, true, true, true, true, true, true, true, true, true, false, false, false] rfl rfl (by kernel_rfl) (by decide) (fun K hK => ?_)
          go_simp
          have hba : Below w6.heap.size w6 (w6.alloc (.cells #[encO (some wr.heap.size), encO none, encO none, encO (some os)] 40)) := below_alloc (Below.refl _ _) _
          have HM6 := Aside0.mk (HM6a.out.below HZ.out hba)
          have HOA := Aside0.mk (OpAt.below HO6.out hba)
          have HOS := Aside0.mk (OpAt.below (h := h) (l := l) (x := .s os (sop0 (ks[i]'HI.out) i (min (max (i % 9) 1) 8))) HOS6.out hba)
          have HBE7 := Aside0.mk (HBE6.out.trans (hba.mono HBE6.out.size))
          have HRD := Aside0.mk (reads_two w6 (some wr.heap.size, none) (none, some os))
          have s7 := (hba.cell (p := ⟨po, j, none⟩) (cell_lt' s6)).trans s6
          have k7 := HKC.out _ HBE7.out
          skip
          refine hK.out _ _ ⟨s7, k7⟩ (fun hHeld => ?_)
          clear hK K hba
          refine one_ (i := 25) (N := (some 91)) #[true, true, true, true, true, true, true, true, true, true, true, true, true, true, true, true, true, true, true, true, true, true, true, true, true, true, false, false] rfl rfl (by kernel_rfl) (by decide) (fun K hK => ?_)
          refine Kd.R_append_rows_step kStep (Rr := RrS) (w0 := w6.alloc (.cells #[encO (some wr.heap.size), encO none, encO none, encO (some os)] 40)) w.heap.size (by rfl) (.tmp 71) (.tmp 90) 34 40 (.agg #[.pointer none, .pointer none]) 16 (by rfl) Tryd.underlying34 info40 rfl (by decide) (by decide) (.slice Aj (prs (T j)).length cj) (prs (T j)) [(some wr.heap.size, none), (none, some os)] (some ⟨w6.heap.size, 0, none⟩) 2 2 (fun _ => True) (fun _ => False) (by rfl) (by rfl) (HEV.out ▸ HM6.out.rows.row j j2) HRD.out (fun x cs hx => RrS_M _ _ _ x cs hx) (fun _ hk => hk.elim) (fun _ _ => trivial) (Below.refl _ _) (by have := HBE7.out.size; exact this) (by have := HLB.out; omega) ?_
          intro v1 w7 ho7 hb7 hg7 hat7
          obtain ⟨A1, q1, rfl⟩ := Kd.R_slice ho7
          generalize hL1 : (prs (T j) ++ [(some wr.heap.size, none), (none, some os)]).length = L1 at *
          rw [← HEV.out] at hg7 hat7
          have HR7 := Aside0.mk ho7
          have HG7 := Aside0.mk hg7
          have HAT7 := Aside0.mk hat7
          have HBF7 := Aside0.mk (HBE7.out.trans hb7)
          have HC7 := Aside0.mk (HM6.out.grown_blk j j2 hg7)
          have s8 := HC7.out.cell j j2
          rw [HEV.out] at s8
          clear ho7 hb7 hg7 hat7 hL1
          refine hK.out _ _ ⟨s8, HKC.out w7 HBF7.out⟩ (fun hHeld => ?_)
          clear hK K
          refine take_ (i := 26) (N := (some 92)) (v := ?_) (a' := ?_) #[true, true, true, true, true, true, true, true, true, true, true, true, true, true, true, true, true, true, true, true, true, true, true, true, true, true, true, false] rfl rfl (by kernel_rfl) (fun _ _ _ h => h) (Or.inl ⟨by rfl, ?_⟩) hHeld ?_ ?_
          rotate_left
          · rintro w' ⟨s0, s1⟩
            go_simp
            with_reducible rfl
          rotate_left
          · simp only [Act.put, List.setIfInBounds_toArray, List.set_cons_zero, List.set_cons_succ]
            rfl
          refine last_ (i := 27) (N := none) #[true, true, true, true, true, true, true, true, true, true, true, true, true, true, true, true, true, true, true, true, true, true, true, true, true, true, true, true] rfl rfl (by kernel_rfl) (by decide) (fun K hK => ?_)
          have hf1 := HC7.out.frozen j
          have hc1 := HC7.out.cell j j2
          rw [HEV.out] at hc1
          go_simp
          refine hK.out _ _ ?_
          clear hK K hHeld hf1 hc1
          refine done_ (by kernel_rfl) ?_
          clear cv kc
          have HM8 := Aside0.mk (HM6.out.append HZ.out j j2 [.h wr.heap.size (hop0 (ks[i]'HI.out) i), .s os (sop0 (ks[i]'HI.out) i (min (max (i % 9) 1) 8))] (fun x hx => by
            simp only [List.mem_cons, List.mem_singleton, List.not_mem_nil, or_false] at hx
            rcases hx with rfl | rfl
            · exact HOA.out
            · exact HOS.out) (.slice A1 L1 q1) HG7.out HAT7.out HR7.out)
          have HBE8 := Aside0.mk (HBF7.out.setCell (p := ⟨po, j, none⟩) HMI.out.rows.ge (.slice A1 L1 q1))
          have HOB := Aside0.mk (show wr.heap.size < os by
            have h1 := (OpAt.lt (x := .h wr.heap.size (hop0 (ks[i]'HI.out) i)) (h := h) (l := l) (B := w.heap.size) (w := w5) HO5.out)
            have h2 := HGE6.out
            have h3 : TOp.blk (.h wr.heap.size (hop0 (ks[i]'HI.out) i)) = wr.heap.size := rfl
            omega)
          clear s5 s6 s7 k7 s8 HR7 HG7 HAT7 HBF7 HC7 HRD HM6 HM6a HM5 HOA HOS HO5 HO6 HOS6 HGE6 HBE5 HBE6 HBE7 hHeld
          generalize upN V j (Value.slice A1 L1 q1) = V8 at *
          generalize w7.setCell ⟨po, j, none⟩ (.slice A1 L1 q1) = w8 at *
          change Aside0 (MI w.heap.size w8 w.heap.size h l g0 po V8 (push T j [.h wr.heap.size (hop0 (ks[i]'HI.out) i), .s os (sop0 (ks[i]'HI.out) i (min (max (i % 9) 1) 8))])) at HM8
          have HOS8 := Aside0.mk (show os < w8.heap.size from OpAt.lt (x := .s os (sop0 (ks[i]'HI.out) i (min (max (i % 9) 1) 8))) (h := h) (l := l) (B := w.heap.size) (HM8.out.at_ j j2 _ (by show _ ∈ push T j _ j; unfold push; rw [upN_eq]; simp)))
          have HLB8 := Aside0.mk (show ∀ j', j' < 2 → (prs (push T j [.h wr.heap.size (hop0 (ks[i]'HI.out) i), .s os (sop0 (ks[i]'HI.out) i (min (max (i % 9) 1) 8))] j')).length ≤ 200 from fun j' hj' => by
            have h1 := tot_push (T := T) (xs := [.h wr.heap.size (hop0 (ks[i]'HI.out) i), .s os (sop0 (ks[i]'HI.out) i (min (max (i % 9) 1) 8))]) List.length (fun a b => List.length_append) j2
            have h2 := HBP.out.len
            have h3 : j' = 0 ∨ j' = 1 := by omega
            simp only [List.length_cons, List.length_nil] at h1
            simp only [prs, List.length_map]
            rcases h3 with rfl | rfl <;> omega)
          generalize hT8 : push T j [.h wr.heap.size (hop0 (ks[i]'HI.out) i), .s os (sop0 (ks[i]'HI.out) i (min (max (i % 9) 1) 8))] = T8 at *
          have HT8 := Aside0.mk hT8
          clear hT8
          obtain ⟨j', hj'⟩ : ∃ j', j' = (i + 1) % 2 := ⟨_, rfl⟩
          have e2 : j' < 2 := by omega
          have hmod' : ((i : Int) + 1).tmod 2 = (j' : Int) := by rw [Int.tmod_eq_emod_of_nonneg (by omega)]; omega
          have hwi1 : IntKind.i64.wrap ((i : Int) + 1) = (i : Int) + 1 := by rw [IntKind.wrap_i64]; omega
          have e0 : (0 : Int) ≤ (j' : Int) := by omega
          have e1 : (j' : Int) < 2 := by omega
          have HJ' := Aside0.mk hj'
          clear hj'
          obtain ⟨Aj', cj', eV', cv⟩ := HM8.out.rows.cell j' e2
          have HEV' := Aside0.mk eV'
          clear eV'
          have kc := HKC.out w8 HBE8.out
          go_upto_region 15 with fail
          refine start_ (n := 20) (ds := [19]) (S := fun w' => w'.cell? ⟨po, j', none⟩ = some (.slice Aj' (prs (T8 j')).length cj') ∧ w'.cell? (ad.add i) = some (.string (ks[i]'HI.out))) #[false, false, false, false, false, false, false, false, false, false, false, false, false, false, false, false, false, false, false, false] (by kernel_rfl) rfl rfl ⟨cv, kc⟩ (fun hHeld => ?_)
          refine take_ (i := 0) (N := (some 93)) (v := ?_) (a' := ?_) #[true, false, false, false, false, false, false, false, false, false, false, false, false, false, false, false, false, false, false, false] rfl rfl (by kernel_rfl) (fun _ _ _ h => h) (Or.inl ⟨by rfl, ?_⟩) hHeld ?_ ?_
          rotate_left
          · rintro w' ⟨s0, s1⟩
            go_simp
            with_reducible rfl
          rotate_left
          · simp only [Act.put, List.setIfInBounds_toArray, List.set_cons_zero, List.set_cons_succ]
            rfl
          refine take_ (i := 1) (N := (some 94)) (v := ?_) (a' := ?_) #[true, true, false, false, false, false, false, false, false, false, false, false, false, false, false, false, false, false, false, false] rfl rfl (by kernel_rfl) (fun _ _ _ h => h) (Or.inl ⟨by rfl, ?_⟩) hHeld ?_ ?_
          rotate_left
          · rintro w' ⟨s0, s1⟩
            go_simp
            with_reducible rfl
          rotate_left
          · simp only [Act.put, List.setIfInBounds_toArray, List.set_cons_zero, List.set_cons_succ]
            rfl
          refine take_ (i := 2) (N := (some 95)) (v := ?_) (a' := ?_) #[true, true, true, false, false, false, false, false, false, false, false, false, false, false, false, false, false, false, false, false] rfl rfl (by kernel_rfl) (fun _ _ _ h => h) (Or.inl ⟨by rfl, ?_⟩) hHeld ?_ ?_
          rotate_left
          · rintro w' ⟨s0, s1⟩
            go_simp
            with_reducible rfl
          rotate_left
          · simp only [Act.put, List.setIfInBounds_toArray, List.set_cons_zero, List.set_cons_succ]
            rfl
          refine take_ (i := 3) (N := (some 96)) (v := ?_) (a' := ?_) #[true, true, true, true, false, false, false, false, false, false, false, false, false, false, false, false, false, false, false, false] rfl rfl (by kernel_rfl) (fun _ _ _ h => h) (Or.inl ⟨by rfl, ?_⟩) hHeld ?_ ?_
          rotate_left
          · rintro w' ⟨s0, s1⟩
            go_simp
            with_reducible rfl
          rotate_left
          · simp only [Act.put, List.setIfInBounds_toArray, List.set_cons_zero, List.set_cons_succ]
            rfl
          refine take_ (i := 4) (N := (some 97)) (v := ?_) (a' := ?_) #[true, true, true, true, true, false, false, false, false, false, false, false, false, false, false, false, false, false, false, false] rfl rfl (by kernel_rfl) (fun _ _ _ h => h) (Or.inl ⟨by rfl, ?_⟩) hHeld ?_ ?_
          rotate_left
          · rintro w' ⟨s0, s1⟩
            go_simp
            with_reducible rfl
          rotate_left
          · simp only [Act.put, List.setIfInBounds_toArray, List.set_cons_zero, List.set_cons_succ]
            rfl
          refine take_ (i := 5) (N := (some 98)) (v := ?_) (a' := ?_) #[true, true, true, true, true, true, false, false, false, false, false, false, false, false, false, false, false, false, false, false] rfl rfl (by kernel_rfl) (fun _ _ _ h => h) (Or.inl ⟨by rfl, ?_⟩) hHeld ?_ ?_
          rotate_left
          · rintro w' ⟨s0, s1⟩
            go_simp
            with_reducible rfl
          rotate_left
          · simp only [Act.put, List.setIfInBounds_toArray, List.set_cons_zero, List.set_cons_succ]
            rfl
          refine take_ (i := 6) (N := (some 99)) (v := ?_) (a' := ?_) #[true, true, true, true, true, true, true, false, false, false, false, false, false, false, false, false, false, false, false, false] rfl rfl (by kernel_rfl) (fun _ _ _ h => h) (Or.inl ⟨by rfl, ?_⟩) hHeld ?_ ?_
          rotate_left
          · rintro w' ⟨s0, s1⟩
            go_simp
            with_reducible rfl
          rotate_left
          · simp only [Act.put, List.setIfInBounds_toArray, List.set_cons_zero, List.set_cons_succ]
            rfl
          refine take_ (i := 7) (N := (some 100)) (v := ?_) (a' := ?_) #[true, true, true, true, true, true, true, true, false, false, false, false, false, false, false, false, false, false, false, false] rfl rfl (by kernel_rfl) (fun _ _ _ h => h) (Or.inl ⟨by rfl, ?_⟩) hHeld ?_ ?_
          rotate_left
          · rintro w' ⟨s0, s1⟩
            go_simp
            with_reducible rfl
          rotate_left
          · simp only [Act.put, List.setIfInBounds_toArray, List.set_cons_zero, List.set_cons_succ]
            rfl
          refine take_ (i := 8) (N := (some 101)) (v := ?_) (a' := ?_) #[true, true, true, true, true, true, true, true, true, false, false, false, false, false, false, false, false, false, false, false] rfl rfl (by kernel_rfl) (fun _ _ _ h => h) (Or.inl ⟨by rfl, ?_⟩) hHeld ?_ ?_
          rotate_left
          · rintro w' ⟨s0, s1⟩
            go_simp
            with_reducible rfl
          rotate_left
          · simp only [Act.put, List.setIfInBounds_toArray, List.set_cons_zero, List.set_cons_succ]
            rfl
          refine take_ (i := 9) (N := (some 102)) (v := ?_) (a' := ?_) #[true, true, true, true, true, true, true, true, true, true, false, false, false, false, false, false, false, false, false, false] rfl rfl (by kernel_rfl) (fun _ _ _ h => h) (Or.inl ⟨by rfl, ?_⟩) hHeld ?_ ?_
          rotate_left
          · rintro w' ⟨s0, s1⟩
            go_simp
            with_reducible rfl
          rotate_left
          · simp only [Act.put, List.setIfInBounds_toArray, List.set_cons_zero, List.set_cons_succ]
            rfl
          refine take_ (i := 10) (N := (some 103)) (v := ?_) (a' := ?_) #[true, true, true, true, true, true, true, true, true, true, true, false, false, false, false, false, false, false, false, false] rfl rfl (by kernel_rfl) (fun _ _ _ h => h) (Or.inl ⟨by rfl, ?_⟩) hHeld ?_ ?_
          rotate_left
          · rintro w' ⟨s0, s1⟩
            go_simp
            with_reducible rfl
          rotate_left
          · simp only [Act.put, List.setIfInBounds_toArray, List.set_cons_zero, List.set_cons_succ]
            rfl
          refine take_ (i := 11) (N := (some 104)) (v := ?_) (a' := ?_) #[true, true, true, true, true, true, true, true, true, true, true, true, false, false, false, false, false, false, false, false] rfl rfl (by kernel_rfl) (fun _ _ _ h => h) (Or.inl ⟨by rfl, ?_⟩) hHeld ?_ ?_
          rotate_left
          · rintro w' ⟨s0, s1⟩
            go_simp
            with_reducible rfl
          rotate_left
          · simp only [Act.put, List.setIfInBounds_toArray, List.set_cons_zero, List.set_cons_succ]
            rfl
          refine take_ (i := 12) (N := (some 105)) (v := ?_) (a' := ?_) #[true, true, true, true, true, true, true, true, true, true, true, true, true, false, false, false, false, false, false, false] rfl rfl (by kernel_rfl) (fun _ _ _ h => h) (Or.inl ⟨by rfl, ?_⟩) hHeld ?_ ?_
          rotate_left
          · rintro w' ⟨s0, s1⟩
            go_simp
            with_reducible rfl
          rotate_left
          · simp only [Act.put, List.setIfInBounds_toArray, List.set_cons_zero, List.set_cons_succ]
            rfl
          refine take_ (i := 13) (N := (some 106)) (v := ?_) (a' := ?_) #[true, true, true, true, true, true, true, true, true, true, true, true, true, true, false, false, false, false, false, false] rfl rfl (by kernel_rfl) (fun _ _ _ h => h) (Or.inl ⟨by rfl, ?_⟩) hHeld ?_ ?_
          rotate_left
          · rintro w' ⟨s0, s1⟩
            go_simp
            with_reducible rfl
          rotate_left
          · simp only [Act.put, List.setIfInBounds_toArray, List.set_cons_zero, List.set_cons_succ]
            rfl
          refine one_ (i := 14) (N := (some 107)) #[true, true, true, true, true, true, true, true, true, true, true, true, true, true, true, false, false, false, false, false] rfl rfl (by kernel_rfl) (by decide) (fun K hK => ?_)
          go_simp
          go_at_call 8
          refine (sinsert_any w.heap.size w8.drew l (ks[i]'HI.out) (i : Int) 1 1 HBE8.out.size (by decide)).mono ?_
          rintro e w9 ⟨ot, rfl, hge9, hso9, hb9⟩
          have HOT9 := Aside0.mk (show w8.heap.size ≤ ot from hge9)
          have HOTa := Aside0.mk hso9
          have HM9 := Aside0.mk ((HM8.out.drew HZ.out).below HZ.out hb9)
          have HBE9 := Aside0.mk ((below_drew HBE8.out).trans (hb9.mono HBE8.out.size))
          have r5 := (hb9.cell (p := ⟨po, j', none⟩) (cell_lt' cv)).trans cv
          clear hge9 hso9 hb9
          dsimp only
          refine hK.out _ _ ⟨r5, HKC.out w9 HBE9.out⟩ (fun hHeld => ?_)
          clear hK K
          refine take_ (i := 15) (N := (some 108)) (v := ?_) (a' := ?_) #[true, true, true, true, true, true, true, true, true, true, true, true, true, true, true, true, false, false, false, false] rfl rfl (by kernel_rfl) (fun _ _ _ h => h) (Or.inl ⟨by rfl, ?_⟩) hHeld ?_ ?_
          rotate_left
          · rintro w' ⟨s0, s1⟩
            go_simp
            with_reducible rfl
          rotate_left
          · simp only [Act.put, List.setIfInBounds_toArray, List.set_cons_zero, List.set_cons_succ]
            rfl
          refine one_ (i := 16) (N := (some 109)) #[true, true, true, true, true, true, true, true, true, true, true, true, true, true, true, true, true, false, false, false] rfl rfl (by kernel_rfl) (by decide) (fun K hK => ?_)
          go_simp
          have hba : Below w9.heap.size w9 (w9.alloc (.cells #[encO none, encO (some ot)] 40)) := below_alloc (Below.refl _ _) _
          have HM10 := Aside0.mk (HM9.out.below HZ.out hba)
          have HOT := Aside0.mk (OpAt.below (h := h) (l := l) (x := .s ot (sop0 (ks[i]'HI.out) i 1)) HOTa.out hba)
          have HBE10 := Aside0.mk (HBE9.out.trans (hba.mono HBE9.out.size))
          have HRD := Aside0.mk (reads_one w9 (none, some ot))
          have r7 := (hba.cell (p := ⟨po, j', none⟩) (cell_lt' r5)).trans r5
          have k7 := HKC.out _ HBE10.out
          refine hK.out _ _ ⟨r7, k7⟩ (fun hHeld => ?_)
          clear hK K hba k7
          refine one_ (i := 17) (N := (some 110)) #[true, true, true, true, true, true, true, true, true, true, true, true, true, true, true, true, true, true, false, false] rfl rfl (by kernel_rfl) (by decide) (fun K hK => ?_)
          refine Kd.R_append_rows_step kStep (Rr := RrS) (w0 := (w9.alloc (.cells #[encO none, encO (some ot)] 40))) w.heap.size (by rfl) (.tmp 100) (.tmp 109) 34 40 (.agg #[.pointer none, .pointer none]) 16 (by rfl) Tryd.underlying34 info40 rfl (by decide) (by decide) (.slice Aj' (prs (T8 j')).length cj') (prs (T8 j')) [(none, some ot)] (some ⟨w9.heap.size, 0, none⟩) 1 1 (fun _ => True) (fun _ => False) (by rfl) (by rfl) (HEV'.out ▸ HM10.out.rows.row j' e2) HRD.out (fun x cs hx => RrS_M _ _ _ x cs hx) (fun _ hk => hk.elim) (fun _ _ => trivial) (Below.refl _ _) (by have := HBE10.out.size; exact this) (by have := HLB8.out j' e2; omega) ?_
          intro v1 w11 ho7 hb7 hg7 hat7
          obtain ⟨A2', q2, rfl⟩ := Kd.R_slice ho7
          generalize hL1 : (prs (T8 j') ++ [(none, some ot)]).length = L2 at *
          rw [← HEV'.out] at hg7 hat7
          have HR11 := Aside0.mk ho7
          have HG11 := Aside0.mk hg7
          have HAT11 := Aside0.mk hat7
          have HBF11 := Aside0.mk (HBE10.out.trans hb7)
          have HC11 := Aside0.mk (HM10.out.grown_blk j' e2 hg7)
          have r8 := HC11.out.cell j' e2
          rw [HEV'.out] at r8
          clear ho7 hb7 hg7 hat7 hL1
          refine hK.out _ _ ⟨r8, HKC.out w11 HBF11.out⟩ (fun hHeld => ?_)
          clear hK K
          refine take_ (i := 18) (N := (some 111)) (v := ?_) (a' := ?_) #[true, true, true, true, true, true, true, true, true, true, true, true, true, true, true, true, true, true, true, false] rfl rfl (by kernel_rfl) (fun _ _ _ h => h) (Or.inl ⟨by rfl, ?_⟩) hHeld ?_ ?_
          rotate_left
          · rintro w' ⟨s0, s1⟩
            go_simp
            with_reducible rfl
          rotate_left
          · simp only [Act.put, List.setIfInBounds_toArray, List.set_cons_zero, List.set_cons_succ]
            rfl
          refine last_ (i := 19) (N := none) #[true, true, true, true, true, true, true, true, true, true, true, true, true, true, true, true, true, true, true, true] rfl rfl (by kernel_rfl) (by decide) (fun K hK => ?_)
          have hf1 := HC11.out.frozen j'
          have hc1 := HC11.out.cell j' e2
          rw [HEV'.out] at hc1
          go_simp
          refine hK.out _ _ ?_
          clear hK K hHeld hf1 hc1
          refine done_ (by kernel_rfl) ?_
          clear cv kc
          have HM11 := Aside0.mk (HM10.out.append HZ.out j' e2 [.s ot (sop0 (ks[i]'HI.out) i 1)] (fun x hx => by
            simp only [List.mem_cons, List.mem_singleton, List.not_mem_nil, or_false] at hx
            rcases hx with rfl
            exact HOT.out) (.slice A2' L2 q2) HG11.out HAT11.out HR11.out)
          have HBE12 := Aside0.mk (HBF11.out.setCell (p := ⟨po, j', none⟩) HMI.out.rows.ge (.slice A2' L2 q2))
          clear r5 r7 r8 HR11 HG11 HAT11 HBF11 HC11 HRD HM10 HM9 HOT HBE9 HBE10 hHeld
          go_wp2_with fail
          go_roundg (m - (i + 1))
          case measure => omega
          case rel =>
            have hj := HJ.out
            have hj' := HJ'.out
            refine ⟨i + 1, _, _, by go_num, by omega, rfl, HM11, ⟨?_⟩, HBE12⟩
            have h8 := HT8.out
            subst h8
            exact HBP.out.round HI.out j2 e2 (fun x hx => by
              rcases hx with hx | hx
              · exact (HMI.out.at_ 0 (by omega) x hx).lt
              · exact (HMI.out.at_ 1 (by omega) x hx).lt) (Nat.le_refl _) HOB.out (Nat.lt_of_lt_of_le HOS8.out HOT9.out) (by omega) (by omega)
end Go.Proofs.YtmemkmnnededgaaDoor.H
