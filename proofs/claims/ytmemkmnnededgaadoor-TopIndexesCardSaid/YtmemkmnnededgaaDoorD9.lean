/- Contract: the keys of a skip list. -/
import Derived.Test.YtmemkmnnededgaaDoorD3
import Derived.Test.YtmemkmnnededgaaDoorB12
namespace Go.Proofs.YtmemkmnnededgaaDoor.H
open Go.RowKit Go.Proofs.YtmemkmnnededgaaDoorW.PrintWords Go.Proofs.YtmemkmnnededgaaDoorW.PrintLast Go.Proofs.YtmemkmnnededgaaDoorW.PrintMore
attribute [local go_sem] max2_int min2_int max_two min_two max_three min_three max_four min_four
set_option linter.unusedVariables false
set_option linter.unusedSimpArgs false

/-- The list L of nodes hangs behind node p, at level v. -/
def Lk (a : Ar) (ns : Nat → SNode) (N v : Nat) : Nat → List Nat → Prop
  | p, [] => a.tk ((ns p).tower v) = true ∧ a.val ((ns p).tower v) = 0
  | p, q :: L => a.tk ((ns p).tower v) = true ∧ a.val ((ns p).tower v) = (q : Int) ∧ 1 ≤ q ∧ q < N ∧ Lk a ns N v q L
theorem LiAt.row {B : Nat} {w : World} {l ga : Nat} {bs : List Nat} {ns : Nat → SNode} (hl : LiAt B w l ga bs ns) (h0 : 0 < bs.length) :
    ∃ Z cap, w.cell? ⟨l, 1, none⟩ = some (.slice (some ⟨Z, 0, none⟩) bs.length cap) ∧ bs.length ≤ cap ∧ ∀ (i : Nat) (hi : i < bs.length), w.cell? ⟨Z, i, none⟩ = some (.pointer (some ⟨bs[i], 0, none⟩)) := by
  obtain ⟨nv, hbk, hR⟩ := hl.blk
  obtain ⟨Z, cap, rfl, hcap, hc⟩ := row_cell hR h0
  exact ⟨Z, cap, (blk_cell hbk 1).trans rfl, hcap, hc⟩
theorem LiAt.row_same {B : Nat} {w w' : World} {l ga : Nat} {bs : List Nat} {ns : Nat → SNode} (hl : LiAt B w l ga bs ns) (hf : FrT TA B w w') {Z Z' n cap cap' : Nat} (h1 : w.cell? ⟨l, 1, none⟩ = some (.slice (some ⟨Z, 0, none⟩) n cap)) (h2 : w'.cell? ⟨l, 1, none⟩ = some (.slice (some ⟨Z', 0, none⟩) n cap')) : Z = Z' ∧ cap = cap' := by
  obtain ⟨nv, hbk, hR⟩ := hl.blk
  have e1 := (blk_cell hbk 1).symm.trans h1
  have e2 := (blk_cell (hf.blk hbk (by simp [TA])) 1).symm.trans h2
  have e := e1.symm.trans e2
  injection e with e
  injection e with e3 _ e4
  injection e3 with e3
  injection e3 with e3
  exact ⟨e3, e4⟩
def nkeys (ns : Nat → SNode) (L : List Nat) : List ByteArray := L.map fun m => (ns m).key

set_option maxRecDepth 100000 in
set_option maxHeartbeats 6400000 in
theorem skeys_any (B k : Nat) (w : World) (ga l : Nat) (a : Ar) (bs : List Nat) (ns : Nat → SNode) (hl : LiAt B w l ga bs ns) (har : ArAt B w ga a) (hw : a.Wf k) (hk : k < 1980) (hb : bs.length < 1000) (h0 : 0 < bs.length) (L : List Nat) (hL : L.length ≤ 1000) (hc : Lk a ns bs.length 0 0 L) :
    Calls Tryd.prog 11 #[.pointer (some ⟨l, 0, none⟩)] w fun e w' => ∃ v : Value, e = .returned v ∧ Kd.string.R 9 w' w.heap.size (fun _ => True) v (nkeys ns L) ∧ ArAt B w' ga a ∧ FrT TA B w w' := by
  have HL0 := Aside0.mk hl
  have HAR := Aside0.mk har
  have HW := Aside0.mk hw
  have HK := Aside0.mk hk
  have HC := Aside0.mk hc
  have HLL := Aside0.mk hL
  have hz : B ≤ w.heap.size := Nat.le_trans har.ge (Nat.le_of_lt har.lt)
  have HZ := Aside0.mk hz
  clear hl har hw hk hc hz hL
  go_enter Tryd.func11, Tryd.ntmps11
  go_wp2_with fail
  go_loopw [3, 4] (fun v3 v4 w' => ∃ (ys : List ByteArray) (p : Nat) (M : List Nat), v4 = .int .i64 p ∧ lenOf v3 = ys.length ∧ p < bs.length ∧ Aside0 (Lk a ns bs.length 0 p M) ∧ Aside0 (ys ++ nkeys ns M = nkeys ns L) ∧ Aside0 (Kd.string.R 9 w' w.heap.size (fun _ => True) v3 ys) ∧ Aside0 (ArAt B w' ga a) ∧ Aside0 (FrT TA B w w')) (fun v3 _ _ => 1000000 - lenOf v3)
  case atStart => exact ⟨[], 0, L, rfl, rfl, h0, HC, ⟨rfl⟩, ⟨Kd.R_nil _ _ _ _ _⟩, HAR, ⟨FrT.refl _ _ _⟩⟩
  case round =>
    obtain ⟨ys, p, M, rfl, hlen, hp, HM, HEQ, HO, HA, HF⟩ := hrel
    have HLN := Aside0.mk hlen
    clear hlen
    have HL := Aside0.mk (HL0.out.kept HF.out (by simp [TA]) (by simp [TA]) (by simp [TA]))
    have l0 := HL.out.c0
    obtain ⟨Z, cap, c1, hcap, hz⟩ := HL.out.row h0
    have HROW := Aside0.mk c1
    have cz := hz p hp
    have ct : wr.cell? ⟨bs[p], 19, none⟩ = some (.int .i64 ((ns p).tower 0)) := (HL.out.nodeAt p hp).tow 0 (by decide)
    clear hz
    cases M with
    | nil =>
      have HTN := Aside0.mk HM.out.1
      have HV := Aside0.mk HM.out.2
      go_wp2_with fail
      refine start_ (n := 21) (ds := []) (S := fun w' => w'.cell? ⟨l, 0, none⟩ = some (.pointer (some ⟨ga, 0, none⟩)) ∧ w'.cell? ⟨l, 1, none⟩ = some (.slice (some ⟨Z, 0, none⟩) bs.length cap) ∧ w'.cell? ⟨Z, p, none⟩ = some (.pointer (some ⟨bs[p], 0, none⟩)) ∧ w'.cell? ⟨bs[p], 19, none⟩ = some (.int .i64 ((ns p).tower 0))) #[false, false, false, false, false, false, false, false, false, false, false, false, false, false, false, false, false, false, false, false, false] (by kernel_rfl) rfl rfl ⟨l0, c1, cz, ct⟩ (fun hHeld => ?_)
      refine take_ (i := 0) (N := (some 10)) (v := ?_) (a' := ?_) #[true, false, false, false, false, false, false, false, false, false, false, false, false, false, false, false, false, false, false, false, false] rfl rfl (by kernel_rfl) (fun _ _ _ h => h) (Or.inl ⟨by rfl, ?_⟩) hHeld ?_ ?_
      rotate_left
      · rintro w' ⟨s0, s1, s2, s3⟩
        go_simp
        with_reducible rfl
      rotate_left
      · simp only [Act.put, List.setIfInBounds_toArray, List.set_cons_zero, List.set_cons_succ]
        rfl
      refine take_ (i := 1) (N := (some 11)) (v := ?_) (a' := ?_) #[true, true, false, false, false, false, false, false, false, false, false, false, false, false, false, false, false, false, false, false, false] rfl rfl (by kernel_rfl) (fun _ _ _ h => h) (Or.inl ⟨by rfl, ?_⟩) hHeld ?_ ?_
      rotate_left
      · rintro w' ⟨s0, s1, s2, s3⟩
        go_simp
        with_reducible rfl
      rotate_left
      · simp only [Act.put, List.setIfInBounds_toArray, List.set_cons_zero, List.set_cons_succ]
        rfl
      refine take_ (i := 2) (N := (some 12)) (v := ?_) (a' := ?_) #[true, true, true, false, false, false, false, false, false, false, false, false, false, false, false, false, false, false, false, false, false] rfl rfl (by kernel_rfl) (fun _ _ _ h => h) (Or.inl ⟨by rfl, ?_⟩) hHeld ?_ ?_
      rotate_left
      · rintro w' ⟨s0, s1, s2, s3⟩
        go_simp
        with_reducible rfl
      rotate_left
      · simp only [Act.put, List.setIfInBounds_toArray, List.set_cons_zero, List.set_cons_succ]
        rfl
      refine take_ (i := 3) (N := (some 13)) (v := ?_) (a' := ?_) #[true, true, true, true, false, false, false, false, false, false, false, false, false, false, false, false, false, false, false, false, false] rfl rfl (by kernel_rfl) (fun _ _ _ h => h) (Or.inl ⟨by rfl, ?_⟩) hHeld ?_ ?_
      rotate_left
      · rintro w' ⟨s0, s1, s2, s3⟩
        go_simp
        with_reducible rfl
      rotate_left
      · simp only [Act.put, List.setIfInBounds_toArray, List.set_cons_zero, List.set_cons_succ]
        rfl
      refine take_ (i := 4) (N := (some 14)) (v := ?_) (a' := ?_) #[true, true, true, true, true, false, false, false, false, false, false, false, false, false, false, false, false, false, false, false, false] rfl rfl (by kernel_rfl) (fun _ _ _ h => h) (Or.inl ⟨by rfl, ?_⟩) hHeld ?_ ?_
      rotate_left
      · rintro w' ⟨s0, s1, s2, s3⟩
        go_simp
        with_reducible rfl
      rotate_left
      · simp only [Act.put, List.setIfInBounds_toArray, List.set_cons_zero, List.set_cons_succ]
        rfl
      refine take_ (i := 5) (N := (some 15)) (v := ?_) (a' := ?_) #[true, true, true, true, true, true, false, false, false, false, false, false, false, false, false, false, false, false, false, false, false] rfl rfl (by kernel_rfl) (fun _ _ _ h => h) (Or.inl ⟨by rfl, ?_⟩) hHeld ?_ ?_
      rotate_left
      · rintro w' ⟨s0, s1, s2, s3⟩
        go_simp
        with_reducible rfl
      rotate_left
      · simp only [Act.put, List.setIfInBounds_toArray, List.set_cons_zero, List.set_cons_succ]
        rfl
      refine take_ (i := 6) (N := (some 16)) (v := ?_) (a' := ?_) #[true, true, true, true, true, true, true, false, false, false, false, false, false, false, false, false, false, false, false, false, false] rfl rfl (by kernel_rfl) (fun _ _ _ h => h) (Or.inl ⟨by rfl, ?_⟩) hHeld ?_ ?_
      rotate_left
      · rintro w' ⟨s0, s1, s2, s3⟩
        go_simp
        with_reducible rfl
      rotate_left
      · simp only [Act.put, List.setIfInBounds_toArray, List.set_cons_zero, List.set_cons_succ]
        rfl
      refine take_ (i := 7) (N := (some 17)) (v := ?_) (a' := ?_) #[true, true, true, true, true, true, true, true, false, false, false, false, false, false, false, false, false, false, false, false, false] rfl rfl (by kernel_rfl) (fun _ _ _ h => h) (Or.inl ⟨by rfl, ?_⟩) hHeld ?_ ?_
      rotate_left
      · rintro w' ⟨s0, s1, s2, s3⟩
        go_simp
        with_reducible rfl
      rotate_left
      · simp only [Act.put, List.setIfInBounds_toArray, List.set_cons_zero, List.set_cons_succ]
        rfl
      refine take_ (i := 8) (N := (some 18)) (v := ?_) (a' := ?_) #[true, true, true, true, true, true, true, true, true, false, false, false, false, false, false, false, false, false, false, false, false] rfl rfl (by kernel_rfl) (fun _ _ _ h => h) (Or.inl ⟨by rfl, ?_⟩) hHeld ?_ ?_
      rotate_left
      · rintro w' ⟨s0, s1, s2, s3⟩
        go_simp
        with_reducible rfl
      rotate_left
      · simp only [Act.put, List.setIfInBounds_toArray, List.set_cons_zero, List.set_cons_succ]
        rfl
      refine take_ (i := 9) (N := (some 19)) (v := ?_) (a' := ?_) #[true, true, true, true, true, true, true, true, true, true, false, false, false, false, false, false, false, false, false, false, false] rfl rfl (by kernel_rfl) (fun _ _ _ h => h) (Or.inl ⟨by rfl, ?_⟩) hHeld ?_ ?_
      rotate_left
      · rintro w' ⟨s0, s1, s2, s3⟩
        go_simp
        with_reducible rfl
      rotate_left
      · simp only [Act.put, List.setIfInBounds_toArray, List.set_cons_zero, List.set_cons_succ]
        rfl
      refine take_ (i := 10) (N := (some 20)) (v := ?_) (a' := ?_) #[true, true, true, true, true, true, true, true, true, true, true, false, false, false, false, false, false, false, false, false, false] rfl rfl (by kernel_rfl) (fun _ _ _ h => h) (Or.inl ⟨by rfl, ?_⟩) hHeld ?_ ?_
      rotate_left
      · rintro w' ⟨s0, s1, s2, s3⟩
        go_simp
        with_reducible rfl
      rotate_left
      · simp only [Act.put, List.setIfInBounds_toArray, List.set_cons_zero, List.set_cons_succ]
        rfl
      refine take_ (i := 11) (N := (some 21)) (v := ?_) (a' := ?_) #[true, true, true, true, true, true, true, true, true, true, true, true, false, false, false, false, false, false, false, false, false] rfl rfl (by kernel_rfl) (fun _ _ _ h => h) (Or.inl ⟨by rfl, ?_⟩) hHeld ?_ ?_
      rotate_left
      · rintro w' ⟨s0, s1, s2, s3⟩
        go_simp
        with_reducible rfl
      rotate_left
      · simp only [Act.put, List.setIfInBounds_toArray, List.set_cons_zero, List.set_cons_succ]
        rfl
      refine take_ (i := 12) (N := (some 22)) (v := ?_) (a' := ?_) #[true, true, true, true, true, true, true, true, true, true, true, true, true, false, false, false, false, false, false, false, false] rfl rfl (by kernel_rfl) (fun _ _ _ h => h) (Or.inl ⟨by rfl, ?_⟩) hHeld ?_ ?_
      rotate_left
      · rintro w' ⟨s0, s1, s2, s3⟩
        go_simp
        with_reducible rfl
      rotate_left
      · simp only [Act.put, List.setIfInBounds_toArray, List.set_cons_zero, List.set_cons_succ]
        rfl
      refine take_ (i := 13) (N := (some 23)) (v := ?_) (a' := ?_) #[true, true, true, true, true, true, true, true, true, true, true, true, true, true, false, false, false, false, false, false, false] rfl rfl (by kernel_rfl) (fun _ _ _ h => h) (Or.inl ⟨by rfl, ?_⟩) hHeld ?_ ?_
      rotate_left
      · rintro w' ⟨s0, s1, s2, s3⟩
        go_simp
        with_reducible rfl
      rotate_left
      · simp only [Act.put, List.setIfInBounds_toArray, List.set_cons_zero, List.set_cons_succ]
        rfl
      refine take_ (i := 14) (N := (some 24)) (v := ?_) (a' := ?_) #[true, true, true, true, true, true, true, true, true, true, true, true, true, true, true, false, false, false, false, false, false] rfl rfl (by kernel_rfl) (fun _ _ _ h => h) (Or.inl ⟨by rfl, ?_⟩) hHeld ?_ ?_
      rotate_left
      · rintro w' ⟨s0, s1, s2, s3⟩
        go_simp
        with_reducible rfl
      rotate_left
      · simp only [Act.put, List.setIfInBounds_toArray, List.set_cons_zero, List.set_cons_succ]
        rfl
      refine one_ (i := 15) (N := (some 25)) #[true, true, true, true, true, true, true, true, true, true, true, true, true, true, true, true, false, false, false, false, false] rfl rfl (by kernel_rfl) (by decide) (fun K hK => ?_)
      go_simp
      have hcall := load_any B ga k a ((ns p).tower 0) wr.drew (HA.out.drewN 1) HW.out (by have := HK.out; omega) HTN.out
      rw [HV.out] at hcall
      go_at_call 19
      refine hcall.mono ?_
      rintro e w4 ⟨rfl, ha, hf⟩
      have HA4 := Aside0.mk ha
      have HFS := Aside0.mk ((FrT.refl TA B wr).drew.trans hf)
      have HF4 := Aside0.mk ((HF.out.drew).trans hf)
      have HO4 := Aside0.mk (hf.R_lives (Kd.R_drew HO.out) (by simp [TA, Kd.string, Kd.scalar]))
      have HL4 := Aside0.mk (HL0.out.kept HF4.out (by simp [TA]) (by simp [TA]) (by simp [TA]))
      clear ha hf hcall
      obtain ⟨Z', cap', d1, _, dz⟩ := (HL0.out.kept HF4.out (by simp [TA]) (by simp [TA]) (by simp [TA])).row h0
      have ezz : Z = Z' ∧ cap = cap' := HL.out.row_same HFS.out HROW.out d1
      obtain ⟨rfl, rfl⟩ := ezz
      dsimp only
      refine hK.out _ _ ⟨HL4.out.c0, d1, dz p hp, (HL4.out.nodeAt p hp).tow 0 (by decide)⟩ (fun hHeld => ?_)
      clear hK K
      refine take_ (i := 16) (N := (some 9)) (v := ?_) (a' := ?_) #[true, true, true, true, true, true, true, true, true, true, true, true, true, true, true, true, true, false, false, false, false] rfl rfl (by kernel_rfl) (fun _ _ _ h => h) (Or.inl ⟨by rfl, ?_⟩) hHeld ?_ ?_
      rotate_left
      · rintro w' ⟨s0, s1, s2, s3⟩
        go_simp
        with_reducible rfl
      rotate_left
      · simp only [Act.put, List.setIfInBounds_toArray, List.set_cons_zero, List.set_cons_succ]
        rfl
      refine take_ (i := 17) (N := (some 26)) (v := ?_) (a' := ?_) #[true, true, true, true, true, true, true, true, true, true, true, true, true, true, true, true, true, true, false, false, false] rfl rfl (by kernel_rfl) (fun _ _ _ h => h) (Or.inl ⟨by rfl, ?_⟩) hHeld ?_ ?_
      rotate_left
      · rintro w' ⟨s0, s1, s2, s3⟩
        go_simp
        with_reducible rfl
      rotate_left
      · simp only [Act.put, List.setIfInBounds_toArray, List.set_cons_zero, List.set_cons_succ]
        rfl
      refine take_ (i := 18) (N := (some 27)) (v := ?_) (a' := ?_) #[true, true, true, true, true, true, true, true, true, true, true, true, true, true, true, true, true, true, true, false, false] rfl rfl (by kernel_rfl) (fun _ _ _ h => h) (Or.inl ⟨by rfl, ?_⟩) hHeld ?_ ?_
      rotate_left
      · rintro w' ⟨s0, s1, s2, s3⟩
        go_simp
        with_reducible rfl
      rotate_left
      · simp only [Act.put, List.setIfInBounds_toArray, List.set_cons_zero, List.set_cons_succ]
        rfl
      refine take_ (i := 19) (N := (some 5)) (v := ?_) (a' := ?_) #[true, true, true, true, true, true, true, true, true, true, true, true, true, true, true, true, true, true, true, true, false] rfl rfl (by kernel_rfl) (fun _ _ _ h => h) (Or.inl ⟨by rfl, ?_⟩) hHeld ?_ ?_
      rotate_left
      · rintro w' ⟨s0, s1, s2, s3⟩
        go_simp
        with_reducible rfl
      rotate_left
      · simp only [Act.put, List.setIfInBounds_toArray, List.set_cons_zero, List.set_cons_succ]
        rfl
      refine take_ (i := 20) (N := (some 6)) (v := ?_) (a' := ?_) #[true, true, true, true, true, true, true, true, true, true, true, true, true, true, true, true, true, true, true, true, true] rfl rfl (by kernel_rfl) (fun _ _ _ h => h) (Or.inl ⟨by rfl, ?_⟩) hHeld ?_ ?_
      rotate_left
      · rintro w' ⟨s0, s1, s2, s3⟩
        go_simp
        with_reducible rfl
      rotate_left
      · simp only [Act.put, List.setIfInBounds_toArray, List.set_cons_zero, List.set_cons_succ]
        rfl
      refine done_ (by kernel_rfl) ?_
      clear l0 c1 cz ct hHeld d1 dz
      go_wp2_with fail
      go_ret
      have e := HEQ.out
      simp only [nkeys, List.map_nil, List.append_nil] at e
      refine ⟨_, rfl, ?_, HA4.out, HF4.out⟩
      show Kd.string.R 9 _ _ _ _ (List.map _ L)
      rw [← e]
      exact HO4.out
    | cons q M =>
      have HTN := Aside0.mk HM.out.1
      have HV := Aside0.mk HM.out.2.1
      have HQ := Aside0.mk (And.intro HM.out.2.2.1 HM.out.2.2.2.1)
      have HM2 := Aside0.mk HM.out.2.2.2.2
      have hq1 : 0 < q := HQ.out.1
      have hq2 : q < bs.length := HQ.out.2
      have hwi : IntKind.i64.wrap (q : Int) = (q : Int) := wrap_i64_nat q (by omega)
      go_wp2_with fail
      refine start_ (n := 21) (ds := []) (S := fun w' => w'.cell? ⟨l, 0, none⟩ = some (.pointer (some ⟨ga, 0, none⟩)) ∧ w'.cell? ⟨l, 1, none⟩ = some (.slice (some ⟨Z, 0, none⟩) bs.length cap) ∧ w'.cell? ⟨Z, p, none⟩ = some (.pointer (some ⟨bs[p], 0, none⟩)) ∧ w'.cell? ⟨bs[p], 19, none⟩ = some (.int .i64 ((ns p).tower 0))) #[false, false, false, false, false, false, false, false, false, false, false, false, false, false, false, false, false, false, false, false, false] (by kernel_rfl) rfl rfl ⟨l0, c1, cz, ct⟩ (fun hHeld => ?_)
      refine take_ (i := 0) (N := (some 10)) (v := ?_) (a' := ?_) #[true, false, false, false, false, false, false, false, false, false, false, false, false, false, false, false, false, false, false, false, false] rfl rfl (by kernel_rfl) (fun _ _ _ h => h) (Or.inl ⟨by rfl, ?_⟩) hHeld ?_ ?_
      rotate_left
      · rintro w' ⟨s0, s1, s2, s3⟩
        go_simp
        with_reducible rfl
      rotate_left
      · simp only [Act.put, List.setIfInBounds_toArray, List.set_cons_zero, List.set_cons_succ]
        rfl
      refine take_ (i := 1) (N := (some 11)) (v := ?_) (a' := ?_) #[true, true, false, false, false, false, false, false, false, false, false, false, false, false, false, false, false, false, false, false, false] rfl rfl (by kernel_rfl) (fun _ _ _ h => h) (Or.inl ⟨by rfl, ?_⟩) hHeld ?_ ?_
      rotate_left
      · rintro w' ⟨s0, s1, s2, s3⟩
        go_simp
        with_reducible rfl
      rotate_left
      · simp only [Act.put, List.setIfInBounds_toArray, List.set_cons_zero, List.set_cons_succ]
        rfl
      refine take_ (i := 2) (N := (some 12)) (v := ?_) (a' := ?_) #[true, true, true, false, false, false, false, false, false, false, false, false, false, false, false, false, false, false, false, false, false] rfl rfl (by kernel_rfl) (fun _ _ _ h => h) (Or.inl ⟨by rfl, ?_⟩) hHeld ?_ ?_
      rotate_left
      · rintro w' ⟨s0, s1, s2, s3⟩
        go_simp
        with_reducible rfl
      rotate_left
      · simp only [Act.put, List.setIfInBounds_toArray, List.set_cons_zero, List.set_cons_succ]
        rfl
      refine take_ (i := 3) (N := (some 13)) (v := ?_) (a' := ?_) #[true, true, true, true, false, false, false, false, false, false, false, false, false, false, false, false, false, false, false, false, false] rfl rfl (by kernel_rfl) (fun _ _ _ h => h) (Or.inl ⟨by rfl, ?_⟩) hHeld ?_ ?_
      rotate_left
      · rintro w' ⟨s0, s1, s2, s3⟩
        go_simp
        with_reducible rfl
      rotate_left
      · simp only [Act.put, List.setIfInBounds_toArray, List.set_cons_zero, List.set_cons_succ]
        rfl
      refine take_ (i := 4) (N := (some 14)) (v := ?_) (a' := ?_) #[true, true, true, true, true, false, false, false, false, false, false, false, false, false, false, false, false, false, false, false, false] rfl rfl (by kernel_rfl) (fun _ _ _ h => h) (Or.inl ⟨by rfl, ?_⟩) hHeld ?_ ?_
      rotate_left
      · rintro w' ⟨s0, s1, s2, s3⟩
        go_simp
        with_reducible rfl
      rotate_left
      · simp only [Act.put, List.setIfInBounds_toArray, List.set_cons_zero, List.set_cons_succ]
        rfl
      refine take_ (i := 5) (N := (some 15)) (v := ?_) (a' := ?_) #[true, true, true, true, true, true, false, false, false, false, false, false, false, false, false, false, false, false, false, false, false] rfl rfl (by kernel_rfl) (fun _ _ _ h => h) (Or.inl ⟨by rfl, ?_⟩) hHeld ?_ ?_
      rotate_left
      · rintro w' ⟨s0, s1, s2, s3⟩
        go_simp
        with_reducible rfl
      rotate_left
      · simp only [Act.put, List.setIfInBounds_toArray, List.set_cons_zero, List.set_cons_succ]
        rfl
      refine take_ (i := 6) (N := (some 16)) (v := ?_) (a' := ?_) #[true, true, true, true, true, true, true, false, false, false, false, false, false, false, false, false, false, false, false, false, false] rfl rfl (by kernel_rfl) (fun _ _ _ h => h) (Or.inl ⟨by rfl, ?_⟩) hHeld ?_ ?_
      rotate_left
      · rintro w' ⟨s0, s1, s2, s3⟩
        go_simp
        with_reducible rfl
      rotate_left
      · simp only [Act.put, List.setIfInBounds_toArray, List.set_cons_zero, List.set_cons_succ]
        rfl
      refine take_ (i := 7) (N := (some 17)) (v := ?_) (a' := ?_) #[true, true, true, true, true, true, true, true, false, false, false, false, false, false, false, false, false, false, false, false, false] rfl rfl (by kernel_rfl) (fun _ _ _ h => h) (Or.inl ⟨by rfl, ?_⟩) hHeld ?_ ?_
      rotate_left
      · rintro w' ⟨s0, s1, s2, s3⟩
        go_simp
        with_reducible rfl
      rotate_left
      · simp only [Act.put, List.setIfInBounds_toArray, List.set_cons_zero, List.set_cons_succ]
        rfl
      refine take_ (i := 8) (N := (some 18)) (v := ?_) (a' := ?_) #[true, true, true, true, true, true, true, true, true, false, false, false, false, false, false, false, false, false, false, false, false] rfl rfl (by kernel_rfl) (fun _ _ _ h => h) (Or.inl ⟨by rfl, ?_⟩) hHeld ?_ ?_
      rotate_left
      · rintro w' ⟨s0, s1, s2, s3⟩
        go_simp
        with_reducible rfl
      rotate_left
      · simp only [Act.put, List.setIfInBounds_toArray, List.set_cons_zero, List.set_cons_succ]
        rfl
      refine take_ (i := 9) (N := (some 19)) (v := ?_) (a' := ?_) #[true, true, true, true, true, true, true, true, true, true, false, false, false, false, false, false, false, false, false, false, false] rfl rfl (by kernel_rfl) (fun _ _ _ h => h) (Or.inl ⟨by rfl, ?_⟩) hHeld ?_ ?_
      rotate_left
      · rintro w' ⟨s0, s1, s2, s3⟩
        go_simp
        with_reducible rfl
      rotate_left
      · simp only [Act.put, List.setIfInBounds_toArray, List.set_cons_zero, List.set_cons_succ]
        rfl
      refine take_ (i := 10) (N := (some 20)) (v := ?_) (a' := ?_) #[true, true, true, true, true, true, true, true, true, true, true, false, false, false, false, false, false, false, false, false, false] rfl rfl (by kernel_rfl) (fun _ _ _ h => h) (Or.inl ⟨by rfl, ?_⟩) hHeld ?_ ?_
      rotate_left
      · rintro w' ⟨s0, s1, s2, s3⟩
        go_simp
        with_reducible rfl
      rotate_left
      · simp only [Act.put, List.setIfInBounds_toArray, List.set_cons_zero, List.set_cons_succ]
        rfl
      refine take_ (i := 11) (N := (some 21)) (v := ?_) (a' := ?_) #[true, true, true, true, true, true, true, true, true, true, true, true, false, false, false, false, false, false, false, false, false] rfl rfl (by kernel_rfl) (fun _ _ _ h => h) (Or.inl ⟨by rfl, ?_⟩) hHeld ?_ ?_
      rotate_left
      · rintro w' ⟨s0, s1, s2, s3⟩
        go_simp
        with_reducible rfl
      rotate_left
      · simp only [Act.put, List.setIfInBounds_toArray, List.set_cons_zero, List.set_cons_succ]
        rfl
      refine take_ (i := 12) (N := (some 22)) (v := ?_) (a' := ?_) #[true, true, true, true, true, true, true, true, true, true, true, true, true, false, false, false, false, false, false, false, false] rfl rfl (by kernel_rfl) (fun _ _ _ h => h) (Or.inl ⟨by rfl, ?_⟩) hHeld ?_ ?_
      rotate_left
      · rintro w' ⟨s0, s1, s2, s3⟩
        go_simp
        with_reducible rfl
      rotate_left
      · simp only [Act.put, List.setIfInBounds_toArray, List.set_cons_zero, List.set_cons_succ]
        rfl
      refine take_ (i := 13) (N := (some 23)) (v := ?_) (a' := ?_) #[true, true, true, true, true, true, true, true, true, true, true, true, true, true, false, false, false, false, false, false, false] rfl rfl (by kernel_rfl) (fun _ _ _ h => h) (Or.inl ⟨by rfl, ?_⟩) hHeld ?_ ?_
      rotate_left
      · rintro w' ⟨s0, s1, s2, s3⟩
        go_simp
        with_reducible rfl
      rotate_left
      · simp only [Act.put, List.setIfInBounds_toArray, List.set_cons_zero, List.set_cons_succ]
        rfl
      refine take_ (i := 14) (N := (some 24)) (v := ?_) (a' := ?_) #[true, true, true, true, true, true, true, true, true, true, true, true, true, true, true, false, false, false, false, false, false] rfl rfl (by kernel_rfl) (fun _ _ _ h => h) (Or.inl ⟨by rfl, ?_⟩) hHeld ?_ ?_
      rotate_left
      · rintro w' ⟨s0, s1, s2, s3⟩
        go_simp
        with_reducible rfl
      rotate_left
      · simp only [Act.put, List.setIfInBounds_toArray, List.set_cons_zero, List.set_cons_succ]
        rfl
      refine one_ (i := 15) (N := (some 25)) #[true, true, true, true, true, true, true, true, true, true, true, true, true, true, true, true, false, false, false, false, false] rfl rfl (by kernel_rfl) (by decide) (fun K hK => ?_)
      go_simp
      have hcall := load_any B ga k a ((ns p).tower 0) wr.drew (HA.out.drewN 1) HW.out (by have := HK.out; omega) HTN.out
      rw [HV.out] at hcall
      go_at_call 19
      refine hcall.mono ?_
      rintro e w4 ⟨rfl, ha, hf⟩
      have HA4 := Aside0.mk ha
      have HFS := Aside0.mk ((FrT.refl TA B wr).drew.trans hf)
      have HF4 := Aside0.mk ((HF.out.drew).trans hf)
      have HO4 := Aside0.mk (hf.R_lives (Kd.R_drew HO.out) (by simp [TA, Kd.string, Kd.scalar]))
      have HL4 := Aside0.mk (HL0.out.kept HF4.out (by simp [TA]) (by simp [TA]) (by simp [TA]))
      clear ha hf hcall
      obtain ⟨Z', cap', d1, _, dz⟩ := (HL0.out.kept HF4.out (by simp [TA]) (by simp [TA]) (by simp [TA])).row h0
      have ezz : Z = Z' ∧ cap = cap' := HL.out.row_same HFS.out HROW.out d1
      obtain ⟨rfl, rfl⟩ := ezz
      dsimp only
      refine hK.out _ _ ⟨HL4.out.c0, d1, dz p hp, (HL4.out.nodeAt p hp).tow 0 (by decide)⟩ (fun hHeld => ?_)
      clear hK K
      refine take_ (i := 16) (N := (some 9)) (v := ?_) (a' := ?_) #[true, true, true, true, true, true, true, true, true, true, true, true, true, true, true, true, true, false, false, false, false] rfl rfl (by kernel_rfl) (fun _ _ _ h => h) (Or.inl ⟨by rfl, ?_⟩) hHeld ?_ ?_
      rotate_left
      · rintro w' ⟨s0, s1, s2, s3⟩
        go_simp
        with_reducible rfl
      rotate_left
      · simp only [Act.put, List.setIfInBounds_toArray, List.set_cons_zero, List.set_cons_succ]
        rfl
      refine take_ (i := 17) (N := (some 26)) (v := ?_) (a' := ?_) #[true, true, true, true, true, true, true, true, true, true, true, true, true, true, true, true, true, true, false, false, false] rfl rfl (by kernel_rfl) (fun _ _ _ h => h) (Or.inl ⟨by rfl, ?_⟩) hHeld ?_ ?_
      rotate_left
      · rintro w' ⟨s0, s1, s2, s3⟩
        go_simp
        with_reducible rfl
      rotate_left
      · simp only [Act.put, List.setIfInBounds_toArray, List.set_cons_zero, List.set_cons_succ]
        rfl
      refine take_ (i := 18) (N := (some 27)) (v := ?_) (a' := ?_) #[true, true, true, true, true, true, true, true, true, true, true, true, true, true, true, true, true, true, true, false, false] rfl rfl (by kernel_rfl) (fun _ _ _ h => h) (Or.inl ⟨by rfl, ?_⟩) hHeld ?_ ?_
      rotate_left
      · rintro w' ⟨s0, s1, s2, s3⟩
        go_simp
        with_reducible rfl
      rotate_left
      · simp only [Act.put, List.setIfInBounds_toArray, List.set_cons_zero, List.set_cons_succ]
        rfl
      refine take_ (i := 19) (N := (some 5)) (v := ?_) (a' := ?_) #[true, true, true, true, true, true, true, true, true, true, true, true, true, true, true, true, true, true, true, true, false] rfl rfl (by kernel_rfl) (fun _ _ _ h => h) (Or.inl ⟨by rfl, ?_⟩) hHeld ?_ ?_
      rotate_left
      · rintro w' ⟨s0, s1, s2, s3⟩
        go_simp
        with_reducible rfl
      rotate_left
      · simp only [Act.put, List.setIfInBounds_toArray, List.set_cons_zero, List.set_cons_succ]
        rfl
      refine take_ (i := 20) (N := (some 6)) (v := ?_) (a' := ?_) #[true, true, true, true, true, true, true, true, true, true, true, true, true, true, true, true, true, true, true, true, true] rfl rfl (by kernel_rfl) (fun _ _ _ h => h) (Or.inl ⟨by rfl, ?_⟩) hHeld ?_ ?_
      rotate_left
      · rintro w' ⟨s0, s1, s2, s3⟩
        go_simp
        with_reducible rfl
      rotate_left
      · simp only [Act.put, List.setIfInBounds_toArray, List.set_cons_zero, List.set_cons_succ]
        rfl
      refine done_ (by kernel_rfl) ?_
      clear l0 c1 cz ct hHeld
      have l0 := HL4.out.c0
      have cz := dz q hq2
      have ck := (HL4.out.nodeAt q hq2).c0
      have hq0 : (q == 0) = false := by rw [beq_eq_false_iff_ne]; omega
      have HNL := Aside0.mk (show ys.length ≤ 1000 by
        have e := congrArg List.length HEQ.out
        have l2 := HLL.out
        simp only [List.length_append, nkeys, List.length_map] at e
        omega)
      go_wp2_with (at_builtin; go_must (refine Kd.R_append Kd.string (w0 := w4) w.heap.size rfl (.tmp 33) (.tmp 44) 22 9 (.string ⟨#[]⟩) 16 rfl Tryd.underlying22 info9 rfl (by decide) (by decide) _ ys (ns q).key [.string (ns q).key] (fun _ => True) (fun _ => False) rfl rfl rfl (fun _ hk => hk.elim) (fun _ _ => trivial) HO4.out (Below.refl _ _) HF4.out.size (by have := HNL.out; omega) ?_; intro v1 w5 ho hb hg hat; have HO5 := Aside0.mk ho; have HA5 := Aside0.mk (HA4.out.grown HO4.out hg (by decide) (by decide)); have HF5 := Aside0.mk (HF4.out.grown_new HO4.out (Nat.le_refl _) HZ.out hg); clear ho hb hg hat))
      refine ⟨⟨ys ++ [(ns q).key], q, M, by go_num, ?_, hq2, HM2, ⟨by have e := HEQ.out; simp only [nkeys, List.map_cons] at e ⊢; rw [← e]; simp⟩, HO5, HA5, HF5⟩, ?_⟩
      · obtain ⟨A, c, e⟩ := Kd.R_slice HO5.out
        rw [e]; rfl
      · obtain ⟨A, c, e⟩ := Kd.R_slice HO5.out
        have h1 := HLN.out
        have h2 := HNL.out
        rw [e, h1]
        simp [lenOf]
        omega
end Go.Proofs.YtmemkmnnededgaaDoor.H
