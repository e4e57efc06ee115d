/- Contract: Bucket. -/
import Derived.Test.YtmemkmnnededgaaDoorB3
namespace Go.Proofs.YtmemkmnnededgaaDoor.H
open Go.RowKit Go.Proofs.YtmemkmnnededgaaDoorW.PrintWords Go.Proofs.YtmemkmnnededgaaDoorW.PrintLast Go.Proofs.YtmemkmnnededgaaDoorW.PrintMore
attribute [local go_sem] max2_int min2_int max_two min_two max_three min_three max_four min_four
set_option linter.unusedVariables false
set_option linter.unusedSimpArgs false

def bucketF (key : ByteArray) (n : Nat) : Nat := (crcF (bytesOf key)).toNat % n
theorem bytesOf_range (s : ByteArray) : ∀ x ∈ bytesOf s, 0 ≤ x ∧ x ≤ 255 := by
  intro x hx
  obtain ⟨b, _, rfl⟩ := List.mem_map.1 hx
  have := b.toNat_lt
  omega
theorem crcF_nat (l : List Int) : ∃ q : Nat, crcF l = (q : Int) ∧ q < 4294967296 := by
  have h : 0 ≤ crcF l ∧ crcF l < 4294967296 := by
    unfold crcF
    show 0 ≤ IntKind.u32.wrap _ ∧ IntKind.u32.wrap _ < 4294967296
    rw [IntKind.wrap_u32]
    omega
  exact ⟨(crcF l).toNat, by omega, by omega⟩
set_option maxRecDepth 100000 in
set_option maxHeartbeats 1600000 in
theorem bucket_any (B h ga : Nat) (heads : List Nat) (ents : List Ent) (key : ByteArray) (w : World) (hh : HtAt B w h ga heads ents) (hk : isKeyB key = true) (hn : 1 ≤ heads.length) (hn2 : heads.length ≤ 256) :
    Calls Tryd.prog 26 #[.pointer (some ⟨h, 0, none⟩), .string key] w fun e w' => e = .returned (.int .i64 (bucketF key heads.length)) ∧ Below w.heap.size w w' := by
  have HH := Aside0.mk hh
  obtain ⟨hge, hv, ev, hb, hR, hE⟩ := hh
  obtain ⟨Ah, ch, rfl⟩ := Kd.R_slice hR
  have hil : (ints heads).length = heads.length := by simp [ints]
  rw [hil] at hb hR
  have HB := Aside0.mk hb
  have HK := Aside0.mk (hk ▸ hisKey_any key w)
  have h1 : w.cell? ⟨h, 1, none⟩ = some (.slice Ah heads.length ch) := (blk_cell hb 1).trans rfl
  have kb := fun W => print_bytes (P := Tryd.prog) 9 83 5 Tryd.underlying9 Tryd.underlying83 Tryd.underlying5 key W
  have HSZ := Aside0.mk (show key.size ≤ 16 by unfold isKeyB at hk; have := of_decide_eq_true hk; omega)
  obtain ⟨q, hq, hq2⟩ := crcF_nat (bytesOf key)
  have HQ := Aside0.mk hq
  have hlz : IntKind.u32.wrap (heads.length : Int) = (heads.length : Int) := by rw [IntKind.wrap_u32]; omega
  have hne : ¬ heads = [] := by intro e; rw [e] at hn; simp at hn
  have htm : ((q : Int)).tmod (heads.length : Int) = ((q % heads.length : Nat) : Int) := by rw [Int.tmod_eq_emod_of_nonneg (by omega)]; push_cast; rfl
  have hlt := Nat.mod_lt q (show 0 < heads.length by omega)
  have HE := Aside0.mk (show bucketF key heads.length = q % heads.length by unfold bucketF; rw [hq]; rfl)
  rw [HE.out]
  generalize q % heads.length = r at *
  have hwr : IntKind.i64.wrap (r : Int) = (r : Int) := by simp [IntKind.wrap, IntKind.bits, IntKind.signed]; omega
  clear hq hb hR hE hil hn
  go_enter Tryd.func26, Tryd.ntmps26
  go_wp2_with fail
  refine HK.out.mono ?_
  rintro e w1 ⟨rfl, rfl⟩
  go_wp2_with fail
  refine start_ (n := 13) (ds := []) (S := fun w' => w'.cell? ⟨h, 1, none⟩ = some (.slice Ah heads.length ch)) #[false, false, false, false, false, false, false, false, false, false, false, false, false] (by kernel_rfl) rfl rfl h1 (fun hHeld => ?_)
  refine take_ (i := 0) (N := (some 12)) (v := ?_) (a' := ?_) #[true, false, false, false, false, false, false, false, false, false, false, false, false] rfl rfl (by kernel_rfl) (fun _ _ _ h => h) (Or.inl ⟨by rfl, ?_⟩) hHeld ?_ ?_
  rotate_left
  · rintro w' s0
    go_simp
    with_reducible rfl
  rotate_left
  · simp only [Act.put, List.setIfInBounds_toArray, List.set_cons_zero, List.set_cons_succ]
    rfl
  refine take_ (i := 4) (N := (some 16)) (v := ?_) (a' := ?_) #[true, false, false, false, true, false, false, false, false, false, false, false, false] rfl rfl (by kernel_rfl) (fun _ _ _ h => h) (Or.inl ⟨by rfl, ?_⟩) hHeld ?_ ?_
  rotate_left
  · rintro w' s0
    go_simp
    with_reducible rfl
  rotate_left
  · simp only [Act.put, List.setIfInBounds_toArray, List.set_cons_zero, List.set_cons_succ]
    rfl
  refine take_ (i := 5) (N := (some 17)) (v := ?_) (a' := ?_) #[true, false, false, false, true, true, false, false, false, false, false, false, false] rfl rfl (by kernel_rfl) (fun _ _ _ h => h) (Or.inl ⟨by rfl, ?_⟩) hHeld ?_ ?_
  rotate_left
  · rintro w' s0
    go_simp
    with_reducible rfl
  rotate_left
  · simp only [Act.put, List.setIfInBounds_toArray, List.set_cons_zero, List.set_cons_succ]
    rfl
  refine take_ (i := 6) (N := (some 18)) (v := ?_) (a' := ?_) #[true, false, false, false, true, true, true, false, false, false, false, false, false] rfl rfl (by kernel_rfl) (fun _ _ _ h => h) (Or.inl ⟨by rfl, ?_⟩) hHeld ?_ ?_
  rotate_left
  · rintro w' s0
    go_simp
    with_reducible rfl
  rotate_left
  · simp only [Act.put, List.setIfInBounds_toArray, List.set_cons_zero, List.set_cons_succ]
    rfl
  refine take_ (i := 7) (N := (some 19)) (v := ?_) (a' := ?_) #[true, false, false, false, true, true, true, true, false, false, false, false, false] rfl rfl (by kernel_rfl) (fun _ _ _ h => h) (Or.inl ⟨by rfl, ?_⟩) hHeld ?_ ?_
  rotate_left
  · rintro w' s0
    go_simp
    with_reducible rfl
  rotate_left
  · simp only [Act.put, List.setIfInBounds_toArray, List.set_cons_zero, List.set_cons_succ]
    rfl
  refine take_ (i := 8) (N := (some 20)) (v := ?_) (a' := ?_) #[true, false, false, false, true, true, true, true, true, false, false, false, false] rfl rfl (by kernel_rfl) (fun _ _ _ h => h) (Or.inl ⟨by rfl, ?_⟩) hHeld ?_ ?_
  rotate_left
  · rintro w' s0
    go_simp
    with_reducible rfl
  rotate_left
  · simp only [Act.put, List.setIfInBounds_toArray, List.set_cons_zero, List.set_cons_succ]
    rfl
  refine take_ (i := 9) (N := (some 21)) (v := ?_) (a' := ?_) #[true, false, false, false, true, true, true, true, true, true, false, false, false] rfl rfl (by kernel_rfl) (fun _ _ _ h => h) (Or.inl ⟨by rfl, ?_⟩) hHeld ?_ ?_
  rotate_left
  · rintro w' s0
    go_simp
    with_reducible rfl
  rotate_left
  · simp only [Act.put, List.setIfInBounds_toArray, List.set_cons_zero, List.set_cons_succ]
    rfl
  refine one_ (i := 1) (N := (some 13)) #[true, true, false, false, true, true, true, true, true, true, false, false, false] rfl rfl (by kernel_rfl) (by decide) (fun K hK => ?_)
  go_simp
  have hbw := bytes_below (Below.refl w1.drew.heap.size w1.drew) (Nat.le_refl _) 5 key
  have HBa := Aside0.mk (blk_below (blk_drew HB.out) hbw)
  have HCa := Aside0.mk (Kd.C_of_reads (enc := Value.int .u8) (h1 := fun _ => rfl) (d := (0 : Int)) (bytes_reads w1.drew 5 key (by have := HSZ.out; omega)))
  have HLa := Aside0.mk (show Below w1.heap.size w1 (Lib.bytesWorld w1.drew 5 key) from (below_drew (Below.refl _ _)).trans hbw)
  generalize grownCap w1.drew key.size 0 5 = ck at *
  clear hbw
  generalize Lib.bytesWorld w1.drew 5 key = wa at *
  refine hK.out _ _ ((blk_cell HBa.out 1).trans rfl) (fun hHeld => ?_)
  clear hK K
  refine one_ (i := 2) (N := (some 14)) #[true, true, true, false, true, true, true, true, true, true, false, false, false] rfl rfl (by kernel_rfl) (by decide) (fun K hK => ?_)
  go_simp
  have HBb := Aside0.mk (blk_alloc HBa.out (.cells #[.slice (some ⟨w1.heap.size, 0, none⟩) key.size ck] 83))
  have HCb := Aside0.mk (Kd.C_alloc HCa.out (.cells #[.slice (some ⟨w1.heap.size, 0, none⟩) key.size ck] 83))
  have HLb := Aside0.mk (HLa.out.alloc HLa.out.size (.cells #[.slice (some ⟨w1.heap.size, 0, none⟩) key.size ck] 83))
  have HXb := Aside0.mk (blk_new wa (.cells #[.slice (some ⟨w1.heap.size, 0, none⟩) key.size ck] 83))
  generalize wa.alloc (.cells #[.slice (some ⟨w1.heap.size, 0, none⟩) key.size ck] 83) = wb at *
  generalize wa.heap.size = zb at *
  refine hK.out _ _ ((blk_cell HBb.out 1).trans rfl) (fun hHeld => ?_)
  clear hK K
  refine one_ (i := 3) (N := (some 15)) #[true, true, true, true, true, true, true, true, true, true, false, false, false] rfl rfl (by kernel_rfl) (by decide) (fun K hK => ?_)
  go_simp
  have hcr := crc_any zb (some ⟨w1.heap.size, 0, none⟩) ck (bytesOf key) wb (by rw [bytesOf_length]; exact (blk_cell HXb.out 0).trans rfl) (by rw [bytesOf_length]; have h2 := HCb.out; exact h2) (by rw [bytesOf_length]; have := HSZ.out; omega) (bytesOf_range key)
  rw [HQ.out] at hcr
  go_at_call 40
  refine hcr.mono ?_
  rintro e w3 ⟨rfl, rfl⟩
  dsimp only
  refine hK.out _ _ ((blk_cell HBb.out 1).trans rfl) (fun hHeld => ?_)
  clear hK K hcr
  refine take_ (i := 10) (N := (some 22)) (v := ?_) (a' := ?_) #[true, true, true, true, true, true, true, true, true, true, true, false, false] rfl rfl (by kernel_rfl) (fun _ _ _ h => h) (Or.inl ⟨by rfl, ?_⟩) hHeld ?_ ?_
  rotate_left
  · rintro w' s0
    go_simp
    with_reducible rfl
  rotate_left
  · simp only [Act.put, List.setIfInBounds_toArray, List.set_cons_zero, List.set_cons_succ]
    rfl
  refine take_ (i := 11) (N := (some 23)) (v := ?_) (a' := ?_) #[true, true, true, true, true, true, true, true, true, true, true, true, false] rfl rfl (by kernel_rfl) (fun _ _ _ h => h) (Or.inl ⟨by rfl, ?_⟩) hHeld ?_ ?_
  rotate_left
  · rintro w' s0
    go_simp
    with_reducible rfl
  rotate_left
  · simp only [Act.put, List.setIfInBounds_toArray, List.set_cons_zero, List.set_cons_succ]
    rfl
  refine take_ (i := 12) (N := (some 4)) (v := ?_) (a' := ?_) #[true, true, true, true, true, true, true, true, true, true, true, true, true] rfl rfl (by kernel_rfl) (fun _ _ _ h => h) (Or.inl ⟨by rfl, ?_⟩) hHeld ?_ ?_
  rotate_left
  · rintro w' s0
    go_simp
    with_reducible rfl
  rotate_left
  · simp only [Act.put, List.setIfInBounds_toArray, List.set_cons_zero, List.set_cons_succ]
    rfl
  refine done_ (by kernel_rfl) ?_
  go_wp2_with fail
  go_ret
  exact ⟨rfl, HLb.out⟩
end Go.Proofs.YtmemkmnnededgaaDoor.H
