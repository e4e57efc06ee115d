/- Contract: the keys of a hash table. -/
import Derived.Test.YtmemkmnnededgaaDoorB10
import Derived.Test.YtmemkmnnededgaaDoorB12s
namespace Go.Proofs.YtmemkmnnededgaaDoor.H
open Go.RowKit Go.Proofs.YtmemkmnnededgaaDoorW.PrintWords Go.Proofs.YtmemkmnnededgaaDoorW.PrintLast Go.Proofs.YtmemkmnnededgaaDoorW.PrintMore
attribute [local go_sem] max2_int min2_int max_two min_two max_three min_three max_four min_four
set_option linter.unusedVariables false
set_option linter.unusedSimpArgs false

def headAt (heads : List Nat) (b : Nat) : Nat := heads.getD b 0
/-- The list L of entries hangs at the word n. -/
def Chv (a : Ar) (ents : List Ent) : List Nat → Nat → Prop
  | [], n => n = 0
  | m :: L, n => n = m ∧ 1 ≤ m ∧ m ≤ ents.length ∧ a.tk (entAt ents m).next = true ∧ ∃ n' : Nat, a.val (entAt ents m).next = (n' : Int) ∧ Chv a ents L n'
def keysOf (ents : List Ent) (L : List Nat) : List ByteArray := L.map fun m => (entAt ents m).key
def keysUp (ents : List Ent) (cs : Nat → List Nat) : Nat → List ByteArray
  | 0 => []
  | i + 1 => keysUp ents cs i ++ keysOf ents (cs i)
def lenOf : Value → Nat
  | .slice _ n _ => n
  | _ => 0
theorem keysUp_len (ents : List Ent) (cs : Nat → List Nat) (n : Nat) (h : ∀ b, b < n → (cs b).length ≤ 1000) : (keysUp ents cs n).length ≤ n * 1000 := by
  induction n with
  | zero => simp [keysUp]
  | succ n ih =>
    have := ih (fun b hb => h b (by omega))
    have := h n (by omega)
    simp only [keysUp, List.length_append, keysOf, List.length_map]
    omega
theorem HtAt.heads {B : Nat} {w : World} {h ga : Nat} {heads : List Nat} {ents : List Ent} (hh : HtAt B w h ga heads ents) (h1 : 1 ≤ heads.length) :
    ∃ Z cap, w.cell? ⟨h, 1, none⟩ = some (.slice (some ⟨Z, 0, none⟩) heads.length cap) ∧ heads.length ≤ cap ∧ ∀ w', FrT TA B w w' → ∀ b, b < heads.length → w'.cell? ⟨Z, b, none⟩ = some (.int .i64 (headAt heads b)) := by
  obtain ⟨Z, cap, c1, hcap, _⟩ := hh.head 0 (by omega)
  refine ⟨Z, cap, c1, hcap, fun w' hf b hb => ?_⟩
  obtain ⟨Z', cap', c1', _, c2⟩ := (hh.kept hf (by simp [TA]) (by simp [TA]) (by simp [TA])).head b hb
  obtain ⟨hge, hv, ev, hbk, _⟩ := hh
  have e1 := (blk_cell (hf.blk hbk (by simp [TA])) 1).symm.trans c1'
  have e2 := (blk_cell hbk 1).symm.trans c1
  have e := e1.symm.trans e2
  injection e with e
  injection e with e
  injection e with e
  injection e with e
  rw [← e]
  exact c2
theorem FrT.grown_new {T : List TypeId} {B : Nat} {w w1 w2 : World} {α : Type} {d : Kd α} {e base : Nat} {ok : Nat → Prop} {v : Value} {xs : List α} (h : FrT T B w w1) (hv : d.R e w1 base ok v xs) (hbase : w.heap.size ≤ base) (hB : B ≤ w.heap.size) (hg : w1.grownBy w2 v.ownBlock) : FrT T B w w2 :=
  ⟨h.below.grown hg (Nat.le_trans hB h.size) (fun k hk => Nat.le_trans hB (Nat.le_trans hbase (Kd.R_base hv k hk))), fun k cs t fr hk ht => by
    have h2 := h.kept k cs t fr hk ht
    refine (hg.block k (blk_lt h2) (fun e2 => ?_)).trans h2
    have := Kd.R_base hv k e2.symm
    have := blk_lt hk
    omega⟩
/-- The arena, where a row of another type grows. -/
theorem ArAt.grown {B g : Nat} {a : Ar} {w w1 : World} {β : Type} {d2 : Kd β} {e2 base2 : Nat} {ok2 : Nat → Prop} {v2 : Value} {ys : List β} (h : ArAt B w g a) (h2 : d2.R e2 w base2 ok2 v2 ys) (hg : w.grownBy w1 v2.ownBlock) (h51 : 51 ≠ e2) (h48 : 48 ≠ e2) : ArAt B w1 g a := by
  obtain ⟨hge, hv, st, hC, hR⟩ := h
  refine ⟨hge, hv, st, hC.grown hg (fun e => ?_), R_grown_type hR h2 hg (fun q hq => ?_)⟩
  · obtain ⟨cs, hb, _⟩ := hC
    obtain ⟨inner, ho⟩ := Kd.R_own h2
    obtain ⟨cs2, hc2⟩ := own_typed ho g e.symm
    rw [hb] at hc2
    injection hc2 with hc2
    injection hc2 with _ hc2
    exact h51 hc2
  · simp [Kd.int, Kd.scalar] at hq
    rw [hq]; exact h48
theorem info9 : (Tryd.prog.info? 9).map (fun i => (i.zero, i.size, i.bytes)) = some (some (.string ⟨#[]⟩), 1, 16) := by kernel_rfl

set_option maxRecDepth 100000 in
set_option maxHeartbeats 6400000 in
theorem keys_any (B k : Nat) (w : World) (ga h : Nat) (a : Ar) (heads : List Nat) (ents : List Ent) (ht : HtAt B w h ga heads ents) (har : ArAt B w ga a) (hw : a.Wf k) (hk : k < 1980) (hl : ents.length < 1000) (hh1 : 1 ≤ heads.length) (hh2 : heads.length ≤ 256) (cs : Nat → List Nat) (hcs : ∀ b, b < heads.length → (cs b).length ≤ 1000)
    (hc : ∀ b, b < heads.length → a.tk (headAt heads b) = true ∧ ∃ n : Nat, a.val (headAt heads b) = (n : Int) ∧ Chv a ents (cs b) n) :
    Calls Tryd.prog 10 #[.pointer (some ⟨h, 0, none⟩)] w fun e w' => ∃ v : Value, e = .returned v ∧ Kd.string.R 9 w' w.heap.size (fun _ => True) v (sortB (keysUp ents cs heads.length)) ∧ ArAt B w' ga a ∧ FrT TA B w w' := by
  obtain ⟨Zh, ch, c1, hch, hhd⟩ := ht.heads hh1
  have HT := Aside0.mk ht
  have HAR := Aside0.mk har
  have HW := Aside0.mk hw
  have HK := Aside0.mk hk
  have HL := Aside0.mk hl
  have H1 := Aside0.mk (And.intro hh1 hh2)
  have HC := Aside0.mk hc
  have HCS := Aside0.mk hcs
  have HHD := Aside0.mk hhd
  have hz : B ≤ w.heap.size := Nat.le_trans har.ge (Nat.le_of_lt har.lt)
  have HZ := Aside0.mk hz
  have hhl : heads.length < 1000 := by omega
  clear ht har hw hk hl hh1 hh2 hc hhd hz hcs
  go_enter Tryd.func10, Tryd.ntmps10
  go_wp2_with fail
  go_loopw [3, 15] (fun v3 v15 w' => ∃ (i : Nat), v15 = .int .i64 i ∧ i ≤ heads.length ∧ Aside0 (Kd.string.R 9 w' w.heap.size (fun _ => True) v3 (keysUp ents cs i)) ∧ Aside0 (ArAt B w' ga a) ∧ Aside0 (FrT TA B w w')) (fun _ v15 _ => heads.length - (intOf v15).toNat)
  case atStart => exact ⟨0, rfl, by omega, ⟨Kd.R_nil _ _ _ _ _⟩, HAR, ⟨FrT.refl _ _ _⟩⟩
  case round =>
    obtain ⟨i, rfl, hi, HO, HA, HF⟩ := hrel
    by_cases hin : i = heads.length
    · subst hin
      have hkl := keysUp_len ents cs heads.length HCS.out
      have HLN := Aside0.mk (show (keysUp ents cs heads.length).length < 1000000 by have := H1.out.2; omega)
      clear hkl
      go_wp2_with fail
      refine (sort_any wr w.heap.size u3 _ HLN.out HO.out).mono ?_
      rintro e w1 ⟨rfl, hr, hg⟩
      have HR1 := Aside0.mk hr
      have HA1 := Aside0.mk (HA.out.grown HO.out hg (by decide) (by decide))
      have HF1 := Aside0.mk (HF.out.grown_new HO.out (Nat.le_refl _) HZ.out hg)
      clear hr hg
      go_wp2_with fail
      go_ret
      exact ⟨_, rfl, HR1.out, HA1.out, HF1.out⟩
    · have hlt : i < heads.length := by omega
      have hh := HHD.out wr HF.out i hlt
      obtain ⟨htk, n0, hv0, hch0⟩ := HC.out i hlt
      have hcall := load_any B ga k a (headAt heads i) wr HA.out HW.out (by have := HK.out; omega) htk
      rw [hv0] at hcall
      have HCH := Aside0.mk hch0
      have HCALL := Aside0.mk hcall
      have HT1 := Aside0.mk (HT.out.kept HF.out (by simp [TA]) (by simp [TA]) (by simp [TA]))
      have d0 : wr.cell? ⟨h, 0, none⟩ = some (.pointer (some ⟨ga, 0, none⟩)) := by
        obtain ⟨_, hv, ev, hb, _⟩ := HT1.out
        exact (blk_cell hb 0).trans rfl
      clear htk hv0 hch0 hcall
      go_wp2_with fail
      refine HCALL.out.mono ?_
      rintro e w1 ⟨rfl, ha, hf⟩
      have HA1 := Aside0.mk ha
      have HF1 := Aside0.mk (HF.out.trans hf)
      have HO1 := Aside0.mk (hf.R_lives HO.out (by simp [TA, Kd.string, Kd.scalar]))
      clear ha hf HCALL d0 hh
      go_wp2_with fail
      go_loopw [3, 6] (fun v3 v6 w' => ∃ (ys : List ByteArray) (L : List Nat) (n : Nat), v6 = .int .u64 n ∧ lenOf v3 = ys.length ∧ Aside0 (Chv a ents L n) ∧ Aside0 (ys ++ keysOf ents L = keysUp ents cs i ++ keysOf ents (cs i)) ∧ Aside0 (Kd.string.R 9 w' w.heap.size (fun _ => True) v3 ys) ∧ Aside0 (ArAt B w' ga a) ∧ Aside0 (FrT TA B w w')) (fun v3 _ _ => 1000000 - lenOf v3)
      case atStart =>
        refine ⟨keysUp ents cs i, cs i, n0, rfl, ?_, HCH, ⟨rfl⟩, HO1, HA1, HF1⟩
        obtain ⟨A, c, e⟩ := Kd.R_slice HO.out
        rw [e]; rfl
      case round =>
        obtain ⟨ys, L, n, rfl, hlen, HCV, HEQ, HO2, HA2, HF2⟩ := hrel
        have HLN := Aside0.mk hlen
        clear hlen
        cases L with
        | nil =>
          have hn : n = 0 := HCV.out
          subst hn
          go_wp2_with fail
          refine ⟨⟨i + 1, by go_num, by omega, ⟨?_⟩, HA2, HF2⟩, by simp [intOf]; omega⟩
          have e := HEQ.out
          simp only [keysOf, List.map_nil, List.append_nil] at e
          show Kd.string.R 9 _ _ _ _ (keysUp ents cs i ++ keysOf ents (cs i))
          rw [keysOf, ← e]
          exact HO2.out
        | cons m L =>
          obtain ⟨hm, m1, m2, mt, n', mv, mc⟩ := HCV.out
          subst hm
          have HOL := Aside0.mk (And.intro m1 m2)
          have HTN := Aside0.mk mt
          have HV := Aside0.mk mv
          have HMC := Aside0.mk mc
          have hm0 : (0 : Int) < (n : Int) := by omega
          clear m1 m2 mt mv mc
          have HT2 := Aside0.mk (HT.out.kept HF2.out (by simp [TA]) (by simp [TA]) (by simp [TA]))
          obtain ⟨Ze, cape, e2, hcape, ek, _, en⟩ := HT2.out.ent n HOL.out.1 HOL.out.2
          go_wp2_with fail
          refine (at_any Ze ents.length cape n _ HOL.out.1 HOL.out.2 (by have := HL.out; omega)).mono ?_
          rintro e wx ⟨rfl, rfl⟩
          have HNL := Aside0.mk (show ys.length ≤ 300000 by
            have e := congrArg List.length HEQ.out
            have l1 := keysUp_len ents cs i (fun b hb => HCS.out b (by omega))
            have l2 := HCS.out i hlt
            have := H1.out.2
            simp only [List.length_append, keysOf, List.length_map] at e
            omega)
          go_wp2_with (at_builtin; go_must (refine Kd.R_append Kd.string (w0 := wx) w.heap.size rfl (.tmp 47) (.tmp 57) 22 9 (.string ⟨#[]⟩) 16 rfl Tryd.underlying22 info9 rfl (by decide) (by decide) _ ys (entAt ents n).key [.string (entAt ents n).key] (fun _ => True) (fun _ => False) rfl rfl rfl (fun _ hk => hk.elim) (fun _ _ => trivial) HO2.out (Below.refl _ _) HF2.out.size (by have := HNL.out; omega) ?_; intro v1 w5 ho hb hg hat; have HO5 := Aside0.mk ho; have HA5 := Aside0.mk (HA2.out.grown HO2.out hg (by decide) (by decide)); have HF5 := Aside0.mk (HF2.out.grown_new HO2.out (Nat.le_refl _) HZ.out hg); clear ho hb hg hat))
          clear e2 ek en
          have HT5 := Aside0.mk (HT.out.kept HF5.out (by simp [TA]) (by simp [TA]) (by simp [TA]))
          obtain ⟨Ze, cape, d2, hcape, _, _, d3⟩ := HT5.out.ent n HOL.out.1 HOL.out.2
          have d0 : w5.cell? ⟨h, 0, none⟩ = some (.pointer (some ⟨ga, 0, none⟩)) := by
            obtain ⟨_, hv, ev, hb, _⟩ := HT5.out
            exact (blk_cell hb 0).trans rfl
          go_wp2_with fail
          refine start_ (n := 18) (ds := []) (S := fun w' => w'.cell? ⟨h, 0, none⟩ = some (.pointer (some ⟨ga, 0, none⟩)) ∧ w'.cell? ⟨h, 2, none⟩ = some (.slice (some ⟨Ze, 0, none⟩) ents.length cape) ∧ w'.cell? ⟨Ze, (n - 1) * 3 + 2, none⟩ = some (.int .i64 (entAt ents n).next)) #[false, false, false, false, false, false, false, false, false, false, false, false, false, false, false, false, false, false] (by kernel_rfl) rfl rfl ⟨d0, d2, d3⟩ (fun hHeld => ?_)
          refine take_ (i := 0) (N := (some 31)) (v := ?_) (a' := ?_) #[true, false, false, false, false, false, false, false, false, false, false, false, false, false, false, false, false, false] rfl rfl (by kernel_rfl) (fun _ _ _ h => h) (Or.inl ⟨by rfl, ?_⟩) hHeld ?_ ?_
          rotate_left
          · rintro w' ⟨s0, s1, s2⟩
            go_simp
            with_reducible rfl
          rotate_left
          · simp only [Act.put, List.setIfInBounds_toArray, List.set_cons_zero, List.set_cons_succ]
            rfl
          refine take_ (i := 1) (N := (some 32)) (v := ?_) (a' := ?_) #[true, true, false, false, false, false, false, false, false, false, false, false, false, false, false, false, false, false] rfl rfl (by kernel_rfl) (fun _ _ _ h => h) (Or.inl ⟨by rfl, ?_⟩) hHeld ?_ ?_
          rotate_left
          · rintro w' ⟨s0, s1, s2⟩
            go_simp
            with_reducible rfl
          rotate_left
          · simp only [Act.put, List.setIfInBounds_toArray, List.set_cons_zero, List.set_cons_succ]
            rfl
          refine take_ (i := 2) (N := (some 33)) (v := ?_) (a' := ?_) #[true, true, true, false, false, false, false, false, false, false, false, false, false, false, false, false, false, false] rfl rfl (by kernel_rfl) (fun _ _ _ h => h) (Or.inl ⟨by rfl, ?_⟩) hHeld ?_ ?_
          rotate_left
          · rintro w' ⟨s0, s1, s2⟩
            go_simp
            with_reducible rfl
          rotate_left
          · simp only [Act.put, List.setIfInBounds_toArray, List.set_cons_zero, List.set_cons_succ]
            rfl
          refine take_ (i := 3) (N := (some 34)) (v := ?_) (a' := ?_) #[true, true, true, true, false, false, false, false, false, false, false, false, false, false, false, false, false, false] rfl rfl (by kernel_rfl) (fun _ _ _ h => h) (Or.inl ⟨by rfl, ?_⟩) hHeld ?_ ?_
          rotate_left
          · rintro w' ⟨s0, s1, s2⟩
            go_simp
            with_reducible rfl
          rotate_left
          · simp only [Act.put, List.setIfInBounds_toArray, List.set_cons_zero, List.set_cons_succ]
            rfl
          refine take_ (i := 4) (N := (some 35)) (v := ?_) (a' := ?_) #[true, true, true, true, true, false, false, false, false, false, false, false, false, false, false, false, false, false] rfl rfl (by kernel_rfl) (fun _ _ _ h => h) (Or.inl ⟨by rfl, ?_⟩) hHeld ?_ ?_
          rotate_left
          · rintro w' ⟨s0, s1, s2⟩
            go_simp
            with_reducible rfl
          rotate_left
          · simp only [Act.put, List.setIfInBounds_toArray, List.set_cons_zero, List.set_cons_succ]
            rfl
          refine take_ (i := 5) (N := (some 36)) (v := ?_) (a' := ?_) #[true, true, true, true, true, true, false, false, false, false, false, false, false, false, false, false, false, false] rfl rfl (by kernel_rfl) (fun _ _ _ h => h) (Or.inl ⟨by rfl, ?_⟩) hHeld ?_ ?_
          rotate_left
          · rintro w' ⟨s0, s1, s2⟩
            go_simp
            with_reducible rfl
          rotate_left
          · simp only [Act.put, List.setIfInBounds_toArray, List.set_cons_zero, List.set_cons_succ]
            rfl
          refine take_ (i := 6) (N := (some 37)) (v := ?_) (a' := ?_) #[true, true, true, true, true, true, true, false, false, false, false, false, false, false, false, false, false, false] rfl rfl (by kernel_rfl) (fun _ _ _ h => h) (Or.inl ⟨by rfl, ?_⟩) hHeld ?_ ?_
          rotate_left
          · rintro w' ⟨s0, s1, s2⟩
            go_simp
            with_reducible rfl
          rotate_left
          · simp only [Act.put, List.setIfInBounds_toArray, List.set_cons_zero, List.set_cons_succ]
            rfl
          refine take_ (i := 7) (N := (some 38)) (v := ?_) (a' := ?_) #[true, true, true, true, true, true, true, true, false, false, false, false, false, false, false, false, false, false] rfl rfl (by kernel_rfl) (fun _ _ _ h => h) (Or.inl ⟨by rfl, ?_⟩) hHeld ?_ ?_
          rotate_left
          · rintro w' ⟨s0, s1, s2⟩
            go_simp
            with_reducible rfl
          rotate_left
          · simp only [Act.put, List.setIfInBounds_toArray, List.set_cons_zero, List.set_cons_succ]
            rfl
          refine take_ (i := 8) (N := (some 39)) (v := ?_) (a' := ?_) #[true, true, true, true, true, true, true, true, true, false, false, false, false, false, false, false, false, false] rfl rfl (by kernel_rfl) (fun _ _ _ h => h) (Or.inl ⟨by rfl, ?_⟩) hHeld ?_ ?_
          rotate_left
          · rintro w' ⟨s0, s1, s2⟩
            go_simp
            with_reducible rfl
          rotate_left
          · simp only [Act.put, List.setIfInBounds_toArray, List.set_cons_zero, List.set_cons_succ]
            rfl
          refine one_ (i := 9) (N := (some 40)) #[true, true, true, true, true, true, true, true, true, true, false, false, false, false, false, false, false, false] rfl rfl (by kernel_rfl) (by decide) (fun K hK => ?_)
          go_simp
          go_at_call 20
          refine (at_any Ze ents.length cape n _ HOL.out.1 HOL.out.2 (by have := HL.out; omega)).mono ?_
          rintro e wx ⟨rfl, rfl⟩
          dsimp only
          refine hK.out _ _ hHeld (fun hHeld => ?_)
          clear hK K
          refine take_ (i := 10) (N := (some 41)) (v := ?_) (a' := ?_) #[true, true, true, true, true, true, true, true, true, true, true, false, false, false, false, false, false, false] rfl rfl (by kernel_rfl) (fun _ _ _ h => h) (Or.inl ⟨by rfl, ?_⟩) hHeld ?_ ?_
          rotate_left
          · rintro w' ⟨s0, s1, s2⟩
            go_simp
            with_reducible rfl
          rotate_left
          · simp only [Act.put, List.setIfInBounds_toArray, List.set_cons_zero, List.set_cons_succ]
            rfl
          refine take_ (i := 11) (N := (some 42)) (v := ?_) (a' := ?_) #[true, true, true, true, true, true, true, true, true, true, true, true, false, false, false, false, false, false] rfl rfl (by kernel_rfl) (fun _ _ _ h => h) (Or.inl ⟨by rfl, ?_⟩) hHeld ?_ ?_
          rotate_left
          · rintro w' ⟨s0, s1, s2⟩
            go_simp
            with_reducible rfl
          rotate_left
          · simp only [Act.put, List.setIfInBounds_toArray, List.set_cons_zero, List.set_cons_succ]
            rfl
          refine take_ (i := 12) (N := (some 43)) (v := ?_) (a' := ?_) #[true, true, true, true, true, true, true, true, true, true, true, true, true, false, false, false, false, false] rfl rfl (by kernel_rfl) (fun _ _ _ h => h) (Or.inl ⟨by rfl, ?_⟩) hHeld ?_ ?_
          rotate_left
          · rintro w' ⟨s0, s1, s2⟩
            go_simp
            with_reducible rfl
          rotate_left
          · simp only [Act.put, List.setIfInBounds_toArray, List.set_cons_zero, List.set_cons_succ]
            rfl
          refine one_ (i := 13) (N := (some 44)) #[true, true, true, true, true, true, true, true, true, true, true, true, true, true, false, false, false, false] rfl rfl (by kernel_rfl) (by decide) (fun K hK => ?_)
          go_simp
          have hcall := load_any B ga k a (entAt ents n).next w5.drew (show ArAt B w5.drew ga a from HA5.out.drewN 1) HW.out (by have := HK.out; omega) HTN.out
          rw [HV.out] at hcall
          go_at_call 19
          refine hcall.mono ?_
          rintro e w6 ⟨rfl, ha, hf⟩
          have HA6 := Aside0.mk ha
          have HF6 := Aside0.mk (HF5.out.drew.trans hf)
          have HO6 := Aside0.mk ((((FrT.refl TA B w5).drew).trans hf).R_lives HO5.out (by simp [TA, Kd.string, Kd.scalar]))
          have e6 := ent_kept (((FrT.refl TA B w5).drew).trans hf) HT5.out d2 d3
          have HT6 := Aside0.mk (HT.out.kept HF6.out (by simp [TA]) (by simp [TA]) (by simp [TA]))
          have d6 : w6.cell? ⟨h, 0, none⟩ = some (.pointer (some ⟨ga, 0, none⟩)) := by
            obtain ⟨_, hv, ev, hb, _⟩ := HT6.out
            exact (blk_cell hb 0).trans rfl
          clear ha hf hcall
          dsimp only
          refine hK.out _ _ ⟨d6, e6.1, e6.2⟩ (fun hHeld => ?_)
          clear hK K
          refine take_ (i := 14) (N := (some 30)) (v := ?_) (a' := ?_) #[true, true, true, true, true, true, true, true, true, true, true, true, true, true, true, false, false, false] rfl rfl (by kernel_rfl) (fun _ _ _ h => h) (Or.inl ⟨by rfl, ?_⟩) hHeld ?_ ?_
          rotate_left
          · rintro w' ⟨s0, s1, s2⟩
            go_simp
            with_reducible rfl
          rotate_left
          · simp only [Act.put, List.setIfInBounds_toArray, List.set_cons_zero, List.set_cons_succ]
            rfl
          refine take_ (i := 15) (N := (some 45)) (v := ?_) (a' := ?_) #[true, true, true, true, true, true, true, true, true, true, true, true, true, true, true, true, false, false] rfl rfl (by kernel_rfl) (fun _ _ _ h => h) (Or.inl ⟨by rfl, ?_⟩) hHeld ?_ ?_
          rotate_left
          · rintro w' ⟨s0, s1, s2⟩
            go_simp
            with_reducible rfl
          rotate_left
          · simp only [Act.put, List.setIfInBounds_toArray, List.set_cons_zero, List.set_cons_succ]
            rfl
          refine take_ (i := 16) (N := (some 46)) (v := ?_) (a' := ?_) #[true, true, true, true, true, true, true, true, true, true, true, true, true, true, true, true, true, false] rfl rfl (by kernel_rfl) (fun _ _ _ h => h) (Or.inl ⟨by rfl, ?_⟩) hHeld ?_ ?_
          rotate_left
          · rintro w' ⟨s0, s1, s2⟩
            go_simp
            with_reducible rfl
          rotate_left
          · simp only [Act.put, List.setIfInBounds_toArray, List.set_cons_zero, List.set_cons_succ]
            rfl
          refine take_ (i := 17) (N := (some 6)) (v := ?_) (a' := ?_) #[true, true, true, true, true, true, true, true, true, true, true, true, true, true, true, true, true, true] rfl rfl (by kernel_rfl) (fun _ _ _ h => h) (Or.inl ⟨by rfl, ?_⟩) hHeld ?_ ?_
          rotate_left
          · rintro w' ⟨s0, s1, s2⟩
            go_simp
            with_reducible rfl
          rotate_left
          · simp only [Act.put, List.setIfInBounds_toArray, List.set_cons_zero, List.set_cons_succ]
            rfl
          refine done_ (by kernel_rfl) ?_
          clear d0 d2 d3 d6 e6
          go_wp2_with fail
          refine ⟨⟨ys ++ [(entAt ents n).key], L, n', rfl, ?_, HMC, ⟨?_⟩, HO6, HA6, HF6⟩, ?_⟩
          · obtain ⟨A, c, e⟩ := Kd.R_slice HO6.out
            rw [e]; rfl
          · have e := HEQ.out
            rw [← e]
            simp [keysOf]
          · obtain ⟨A, c, e⟩ := Kd.R_slice HO6.out
            have h1 := HLN.out
            have h2 := HNL.out
            rw [e]
            show 1000000 - (ys ++ [(entAt ents n).key]).length < 1000000 - lenOf u3
            rw [h1, List.length_append]
            simp only [List.length_cons, List.length_nil]
            omega
end Go.Proofs.YtmemkmnnededgaaDoor.H
