/- Contract: a skip operation arrives: a key that is there, and an entry of its own. -/
import Derived.Test.YtmemkmnnededgaaDoorD1
import Derived.Test.YtmemkmnnededgaaDoorD3
namespace Go.Proofs.YtmemkmnnededgaaDoor.H
open Go.RowKit Go.Proofs.YtmemkmnnededgaaDoorW.PrintWords Go.Proofs.YtmemkmnnededgaaDoorW.PrintLast Go.Proofs.YtmemkmnnededgaaDoorW.PrintMore
attribute [local go_sem] max2_int min2_int max_two min_two max_three min_three max_four min_four
set_option linter.unusedVariables false
set_option linter.unusedSimpArgs false

set_option maxRecDepth 100000 in
set_option maxHeartbeats 6400000 in
theorem arrived_own (B k n : Nat) (w : World) (ga l o : Nat) (a : Ar) (bs : List Nat) (ns : Nat → SNode) (op : SOp) (hs : KS B w ga l o a bs ns op) (hw : a.Wf k) (hk : k < 1900) (hb : bs.length < 1000) (hn : n < bs.length) (hn1 : 1 ≤ n) (hwn : (ns n).word = wordF (ns n).key) (hwo : op.word = wordF op.key) (his : (wordU (ns n).key == wordU op.key) = true) (hne : n ≠ op.own) (ho : 1 ≤ op.own) (ho2 : op.own < bs.length) (h8 : (ns op.own).height ≤ 8) (hnd : (towerL (ns op.own) (ns op.own).height).Nodup) (htk : ∀ i, i < (ns op.own).height → a.tk ((ns op.own).tower i) = true) :
    Calls Tryd.prog 57 #[.pointer (some ⟨o, 0, none⟩), .int .i64 n] w fun e w' => ∃ a' : Ar, e = .returned (.bool true) ∧ KS B w' ga l o a' bs ns (op.end_ op.key (ns n).ref true 0) ∧ a'.Wf (k + (ns op.own).height) ∧ Gone a a' (towerL (ns op.own) (ns op.own).height) ∧ FrO TK o B w w' := by
  have H := Aside0.mk hs
  have HW := Aside0.mk hw
  have c1 := hs.so.c1
  have c42 := hs.so.c42
  have hrn := Aside0.mk ((H.out.drew.li.nodeAt n hn).word (ns n).key hwn)
  have hro := Aside0.mk (H.out.drew.so.word op.key hwo)
  have hat := fun W (hW : KS B W ga l o a bs ns op) => sat_any B o l ga op bs ns n W hW.so hW.li hn (by omega)
  have n0 : 0 < n := hn1
  have HIS := Aside0.mk his
  have HND := Aside0.mk hnd
  have HTK := Aside0.mk htk
  clear hs hw hwn hwo his hnd htk
  go_enter Tryd.func57, Tryd.ntmps57
  go_wp2_with fail
  refine wp_region_still_lit (by kernel_rfl) (by kernel_rfl) ?_
  repeat still_step
  still_call (hat _ H.out.drew)
  still_step
  still_step
  refine wpStill_load_mid (by rfl) 64 (.tmp 22) rfl bs[n] 1 (by rfl) ((wordU (ns n).key).map u8c) _ hrn.out Tryd.underlying64 rfl (by rw [List.length_map, wordU_len]; exact info64) ?_
  simp only [Act.put, List.setIfInBounds_toArray, List.set_cons_zero, List.set_cons_succ]
  repeat still_step
  refine wpStill_load_mid (by rfl) 64 (.tmp 26) rfl o 3 (by rfl) ((wordU op.key).map u8c) _ hro.out Tryd.underlying64 rfl (by rw [List.length_map, wordU_len]; exact info64) ?_
  simp only [Act.put, List.setIfInBounds_toArray, List.set_cons_zero, List.set_cons_succ]
  refine wpStill_eql_bytes (by rfl) 64 64 5 17 (.tmp 23) (.tmp 27) rfl (wordU (ns n).key) (wordU op.key) (by rfl) (by rfl) Tryd.underlying64 Tryd.underlying5 sizeOf5 (wordU_len _) (wordU_len _) (by kernel_rfl) ?_
  simp only [Act.put, List.setIfInBounds_toArray, List.set_cons_zero, List.set_cons_succ]
  rw [HIS.out]
  repeat still_step
  refine wpStill_nil ?_
  change Exit.then _ _ _ _ w.drew
  have H2 := Aside0.mk H.out.drew
  have F2 := Aside0.mk ((FrO.refl TK o B w).drew)
  clear c1 c42 hrn hro hat HIS
  generalize w.drew = w2 at *
  have c1 := H2.out.so.c1
  have c42 := H2.out.so.c42
  go_wp2_with fail
  have c0 := H2.out.so.c0
  have hat := fun W (hW : KS B W ga l o a bs ns op) => sat_any B o l ga op bs ns op.own W hW.so hW.li ho2 (by omega)
  obtain ⟨nv, hlb, _⟩ := H2.out.li.blk
  have HLB := Aside0.mk hlb
  clear hlb
  refine wp_region_still_tail 10 (by kernel_rfl) (by kernel_rfl) ?_
  simp only [List.take_succ_cons, List.take_zero, List.drop_succ_cons, List.drop_zero]
  repeat still_step
  still_call (hat _ H2.out.drew)
  repeat still_step
  refine wpStill_nil ?_
  change wpList _ _ _ _ _ w2.drew
  have H3 := Aside0.mk H2.out.drew
  have F3 := Aside0.mk F2.out.drew
  have HLB3 := Aside0.mk (blk_drew HLB.out)
  clear c0 c1 c42 hat
  generalize w2.drew = w3 at *
  go_wp2_with fail
  refine (fell_any B k (ns op.own).height l ga bs[op.own] a (ns op.own) w3 H3.out.ar HW.out (by omega) h8 (H3.out.li.nodeAt op.own ho2) rfl nv HLB3.out HND.out HTK.out).mono ?_
  rintro e w4 ⟨a4, rfl, ha, hwf, hg, hf⟩
  have H4 := Aside0.mk (H3.out.arena ha hf)
  have F4 := Aside0.mk (F3.out.thenT hf (by simp [TA, TK]))
  have HW4 := Aside0.mk hwf
  have HG4 := Aside0.mk hg
  clear ha hwf hg hf
  have c1 := H4.out.so.c1
  have c42 := H4.out.so.c42
  go_wp2_with fail
  have c2 := H4.out.so.c2
  have cn := (H4.out.li.nodeAt n hn).c18
  have hat := fun W (hW : KS B W ga l o a4 bs ns op) => sat_any B o l ga op bs ns n W hW.so hW.li hn (by omega)
  have hend := fun W (h : KS B W ga l o a4 bs ns op) => sends_any B o l op op.key (ns n).ref true 0 W h.so
  clear c1 c42
  refine wp_region_still_tail 11 (by kernel_rfl) (by kernel_rfl) ?_
  simp only [List.take_succ_cons, List.take_zero, List.drop_succ_cons, List.drop_zero]
  repeat still_step
  still_call (hat _ H4.out.drew)
  repeat still_step
  refine wpStill_nil ?_
  change wpList _ _ _ _ _ w4.drew
  have H7 := Aside0.mk H4.out.drew
  have F7 := Aside0.mk F4.out.drew
  clear c2 cn hat
  generalize w4.drew = w7 at *
  go_wp2_with fail
  refine (hend w7 H7.out).mono ?_
  rintro e w8 ⟨rfl, h8, f8⟩
  have H8 := Aside0.mk (H7.out.oper h8 f8)
  have F8 := Aside0.mk (F7.out.trans f8.more0)
  clear h8 f8 hend
  go_wp2_with fail
  go_ret
  exact ⟨a4, rfl, H8.out, HW4.out, HG4.out, F8.out⟩
end Go.Proofs.YtmemkmnnededgaaDoor.H
