/- Contract: a skip operation arrives: it lays. -/
import Derived.Test.YtmemkmnnededgaaDoorD1
import Derived.Test.YtmemkmnnededgaaDoorD3
namespace Go.Proofs.YtmemkmnnededgaaDoor.H
open Go.RowKit Go.Proofs.YtmemkmnnededgaaDoorW.PrintWords Go.Proofs.YtmemkmnnededgaaDoorW.PrintLast Go.Proofs.YtmemkmnnededgaaDoorW.PrintMore
attribute [local go_sem] max2_int min2_int max_two min_two max_three min_three max_four min_four
set_option linter.unusedVariables false
set_option linter.unusedSimpArgs false

set_option maxRecDepth 100000 in
set_option maxHeartbeats 6400000 in
theorem arrived_lay0 (B k n : Nat) (w : World) (ga l o : Nat) (a : Ar) (bs : List Nat) (ns : Nat → SNode) (op : SOp) (hs : KS B w ga l o a bs ns op) (hw : a.Wf k) (hk : k < 1900) (hb : bs.length < 1000) (hn0 : n = 0) (ho : 1 ≤ op.own) :
    Calls Tryd.prog 57 #[.pointer (some ⟨o, 0, none⟩), .int .i64 n] w fun e w' => e = .returned (.bool false) ∧ KS B w' ga l o a bs ns { op with does := 1 } ∧ FrO TK o B w w' := by
  subst hn0
  have H := Aside0.mk hs
  have HW := Aside0.mk hw
  have c1 := hs.so.c1
  have c42 := hs.so.c42
  clear hs hw
  go_enter Tryd.func57, Tryd.ntmps57
  go_wp2_with fail
  go_quiet (fail)
  have H2 := Aside0.mk (H.out.drewN nq)
  have F2 := Aside0.mk ((FrO.refl TK o B w).drewN nq)
  clear c1 c42
  go_upto_region 2 with fail
  generalize w.drewN nq = w2 at *
  have c1 := H2.out.so.c1
  have c42 := H2.out.so.c42
  have c22 := H2.out.so.c22
  have f22 := H2.out.so.f 22
  have o0 : 0 < op.own := ho
  go_wp2_with fail
  go_ret
  exact ⟨rfl, H2.out.setOp (op' := { op with does := 1 }) 22 (.int .i64 1) (by refine sop_set (fun j hj hn => ?_) rfl; simp only [sopCell, if_neg hn]), F2.out.set H2.out.so.ge 22 _⟩
set_option maxRecDepth 100000 in
set_option maxHeartbeats 6400000 in
theorem arrived_lay (B k n : Nat) (w : World) (ga l o : Nat) (a : Ar) (bs : List Nat) (ns : Nat → SNode) (op : SOp) (hs : KS B w ga l o a bs ns op) (hw : a.Wf k) (hk : k < 1900) (hb : bs.length < 1000) (hn : n < bs.length) (hn1 : 1 ≤ n) (hwn : (ns n).word = wordF (ns n).key) (hwo : op.word = wordF op.key) (his : (wordU (ns n).key == wordU op.key) = false) (ho : 1 ≤ op.own) :
    Calls Tryd.prog 57 #[.pointer (some ⟨o, 0, none⟩), .int .i64 n] w fun e w' => e = .returned (.bool false) ∧ KS B w' ga l o a bs ns { op with does := 1 } ∧ FrO TK o B w w' := by
  have H := Aside0.mk hs
  have HW := Aside0.mk hw
  have c1 := hs.so.c1
  have c42 := hs.so.c42
  have hrn := Aside0.mk ((H.out.drew.li.nodeAt n hn).word (ns n).key hwn)
  have hro := Aside0.mk (H.out.drew.so.word op.key hwo)
  have hat := fun W (hW : KS B W ga l o a bs ns op) => sat_any B o l ga op bs ns n W hW.so hW.li hn (by omega)
  have n0 : 0 < n := hn1
  have HIS := Aside0.mk his
  clear hs hw hwn hwo his
  go_enter Tryd.func57, Tryd.ntmps57
  go_wp2_with fail
  refine wp_region_still_lit (by kernel_rfl) (by kernel_rfl) ?_
  repeat still_step
  still_call (hat _ H.out.drew)
  still_step
  still_step
  refine wpStill_load_mid (by rfl) 64 (.tmp 22) rfl bs[n] 1 (by rfl) ((wordU (ns n).key).map u8c) _ hrn.out Tryd.underlying64 rfl (by rw [List.length_map, wordU_len]; exact info64) ?_
  simp only [Act.put, List.setIfInBounds_toArray, List.set_cons_zero, List.set_cons_succ]
  repeat still_step
  refine wpStill_load_mid (by rfl) 64 (.tmp 26) rfl o 3 (by rfl) ((wordU op.key).map u8c) _ hro.out Tryd.underlying64 rfl (by rw [List.length_map, wordU_len]; exact info64) ?_
  simp only [Act.put, List.setIfInBounds_toArray, List.set_cons_zero, List.set_cons_succ]
  refine wpStill_eql_bytes (by rfl) 64 64 5 17 (.tmp 23) (.tmp 27) rfl (wordU (ns n).key) (wordU op.key) (by rfl) (by rfl) Tryd.underlying64 Tryd.underlying5 sizeOf5 (wordU_len _) (wordU_len _) (by kernel_rfl) ?_
  simp only [Act.put, List.setIfInBounds_toArray, List.set_cons_zero, List.set_cons_succ]
  rw [HIS.out]
  repeat still_step
  refine wpStill_nil ?_
  change Exit.then _ _ _ _ w.drew
  have H2 := Aside0.mk H.out.drew
  have F2 := Aside0.mk ((FrO.refl TK o B w).drew)
  clear c1 c42 hrn hro hat HIS
  generalize w.drew = w2 at *
  have c1 := H2.out.so.c1
  have c42 := H2.out.so.c42
  have c22 := H2.out.so.c22
  have f22 := H2.out.so.f 22
  have o0 : 0 < op.own := ho
  go_wp2_with fail
  go_ret
  exact ⟨rfl, H2.out.setOp (op' := { op with does := 1 }) 22 (.int .i64 1) (by refine sop_set (fun j hj hn => ?_) rfl; simp only [sopCell, if_neg hn]), F2.out.set H2.out.so.ge 22 _⟩
set_option maxRecDepth 100000 in
set_option maxHeartbeats 6400000 in
theorem arrived_layown (B k n : Nat) (w : World) (ga l o : Nat) (a : Ar) (bs : List Nat) (ns : Nat → SNode) (op : SOp) (hs : KS B w ga l o a bs ns op) (hw : a.Wf k) (hk : k < 1900) (hb : bs.length < 1000) (hn : n < bs.length) (hn1 : 1 ≤ n) (hwn : (ns n).word = wordF (ns n).key) (hwo : op.word = wordF op.key) (his : (wordU (ns n).key == wordU op.key) = true) (ho : 1 ≤ op.own) (hne : n = op.own) :
    Calls Tryd.prog 57 #[.pointer (some ⟨o, 0, none⟩), .int .i64 n] w fun e w' => e = .returned (.bool false) ∧ KS B w' ga l o a bs ns { op with does := 1 } ∧ FrO TK o B w w' := by
  have H := Aside0.mk hs
  have HW := Aside0.mk hw
  have c1 := hs.so.c1
  have c42 := hs.so.c42
  have hrn := Aside0.mk ((H.out.drew.li.nodeAt n hn).word (ns n).key hwn)
  have hro := Aside0.mk (H.out.drew.so.word op.key hwo)
  have hat := fun W (hW : KS B W ga l o a bs ns op) => sat_any B o l ga op bs ns n W hW.so hW.li hn (by omega)
  have n0 : 0 < n := hn1
  have HIS := Aside0.mk his
  have HNE := Aside0.mk hne
  clear hs hw hwn hwo his hne
  go_enter Tryd.func57, Tryd.ntmps57
  go_wp2_with fail
  refine wp_region_still_lit (by kernel_rfl) (by kernel_rfl) ?_
  repeat still_step
  still_call (hat _ H.out.drew)
  still_step
  still_step
  refine wpStill_load_mid (by rfl) 64 (.tmp 22) rfl bs[n] 1 (by rfl) ((wordU (ns n).key).map u8c) _ hrn.out Tryd.underlying64 rfl (by rw [List.length_map, wordU_len]; exact info64) ?_
  simp only [Act.put, List.setIfInBounds_toArray, List.set_cons_zero, List.set_cons_succ]
  repeat still_step
  refine wpStill_load_mid (by rfl) 64 (.tmp 26) rfl o 3 (by rfl) ((wordU op.key).map u8c) _ hro.out Tryd.underlying64 rfl (by rw [List.length_map, wordU_len]; exact info64) ?_
  simp only [Act.put, List.setIfInBounds_toArray, List.set_cons_zero, List.set_cons_succ]
  refine wpStill_eql_bytes (by rfl) 64 64 5 17 (.tmp 23) (.tmp 27) rfl (wordU (ns n).key) (wordU op.key) (by rfl) (by rfl) Tryd.underlying64 Tryd.underlying5 sizeOf5 (wordU_len _) (wordU_len _) (by kernel_rfl) ?_
  simp only [Act.put, List.setIfInBounds_toArray, List.set_cons_zero, List.set_cons_succ]
  rw [HIS.out]
  repeat still_step
  refine wpStill_nil ?_
  change Exit.then _ _ _ _ w.drew
  have H2 := Aside0.mk H.out.drew
  have F2 := Aside0.mk ((FrO.refl TK o B w).drew)
  clear c1 c42 hrn hro hat HIS
  generalize w.drew = w2 at *
  have c1 := H2.out.so.c1
  have c42 := H2.out.so.c42
  have hne2 : ((n : Int) != (op.own : Int)) = false := by rw [HNE.out]; simp
  have c22 := H2.out.so.c22
  have f22 := H2.out.so.f 22
  have o0 : 0 < op.own := ho
  go_wp2_with fail
  go_ret
  exact ⟨rfl, H2.out.setOp (op' := { op with does := 1 }) 22 (.int .i64 1) (by refine sop_set (fun j hj hn => ?_) rfl; simp only [sopCell, if_neg hn]), F2.out.set H2.out.so.ge 22 _⟩
end Go.Proofs.YtmemkmnnededgaaDoor.H
