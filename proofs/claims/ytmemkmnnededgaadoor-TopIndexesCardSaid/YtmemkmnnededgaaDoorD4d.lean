/- Contract: a skip operation arrives: a new node. -/
import Derived.Test.YtmemkmnnededgaaDoorD1
import Derived.Test.YtmemkmnnededgaaDoorD3
namespace Go.Proofs.YtmemkmnnededgaaDoor.H
open Go.RowKit Go.Proofs.YtmemkmnnededgaaDoorW.PrintWords Go.Proofs.YtmemkmnnededgaaDoorW.PrintLast Go.Proofs.YtmemkmnnededgaaDoorW.PrintMore
attribute [local go_sem] max2_int min2_int max_two min_two max_three min_three max_four min_four
set_option linter.unusedVariables false
set_option linter.unusedSimpArgs false

/-- The cells of a new node. -/
def newNode (op : SOp) : SNode := ⟨op.key, op.word, op.ref, fun _ => 0, op.height⟩
def upNode (ns : Nat → SNode) (n : Nat) (x : SNode) : Nat → SNode := fun i => if i = n then x else ns i
theorem SoAt.words {B : Nat} {w : World} {o l : Nat} {op : SOp} (h : SoAt B w o l op) : w.rangeAt o 3 [.int .u8 (op.word 0), .int .u8 (op.word 1), .int .u8 (op.word 2), .int .u8 (op.word 3), .int .u8 (op.word 4), .int .u8 (op.word 5), .int .u8 (op.word 6), .int .u8 (op.word 7), .int .u8 (op.word 8), .int .u8 (op.word 9), .int .u8 (op.word 10), .int .u8 (op.word 11), .int .u8 (op.word 12), .int .u8 (op.word 13), .int .u8 (op.word 14), .int .u8 (op.word 15), .int .u8 (op.word 16)] := by
  intro j v hv
  have hj : j < 17 := (List.getElem?_eq_some_iff.1 hv).1
  refine (h.cell (3 + j) (by omega)).trans ?_
  unfold sopCell
  rw [if_neg (by omega), if_neg (by omega), if_neg (by omega), if_pos (by omega), show 3 + j - 3 = j by omega]
  rcases j with _ | _ | _ | _ | _ | _ | _ | _ | _ | _ | _ | _ | _ | _ | _ | _ | _ | j
  all_goals first | exact congrArg some (Option.some.inj hv) | exact absurd hj (by omega)
def ncells (op : SOp) : Array Value := #[.string op.key, .int .u8 (op.word 0), .int .u8 (op.word 1), .int .u8 (op.word 2), .int .u8 (op.word 3), .int .u8 (op.word 4), .int .u8 (op.word 5), .int .u8 (op.word 6), .int .u8 (op.word 7), .int .u8 (op.word 8), .int .u8 (op.word 9), .int .u8 (op.word 10), .int .u8 (op.word 11), .int .u8 (op.word 12), .int .u8 (op.word 13), .int .u8 (op.word 14), .int .u8 (op.word 15), .int .u8 (op.word 16), .int .i64 op.ref, .int .i64 0, .int .i64 0, .int .i64 0, .int .i64 0, .int .i64 0, .int .i64 0, .int .i64 0, .int .i64 0, .int .i64 op.height]
theorem ncells_node (B : Nat) (op : SOp) (w : World) (hB : B ≤ w.heap.size) : NodeAt B (w.alloc (.cells (ncells op) 67)) w.heap.size (newNode op) := by
  refine ⟨hB, CellsAt.new w _ 67 28 _ rfl (fun i hi => ?_)⟩
  rcases i with _ | _ | _ | _ | _ | _ | _ | _ | _ | _ | _ | _ | _ | _ | _ | _ | _ | _ | _ | _ | _ | _ | _ | _ | _ | _ | _ | _ | i
  all_goals first | rfl | exact absurd hi (by omega)
theorem info62 : (Tryd.prog.info? 62).map (fun i => (i.zero, i.size, i.bytes)) = some (some (.pointer none), 1, 8) := by kernel_rfl
theorem KS.grown {B : Nat} {w w1 : World} {ga l o : Nat} {a : Ar} {bs : List Nat} {ns : Nat → SNode} {op : SOp} {v : Value} {ys : List Nat} (h : KS B w ga l o a bs ns op) (h2 : kPtr.R 62 w B (fun _ => True) v ys) (hg : w.grownBy w1 v.ownBlock) : ArAt B w1 ga a ∧ SoAt B w1 o l op :=
  ⟨h.ar.grown h2 hg (by decide) (by decide), h.so.ge, h.so.blk.grown hg (by obtain ⟨q, hq, _⟩ := h.so.blk; exact own_ne (Kd.R_own h2).choose_spec hq (by decide))⟩
theorem NodeAt.grown {B : Nat} {w w1 : World} {b : Nat} {x : SNode} {v : Value} {ys : List Nat} (h : NodeAt B w b x) (h2 : kPtr.R 62 w B (fun _ => True) v ys) (hg : w.grownBy w1 v.ownBlock) : NodeAt B w1 b x :=
  ⟨h.ge, h.blk.grown hg (by obtain ⟨q, hq, _⟩ := h.blk; exact own_ne (Kd.R_own h2).choose_spec hq (by decide))⟩
theorem LiAt.push {B : Nat} {w : World} {l ga nb : Nat} {bs : List Nat} {ns : Nat → SNode} {x : SNode} {nv0 v1 : Value} (hge : B ≤ l) (hb : w.heap[l]? = some (.cells #[.pointer (some ⟨ga, 0, none⟩), nv0] 61 (0, 0))) (hR : kPtr.R 62 w B (fun _ => True) v1 (bs ++ [nb])) (hn : ∀ (i : Nat) (hi : i < bs.length), NodeAt B w bs[i] (ns i)) (hx : NodeAt B w nb x) :
    LiAt B (w.setCell ⟨l, 1, none⟩ v1) l ga (bs ++ [nb]) (upNode ns bs.length x) := by
  refine ⟨hge, ⟨v1, blk_put hb 1 v1 rfl, Kd.R_set hR hb (by simp [kPtr, Kd.scalar]) 1 v1⟩, fun i hi => ?_⟩
  have far : ∀ b y, NodeAt B w b y → NodeAt B (w.setCell ⟨l, 1, none⟩ v1) b y := fun b y h => ⟨h.ge, h.blk.far (by obtain ⟨q, hq, _⟩ := h.blk; exact blk_ne hq hb (by decide)) _⟩
  by_cases h : i < bs.length
  · have e : (bs ++ [nb])[i] = bs[i] := List.getElem_append_left h
    rw [e]
    have h2 := far _ _ (hn i h)
    have e2 : upNode ns bs.length x i = ns i := by unfold upNode; rw [if_neg (by omega)]
    rw [e2]
    exact ⟨h2.ge, h2.blk⟩
  · have h3 : i = bs.length := by simp at hi; omega
    subst h3
    have e : (bs ++ [nb])[bs.length] = nb := by simp
    rw [e]
    have h2 := far _ _ hx
    have e2 : upNode ns bs.length x bs.length = x := by simp [upNode]
    rw [e2]
    exact ⟨h2.ge, h2.blk⟩
theorem KS.grow {B : Nat} {w w' : World} {ga l o nb : Nat} {a a' : Ar} {bs : List Nat} {ns : Nat → SNode} {op : SOp} {x : SNode} (h : KS B w ga l o a bs ns op) (ha : ArAt B w' ga a') (hf : FrO TA nb B w w') (hx : NodeAt B w nb x) (hne : ∀ (i : Nat) (hi : i < bs.length), bs[i] ≠ nb) : KS B w' ga l o a' bs ns op := by
  obtain ⟨hge, ⟨nv, hb, hR⟩, hn⟩ := h.li
  have hT := hf.toTC hx.blk
  refine ⟨ha, ⟨hge, ⟨nv, hT.blk hb (by simp [TA]), hT.R_lives hR ?_⟩, fun i hi => ⟨(hn i hi).1, ?_⟩⟩, h.so.kept hT (by simp [TA])⟩
  · intro q hq
    simp [kPtr, Kd.scalar] at hq
    rw [hq]; simp [TA]
  · obtain ⟨cs, h1, h2, h3⟩ := (hn i hi).2
    exact ⟨cs, hf.blk h1 (by simp [TA]) (hne i hi), h2, h3⟩
theorem FrO.grow {B o nb : Nat} {w w1 w2 : World} {x : SNode} (h : FrO TK o B w w1) (hf : FrO TA nb B w1 w2) (hx : NodeAt B w1 nb x) : FrO TK o B w w2 :=
  h.thenT (hf.toTC hx.blk) (by simp [TA, TK])
set_option maxRecDepth 100000 in
set_option maxHeartbeats 6400000 in
theorem arrived_new0 (B k n : Nat) (w : World) (ga l o : Nat) (a : Ar) (bs : List Nat) (ns : Nat → SNode) (op : SOp) (hs : KS B w ga l o a bs ns op) (hw : a.Wf k) (hk : k < 1900) (hb : bs.length < 1000) (hn0 : n = 0) (hT : TabAt 0 Lib.deBruijn64tab w) (hB : 0 < B) (hh1 : 1 ≤ op.height) (hh8 : op.height ≤ 8) (ho : op.own = 0) :
    Calls Tryd.prog 57 #[.pointer (some ⟨o, 0, none⟩), .int .i64 n] w fun e w' => ∃ (cs : List Nat) (a' : Ar) (b : Nat), e = .returned (.bool false) ∧ cs.length = op.height ∧ KS B w' ga l o a' (bs ++ [b]) (upNode ns bs.length ((newNode op).with cs)) { op with own := bs.length, does := 1 } ∧ a'.Wf (k + op.height) ∧ Fresh a a' cs ∧ FrO TK o B w w' := by
  subst hn0
  have H := Aside0.mk hs
  have HW := Aside0.mk hw
  have c1 := hs.so.c1
  have c42 := hs.so.c42
  have HT := Aside0.mk hT
  clear hs hw hT
  go_enter Tryd.func57, Tryd.ntmps57
  go_wp2_with fail
  go_quiet (fail)
  have H2 := Aside0.mk (H.out.drewN nq)
  have F2 := Aside0.mk ((FrO.refl TK o B w).drewN nq)
  clear c1 c42
  go_upto_region 2 with fail
  generalize w.drewN nq = w2 at *
  have c1 := H2.out.so.c1
  have c42 := H2.out.so.c42
  have o0 : op.own = 0 := ho
  go_upto_region 12 with fail
  have c2 := H2.out.so.c2
  have c20 := H2.out.so.c20
  have c21 := H2.out.so.c21
  have hro := Aside0.mk (SoAt.words H2.out.drew.so)
  refine wp_region_still_tail 16 (by kernel_rfl) (by kernel_rfl) ?_
  simp only [List.take_succ_cons, List.take_zero, List.drop_succ_cons, List.drop_zero]
  repeat still_step
  refine wpStill_load_mid (by rfl) 64 (.tmp 120) rfl o 3 (by rfl) [.int .u8 (op.word 0), .int .u8 (op.word 1), .int .u8 (op.word 2), .int .u8 (op.word 3), .int .u8 (op.word 4), .int .u8 (op.word 5), .int .u8 (op.word 6), .int .u8 (op.word 7), .int .u8 (op.word 8), .int .u8 (op.word 9), .int .u8 (op.word 10), .int .u8 (op.word 11), .int .u8 (op.word 12), .int .u8 (op.word 13), .int .u8 (op.word 14), .int .u8 (op.word 15), .int .u8 (op.word 16)] _ hro.out Tryd.underlying64 rfl (by kernel_rfl) ?_
  simp only [Act.put, List.setIfInBounds_toArray, List.set_cons_zero, List.set_cons_succ]
  repeat still_step
  refine wpStill_nil ?_
  change wpList _ _ _ _ _ w2.drew
  have H3 := Aside0.mk H2.out.drew
  have F3 := Aside0.mk F2.out.drew
  clear c1 c42 c2 c20 c21 hro
  generalize w2.drew = w3 at *
  go_upto_region 13 with fail
  change Code.wp _ _ _ _ (w3.alloc (.cells (ncells op) 67))
  have HN4 := Aside0.mk (ncells_node B op w3 (Nat.le_trans H3.out.so.ge (Nat.le_of_lt H3.out.so.blk.lt)))
  have HNE := Aside0.mk (show ∀ (i : Nat) (hi : i < bs.length), bs[i] ≠ w3.heap.size from fun i hi e => by
    have := (H3.out.li.nodeAt i hi).blk.lt
    omega)
  have H4 := Aside0.mk (H3.out.below (below_alloc (Below.refl _ _) (.cells (ncells op) 67)))
  have F4 := Aside0.mk (F3.out.fresh (Nat.le_trans H3.out.so.ge (Nat.le_of_lt H3.out.so.blk.lt)) (below_alloc (Below.refl _ _) (.cells (ncells op) 67)))
  generalize w3.alloc (.cells (ncells op) 67) = w4 at *
  generalize w3.heap.size = nb at *
  have c0 := H4.out.so.c0
  obtain ⟨nv, hlb, _⟩ := H4.out.li.blk
  have HLB := Aside0.mk hlb
  clear hlb
  have HT4 := Aside0.mk (show TabAt 0 Lib.deBruijn64tab w4 from fun j hj => (F4.out.below.cell (p := ⟨0, j, none⟩) hB).trans (HT.out j hj))
  go_wp2_with fail
  refine (grow_any B k op.height l ga nb a (newNode op) w4 H4.out.ar HW.out (by omega) hh8 HN4.out rfl nv HLB.out HT4.out hB).mono ?_
  rintro e w5 ⟨cs, a5, rfl, hcs, hnd, ha, hwf, hfr, hf⟩
  have H5 := Aside0.mk (H4.out.grow ha hf HN4.out HNE.out)
  have F5 := Aside0.mk (F4.out.grow hf HN4.out)
  have HN5 := Aside0.mk hnd
  have HW5 := Aside0.mk hwf
  have HFR := Aside0.mk hfr
  have HCS := Aside0.mk hcs
  clear hcs hnd ha hwf hfr hf c0 HLB
  have c0 := H5.out.so.c0
  have c42 := H5.out.so.c42
  have f42 := H5.out.so.f 42
  obtain ⟨nv, hlb, hR⟩ := H5.out.li.blk
  obtain ⟨A, cap, rfl⟩ := Kd.R_slice hR
  have c1 : w5.cell? ⟨l, 1, none⟩ = some (.slice A bs.length cap) := (blk_cell hlb 1).trans rfl
  have HLB5 := Aside0.mk hlb
  have HR5 := Aside0.mk hR
  clear hlb hR
  go_upto_region 17 with fail
  have H6 := Aside0.mk (show KS B (w5.setCell ⟨o, 42, none⟩ (.int .i64 bs.length)) ga l o a5 bs ns { op with own := bs.length } from H5.out.setOp (op' := { op with own := bs.length }) 42 (.int .i64 bs.length) (by refine sop_set (fun j hj hn => ?_) rfl; simp only [sopCell, if_neg hn]))
  have F6 := Aside0.mk (F5.out.set H5.out.so.ge 42 (.int .i64 bs.length))
  have HN6 := Aside0.mk (show NodeAt B (w5.setCell ⟨o, 42, none⟩ (.int .i64 bs.length)) nb ((newNode op).with cs) from ⟨HN5.out.ge, HN5.out.blk.far (CellsAt.ne HN5.out.blk H5.out.so.blk (by decide)) _⟩)
  have HLB6 := Aside0.mk (blk_far HLB5.out (p := ⟨o, 42, none⟩) (by obtain ⟨q, hq, _⟩ := H5.out.so.blk; exact blk_ne HLB5.out hq (by decide)) (.int .i64 bs.length))
  have HR6 := Aside0.mk (H5.out.so.blk.R_set HR5.out (by simp [kPtr, Kd.scalar]) 42 (.int .i64 bs.length))
  clear c0 c42 f42 c1
  generalize w5.setCell ⟨o, 42, none⟩ (.int .i64 bs.length) = w6 at *
  have c0 := H6.out.so.c0
  have c1 : w6.cell? ⟨l, 1, none⟩ = some (.slice A bs.length cap) := (blk_cell HLB6.out 1).trans rfl
  have hbw : B ≤ w6.drew.heap.size := Nat.le_trans H6.out.so.ge (Nat.le_of_lt H6.out.so.blk.lt)
  refine start_ (n := 17) (ds := [16]) (S := fun w' => w'.cell? ⟨o, 0, none⟩ = some (.pointer (some ⟨l, 0, none⟩)) ∧ w'.cell? ⟨l, 1, none⟩ = some (.slice A bs.length cap)) #[false, false, false, false, false, false, false, false, false, false, false, false, false, false, false, false, false] (by kernel_rfl) rfl rfl ⟨c0, c1⟩ (fun hHeld => ?_)
  refine take_ (i := 0) (N := (some 154)) (v := ?_) (a' := ?_) #[true, false, false, false, false, false, false, false, false, false, false, false, false, false, false, false, false] rfl rfl (by kernel_rfl) (fun _ _ _ h => h) (Or.inl ⟨by rfl, ?_⟩) hHeld ?_ ?_
  rotate_left
  · rintro w' ⟨s0, s1⟩
    go_simp
    with_reducible rfl
  rotate_left
  · simp only [Act.put, List.setIfInBounds_toArray, List.set_cons_zero, List.set_cons_succ]
    rfl
  refine take_ (i := 1) (N := (some 155)) (v := ?_) (a' := ?_) #[true, true, false, false, false, false, false, false, false, false, false, false, false, false, false, false, false] rfl rfl (by kernel_rfl) (fun _ _ _ h => h) (Or.inl ⟨by rfl, ?_⟩) hHeld ?_ ?_
  rotate_left
  · rintro w' ⟨s0, s1⟩
    go_simp
    with_reducible rfl
  rotate_left
  · simp only [Act.put, List.setIfInBounds_toArray, List.set_cons_zero, List.set_cons_succ]
    rfl
  refine take_ (i := 2) (N := (some 156)) (v := ?_) (a' := ?_) #[true, true, true, false, false, false, false, false, false, false, false, false, false, false, false, false, false] rfl rfl (by kernel_rfl) (fun _ _ _ h => h) (Or.inl ⟨by rfl, ?_⟩) hHeld ?_ ?_
  rotate_left
  · rintro w' ⟨s0, s1⟩
    go_simp
    with_reducible rfl
  rotate_left
  · simp only [Act.put, List.setIfInBounds_toArray, List.set_cons_zero, List.set_cons_succ]
    rfl
  refine take_ (i := 3) (N := (some 157)) (v := ?_) (a' := ?_) #[true, true, true, true, false, false, false, false, false, false, false, false, false, false, false, false, false] rfl rfl (by kernel_rfl) (fun _ _ _ h => h) (Or.inl ⟨by rfl, ?_⟩) hHeld ?_ ?_
  rotate_left
  · rintro w' ⟨s0, s1⟩
    go_simp
    with_reducible rfl
  rotate_left
  · simp only [Act.put, List.setIfInBounds_toArray, List.set_cons_zero, List.set_cons_succ]
    rfl
  refine take_ (i := 4) (N := (some 158)) (v := ?_) (a' := ?_) #[true, true, true, true, true, false, false, false, false, false, false, false, false, false, false, false, false] rfl rfl (by kernel_rfl) (fun _ _ _ h => h) (Or.inl ⟨by rfl, ?_⟩) hHeld ?_ ?_
  rotate_left
  · rintro w' ⟨s0, s1⟩
    go_simp
    with_reducible rfl
  rotate_left
  · simp only [Act.put, List.setIfInBounds_toArray, List.set_cons_zero, List.set_cons_succ]
    rfl
  refine take_ (i := 5) (N := (some 159)) (v := ?_) (a' := ?_) #[true, true, true, true, true, true, false, false, false, false, false, false, false, false, false, false, false] rfl rfl (by kernel_rfl) (fun _ _ _ h => h) (Or.inl ⟨by rfl, ?_⟩) hHeld ?_ ?_
  rotate_left
  · rintro w' ⟨s0, s1⟩
    go_simp
    with_reducible rfl
  rotate_left
  · simp only [Act.put, List.setIfInBounds_toArray, List.set_cons_zero, List.set_cons_succ]
    rfl
  refine take_ (i := 6) (N := (some 160)) (v := ?_) (a' := ?_) #[true, true, true, true, true, true, true, false, false, false, false, false, false, false, false, false, false] rfl rfl (by kernel_rfl) (fun _ _ _ h => h) (Or.inl ⟨by rfl, ?_⟩) hHeld ?_ ?_
  rotate_left
  · rintro w' ⟨s0, s1⟩
    go_simp
    with_reducible rfl
  rotate_left
  · simp only [Act.put, List.setIfInBounds_toArray, List.set_cons_zero, List.set_cons_succ]
    rfl
  refine take_ (i := 7) (N := (some 161)) (v := ?_) (a' := ?_) #[true, true, true, true, true, true, true, true, false, false, false, false, false, false, false, false, false] rfl rfl (by kernel_rfl) (fun _ _ _ h => h) (Or.inl ⟨by rfl, ?_⟩) hHeld ?_ ?_
  rotate_left
  · rintro w' ⟨s0, s1⟩
    go_simp
    with_reducible rfl
  rotate_left
  · simp only [Act.put, List.setIfInBounds_toArray, List.set_cons_zero, List.set_cons_succ]
    rfl
  refine take_ (i := 8) (N := (some 162)) (v := ?_) (a' := ?_) #[true, true, true, true, true, true, true, true, true, false, false, false, false, false, false, false, false] rfl rfl (by kernel_rfl) (fun _ _ _ h => h) (Or.inl ⟨by rfl, ?_⟩) hHeld ?_ ?_
  rotate_left
  · rintro w' ⟨s0, s1⟩
    go_simp
    with_reducible rfl
  rotate_left
  · simp only [Act.put, List.setIfInBounds_toArray, List.set_cons_zero, List.set_cons_succ]
    rfl
  refine take_ (i := 9) (N := (some 163)) (v := ?_) (a' := ?_) #[true, true, true, true, true, true, true, true, true, true, false, false, false, false, false, false, false] rfl rfl (by kernel_rfl) (fun _ _ _ h => h) (Or.inl ⟨by rfl, ?_⟩) hHeld ?_ ?_
  rotate_left
  · rintro w' ⟨s0, s1⟩
    go_simp
    with_reducible rfl
  rotate_left
  · simp only [Act.put, List.setIfInBounds_toArray, List.set_cons_zero, List.set_cons_succ]
    rfl
  refine take_ (i := 10) (N := (some 164)) (v := ?_) (a' := ?_) #[true, true, true, true, true, true, true, true, true, true, true, false, false, false, false, false, false] rfl rfl (by kernel_rfl) (fun _ _ _ h => h) (Or.inl ⟨by rfl, ?_⟩) hHeld ?_ ?_
  rotate_left
  · rintro w' ⟨s0, s1⟩
    go_simp
    with_reducible rfl
  rotate_left
  · simp only [Act.put, List.setIfInBounds_toArray, List.set_cons_zero, List.set_cons_succ]
    rfl
  refine take_ (i := 11) (N := (some 165)) (v := ?_) (a' := ?_) #[true, true, true, true, true, true, true, true, true, true, true, true, false, false, false, false, false] rfl rfl (by kernel_rfl) (fun _ _ _ h => h) (Or.inl ⟨by rfl, ?_⟩) hHeld ?_ ?_
  rotate_left
  · rintro w' ⟨s0, s1⟩
    go_simp
    with_reducible rfl
  rotate_left
  · simp only [Act.put, List.setIfInBounds_toArray, List.set_cons_zero, List.set_cons_succ]
    rfl
  refine one_ (i := 12) (N := (some 166)) #[true, true, true, true, true, true, true, true, true, true, true, true, true, false, false, false, false] rfl rfl (by kernel_rfl) (by decide) (fun K hK => ?_)
  go_simp
  refine hK.out _ _ ⟨(H6.out.below (below_alloc (below_drew (Below.refl _ _)) _)).so.c0, (blk_cell (blk_alloc (blk_drew HLB6.out) _) 1).trans rfl⟩ (fun hHeld => ?_)
  clear hK K
  refine one_ (i := 13) (N := (some 167)) #[true, true, true, true, true, true, true, true, true, true, true, true, true, true, false, false, false] rfl rfl (by kernel_rfl) (by decide) (fun K hK => ?_)
  refine Kd.R_append_step kPtr (w0 := w6) B (by rfl) (.tmp 164) (.tmp 166) 59 62 (.pointer none) 8 (by rfl) Tryd.underlying59 info62 rfl (by decide) (by decide) (.slice A bs.length cap) bs nb [.pointer (some ⟨nb, 0, none⟩)] (fun _ => True) (fun _ => False) (by rfl) (by rfl) rfl (fun _ h => h.elim) (fun _ _ => trivial) (Kd.R_drew HR6.out) (below_drew (Below.refl _ _)) hbw (by omega) ?_
  intro v1 w1 ho1 hb1 hg1 hat1
  obtain ⟨A1, q1, rfl⟩ := Kd.R_slice ho1
  generalize hL : (bs ++ [nb]).length = L at *
  have hL2 : L = bs.length + 1 := by rw [← hL]; simp
  have HLB1 := Aside0.mk (blk_grown (blk_drew HLB6.out) hg1 (own_ne (Kd.R_own HR6.out).choose_spec HLB6.out (by decide)))
  have HO1 := Aside0.mk ho1
  have HG1 := Aside0.mk hg1
  have HBE1 := Aside0.mk hb1
  clear ho1 hb1 hg1 hat1 hL
  subst hL2
  have KX := Aside0.mk (KS.grown H6.out.drew (Kd.R_drew HR6.out) HG1.out)
  refine hK.out _ _ ⟨KX.out.2.c0, (blk_cell HLB1.out 1).trans rfl⟩ (fun hHeld => ?_)
  clear hK K
  refine take_ (i := 14) (N := (some 168)) (v := ?_) (a' := ?_) #[true, true, true, true, true, true, true, true, true, true, true, true, true, true, true, false, false] rfl rfl (by kernel_rfl) (fun _ _ _ h => h) (Or.inl ⟨by rfl, ?_⟩) hHeld ?_ ?_
  rotate_left
  · rintro w' ⟨s0, s1⟩
    go_simp
    with_reducible rfl
  rotate_left
  · simp only [Act.put, List.setIfInBounds_toArray, List.set_cons_zero, List.set_cons_succ]
    rfl
  refine take_ (i := 15) (N := (some 169)) (v := ?_) (a' := ?_) #[true, true, true, true, true, true, true, true, true, true, true, true, true, true, true, true, false] rfl rfl (by kernel_rfl) (fun _ _ _ h => h) (Or.inl ⟨by rfl, ?_⟩) hHeld ?_ ?_
  rotate_left
  · rintro w' ⟨s0, s1⟩
    go_simp
    with_reducible rfl
  rotate_left
  · simp only [Act.put, List.setIfInBounds_toArray, List.set_cons_zero, List.set_cons_succ]
    rfl
  refine last_ (i := 16) (N := none) #[true, true, true, true, true, true, true, true, true, true, true, true, true, true, true, true, true] rfl rfl (by kernel_rfl) (by decide) (fun K hK => ?_)
  have hf1 := blk_frozen HLB1.out 1
  have hc1 := (blk_cell HLB1.out 1).trans rfl
  go_simp
  refine hK.out _ _ ?_
  clear hK K hHeld hf1 hc1
  refine done_ (by kernel_rfl) ?_
  have hge : B ≤ l := H6.out.li.ge
  have hFT := (FrT.refl [61] B w1).setCell HLB1.out (by simp) hge 1 (.slice A1 (bs.length + 1) q1)
  have hNd : ∀ (i : Nat) (hi : i < bs.length), NodeAt B w1 bs[i] (ns i) := fun i hi => NodeAt.grown (H6.out.drew.li.nodeAt i hi) (Kd.R_drew HR6.out) HG1.out
  have hNx : NodeAt B w1 nb ((newNode op).with cs) := NodeAt.grown (w := w6.drew) ⟨HN6.out.ge, HN6.out.blk.drew⟩ (Kd.R_drew HR6.out) HG1.out
  have H9 := Aside0.mk (show KS B (w1.setCell ⟨l, 1, none⟩ (.slice A1 (bs.length + 1) q1)) ga l o a5 (bs ++ [nb]) (upNode ns bs.length ((newNode op).with cs)) { op with own := bs.length } from ⟨KX.out.1.kept hFT (by simp) (by simp), LiAt.push hge HLB1.out HO1.out hNd hNx, KX.out.2.kept hFT (by simp)⟩)
  have F9 := Aside0.mk ((F6.out.drew.thenT ((FrT.refl TK B w6.drew).grown (Kd.R_drew HR6.out) (by simp [TK]) (Nat.le_refl _) hbw HG1.out) (fun _ h => h)).thenT hFT (by simp [TK]))
  clear hFT hNd hNx hge c0 c1
  generalize (w1.setCell ⟨l, 1, none⟩ (.slice A1 (bs.length + 1) q1)) = w9 at *
  have c22 := H9.out.so.c22
  have f22 := H9.out.so.f 22
  go_wp2_with fail
  go_ret
  exact ⟨rfl, cs, HCS.out, a5, ⟨nb, H9.out.setOp (op' := { op with own := bs.length, does := 1 }) 22 (.int .i64 1) (by refine sop_set (fun j hj hn => ?_) rfl; simp only [sopCell, if_neg hn])⟩, HW5.out, HFR.out, F9.out.set H9.out.so.ge 22 _⟩
set_option maxRecDepth 100000 in
set_option maxHeartbeats 6400000 in
theorem arrived_new (B k n : Nat) (w : World) (ga l o : Nat) (a : Ar) (bs : List Nat) (ns : Nat → SNode) (op : SOp) (hs : KS B w ga l o a bs ns op) (hw : a.Wf k) (hk : k < 1900) (hb : bs.length < 1000) (hn : n < bs.length) (hn1 : 1 ≤ n) (hwn : (ns n).word = wordF (ns n).key) (hwo : op.word = wordF op.key) (his : (wordU (ns n).key == wordU op.key) = false) (hT : TabAt 0 Lib.deBruijn64tab w) (hB : 0 < B) (hh1 : 1 ≤ op.height) (hh8 : op.height ≤ 8) (ho : op.own = 0) :
    Calls Tryd.prog 57 #[.pointer (some ⟨o, 0, none⟩), .int .i64 n] w fun e w' => ∃ (cs : List Nat) (a' : Ar) (b : Nat), e = .returned (.bool false) ∧ cs.length = op.height ∧ KS B w' ga l o a' (bs ++ [b]) (upNode ns bs.length ((newNode op).with cs)) { op with own := bs.length, does := 1 } ∧ a'.Wf (k + op.height) ∧ Fresh a a' cs ∧ FrO TK o B w w' := by
  have H := Aside0.mk hs
  have HW := Aside0.mk hw
  have c1 := hs.so.c1
  have c42 := hs.so.c42
  have hrn := Aside0.mk ((H.out.drew.li.nodeAt n hn).word (ns n).key hwn)
  have hro := Aside0.mk (H.out.drew.so.word op.key hwo)
  have hat := fun W (hW : KS B W ga l o a bs ns op) => sat_any B o l ga op bs ns n W hW.so hW.li hn (by omega)
  have n0 : 0 < n := hn1
  have HIS := Aside0.mk his
  have HT := Aside0.mk hT
  have HO := Aside0.mk ho
  clear hs hw hwn hwo his hT ho
  go_enter Tryd.func57, Tryd.ntmps57
  go_wp2_with fail
  refine wp_region_still_lit (by kernel_rfl) (by kernel_rfl) ?_
  repeat still_step
  still_call (hat _ H.out.drew)
  still_step
  still_step
  refine wpStill_load_mid (by rfl) 64 (.tmp 22) rfl bs[n] 1 (by rfl) ((wordU (ns n).key).map u8c) _ hrn.out Tryd.underlying64 rfl (by rw [List.length_map, wordU_len]; exact info64) ?_
  simp only [Act.put, List.setIfInBounds_toArray, List.set_cons_zero, List.set_cons_succ]
  repeat still_step
  refine wpStill_load_mid (by rfl) 64 (.tmp 26) rfl o 3 (by rfl) ((wordU op.key).map u8c) _ hro.out Tryd.underlying64 rfl (by rw [List.length_map, wordU_len]; exact info64) ?_
  simp only [Act.put, List.setIfInBounds_toArray, List.set_cons_zero, List.set_cons_succ]
  refine wpStill_eql_bytes (by rfl) 64 64 5 17 (.tmp 23) (.tmp 27) rfl (wordU (ns n).key) (wordU op.key) (by rfl) (by rfl) Tryd.underlying64 Tryd.underlying5 sizeOf5 (wordU_len _) (wordU_len _) (by kernel_rfl) ?_
  simp only [Act.put, List.setIfInBounds_toArray, List.set_cons_zero, List.set_cons_succ]
  rw [HIS.out]
  repeat still_step
  refine wpStill_nil ?_
  change Exit.then _ _ _ _ w.drew
  have H2 := Aside0.mk H.out.drew
  have F2 := Aside0.mk ((FrO.refl TK o B w).drew)
  clear c1 c42 hrn hro hat HIS
  generalize w.drew = w2 at *
  have c1 := H2.out.so.c1
  have c42 := H2.out.so.c42
  have ho := HO.out
  have o0 : op.own = 0 := ho
  go_upto_region 12 with fail
  have c2 := H2.out.so.c2
  have c20 := H2.out.so.c20
  have c21 := H2.out.so.c21
  have hro := Aside0.mk (SoAt.words H2.out.drew.so)
  refine wp_region_still_tail 16 (by kernel_rfl) (by kernel_rfl) ?_
  simp only [List.take_succ_cons, List.take_zero, List.drop_succ_cons, List.drop_zero]
  repeat still_step
  refine wpStill_load_mid (by rfl) 64 (.tmp 120) rfl o 3 (by rfl) [.int .u8 (op.word 0), .int .u8 (op.word 1), .int .u8 (op.word 2), .int .u8 (op.word 3), .int .u8 (op.word 4), .int .u8 (op.word 5), .int .u8 (op.word 6), .int .u8 (op.word 7), .int .u8 (op.word 8), .int .u8 (op.word 9), .int .u8 (op.word 10), .int .u8 (op.word 11), .int .u8 (op.word 12), .int .u8 (op.word 13), .int .u8 (op.word 14), .int .u8 (op.word 15), .int .u8 (op.word 16)] _ hro.out Tryd.underlying64 rfl (by kernel_rfl) ?_
  simp only [Act.put, List.setIfInBounds_toArray, List.set_cons_zero, List.set_cons_succ]
  repeat still_step
  refine wpStill_nil ?_
  change wpList _ _ _ _ _ w2.drew
  have H3 := Aside0.mk H2.out.drew
  have F3 := Aside0.mk F2.out.drew
  clear c1 c42 c2 c20 c21 hro
  generalize w2.drew = w3 at *
  go_upto_region 13 with fail
  change Code.wp _ _ _ _ (w3.alloc (.cells (ncells op) 67))
  have HN4 := Aside0.mk (ncells_node B op w3 (Nat.le_trans H3.out.so.ge (Nat.le_of_lt H3.out.so.blk.lt)))
  have HNE := Aside0.mk (show ∀ (i : Nat) (hi : i < bs.length), bs[i] ≠ w3.heap.size from fun i hi e => by
    have := (H3.out.li.nodeAt i hi).blk.lt
    omega)
  have H4 := Aside0.mk (H3.out.below (below_alloc (Below.refl _ _) (.cells (ncells op) 67)))
  have F4 := Aside0.mk (F3.out.fresh (Nat.le_trans H3.out.so.ge (Nat.le_of_lt H3.out.so.blk.lt)) (below_alloc (Below.refl _ _) (.cells (ncells op) 67)))
  generalize w3.alloc (.cells (ncells op) 67) = w4 at *
  generalize w3.heap.size = nb at *
  have c0 := H4.out.so.c0
  obtain ⟨nv, hlb, _⟩ := H4.out.li.blk
  have HLB := Aside0.mk hlb
  clear hlb
  have HT4 := Aside0.mk (show TabAt 0 Lib.deBruijn64tab w4 from fun j hj => (F4.out.below.cell (p := ⟨0, j, none⟩) hB).trans (HT.out j hj))
  go_wp2_with fail
  refine (grow_any B k op.height l ga nb a (newNode op) w4 H4.out.ar HW.out (by omega) hh8 HN4.out rfl nv HLB.out HT4.out hB).mono ?_
  rintro e w5 ⟨cs, a5, rfl, hcs, hnd, ha, hwf, hfr, hf⟩
  have H5 := Aside0.mk (H4.out.grow ha hf HN4.out HNE.out)
  have F5 := Aside0.mk (F4.out.grow hf HN4.out)
  have HN5 := Aside0.mk hnd
  have HW5 := Aside0.mk hwf
  have HFR := Aside0.mk hfr
  have HCS := Aside0.mk hcs
  clear hcs hnd ha hwf hfr hf c0 HLB
  have c0 := H5.out.so.c0
  have c42 := H5.out.so.c42
  have f42 := H5.out.so.f 42
  obtain ⟨nv, hlb, hR⟩ := H5.out.li.blk
  obtain ⟨A, cap, rfl⟩ := Kd.R_slice hR
  have c1 : w5.cell? ⟨l, 1, none⟩ = some (.slice A bs.length cap) := (blk_cell hlb 1).trans rfl
  have HLB5 := Aside0.mk hlb
  have HR5 := Aside0.mk hR
  clear hlb hR
  go_upto_region 17 with fail
  have H6 := Aside0.mk (show KS B (w5.setCell ⟨o, 42, none⟩ (.int .i64 bs.length)) ga l o a5 bs ns { op with own := bs.length } from H5.out.setOp (op' := { op with own := bs.length }) 42 (.int .i64 bs.length) (by refine sop_set (fun j hj hn => ?_) rfl; simp only [sopCell, if_neg hn]))
  have F6 := Aside0.mk (F5.out.set H5.out.so.ge 42 (.int .i64 bs.length))
  have HN6 := Aside0.mk (show NodeAt B (w5.setCell ⟨o, 42, none⟩ (.int .i64 bs.length)) nb ((newNode op).with cs) from ⟨HN5.out.ge, HN5.out.blk.far (CellsAt.ne HN5.out.blk H5.out.so.blk (by decide)) _⟩)
  have HLB6 := Aside0.mk (blk_far HLB5.out (p := ⟨o, 42, none⟩) (by obtain ⟨q, hq, _⟩ := H5.out.so.blk; exact blk_ne HLB5.out hq (by decide)) (.int .i64 bs.length))
  have HR6 := Aside0.mk (H5.out.so.blk.R_set HR5.out (by simp [kPtr, Kd.scalar]) 42 (.int .i64 bs.length))
  clear c0 c42 f42 c1
  generalize w5.setCell ⟨o, 42, none⟩ (.int .i64 bs.length) = w6 at *
  have c0 := H6.out.so.c0
  have c1 : w6.cell? ⟨l, 1, none⟩ = some (.slice A bs.length cap) := (blk_cell HLB6.out 1).trans rfl
  have hbw : B ≤ w6.drew.heap.size := Nat.le_trans H6.out.so.ge (Nat.le_of_lt H6.out.so.blk.lt)
  refine start_ (n := 17) (ds := [16]) (S := fun w' => w'.cell? ⟨o, 0, none⟩ = some (.pointer (some ⟨l, 0, none⟩)) ∧ w'.cell? ⟨l, 1, none⟩ = some (.slice A bs.length cap)) #[false, false, false, false, false, false, false, false, false, false, false, false, false, false, false, false, false] (by kernel_rfl) rfl rfl ⟨c0, c1⟩ (fun hHeld => ?_)
  refine take_ (i := 0) (N := (some 154)) (v := ?_) (a' := ?_) #[true, false, false, false, false, false, false, false, false, false, false, false, false, false, false, false, false] rfl rfl (by kernel_rfl) (fun _ _ _ h => h) (Or.inl ⟨by rfl, ?_⟩) hHeld ?_ ?_
  rotate_left
  · rintro w' ⟨s0, s1⟩
    go_simp
    with_reducible rfl
  rotate_left
  · simp only [Act.put, List.setIfInBounds_toArray, List.set_cons_zero, List.set_cons_succ]
    rfl
  refine take_ (i := 1) (N := (some 155)) (v := ?_) (a' := ?_) #[true, true, false, false, false, false, false, false, false, false, false, false, false, false, false, false, false] rfl rfl (by kernel_rfl) (fun _ _ _ h => h) (Or.inl ⟨by rfl, ?_⟩) hHeld ?_ ?_
  rotate_left
  · rintro w' ⟨s0, s1⟩
    go_simp
    with_reducible rfl
  rotate_left
  · simp only [Act.put, List.setIfInBounds_toArray, List.set_cons_zero, List.set_cons_succ]
    rfl
  refine take_ (i := 2) (N := (some 156)) (v := ?_) (a' := ?_) #[true, true, true, false, false, false, false, false, false, false, false, false, false, false, false, false, false] rfl rfl (by kernel_rfl) (fun _ _ _ h => h) (Or.inl ⟨by rfl, ?_⟩) hHeld ?_ ?_
  rotate_left
  · rintro w' ⟨s0, s1⟩
    go_simp
    with_reducible rfl
  rotate_left
  · simp only [Act.put, List.setIfInBounds_toArray, List.set_cons_zero, List.set_cons_succ]
    rfl
  refine take_ (i := 3) (N := (some 157)) (v := ?_) (a' := ?_) #[true, true, true, true, false, false, false, false, false, false, false, false, false, false, false, false, false] rfl rfl (by kernel_rfl) (fun _ _ _ h => h) (Or.inl ⟨by rfl, ?_⟩) hHeld ?_ ?_
  rotate_left
  · rintro w' ⟨s0, s1⟩
    go_simp
    with_reducible rfl
  rotate_left
  · simp only [Act.put, List.setIfInBounds_toArray, List.set_cons_zero, List.set_cons_succ]
    rfl
  refine take_ (i := 4) (N := (some 158)) (v := ?_) (a' := ?_) #[true, true, true, true, true, false, false, false, false, false, false, false, false, false, false, false, false] rfl rfl (by kernel_rfl) (fun _ _ _ h => h) (Or.inl ⟨by rfl, ?_⟩) hHeld ?_ ?_
  rotate_left
  · rintro w' ⟨s0, s1⟩
    go_simp
    with_reducible rfl
  rotate_left
  · simp only [Act.put, List.setIfInBounds_toArray, List.set_cons_zero, List.set_cons_succ]
    rfl
  refine take_ (i := 5) (N := (some 159)) (v := ?_) (a' := ?_) #[true, true, true, true, true, true, false, false, false, false, false, false, false, false, false, false, false] rfl rfl (by kernel_rfl) (fun _ _ _ h => h) (Or.inl ⟨by rfl, ?_⟩) hHeld ?_ ?_
  rotate_left
  · rintro w' ⟨s0, s1⟩
    go_simp
    with_reducible rfl
  rotate_left
  · simp only [Act.put, List.setIfInBounds_toArray, List.set_cons_zero, List.set_cons_succ]
    rfl
  refine take_ (i := 6) (N := (some 160)) (v := ?_) (a' := ?_) #[true, true, true, true, true, true, true, false, false, false, false, false, false, false, false, false, false] rfl rfl (by kernel_rfl) (fun _ _ _ h => h) (Or.inl ⟨by rfl, ?_⟩) hHeld ?_ ?_
  rotate_left
  · rintro w' ⟨s0, s1⟩
    go_simp
    with_reducible rfl
  rotate_left
  · simp only [Act.put, List.setIfInBounds_toArray, List.set_cons_zero, List.set_cons_succ]
    rfl
  refine take_ (i := 7) (N := (some 161)) (v := ?_) (a' := ?_) #[true, true, true, true, true, true, true, true, false, false, false, false, false, false, false, false, false] rfl rfl (by kernel_rfl) (fun _ _ _ h => h) (Or.inl ⟨by rfl, ?_⟩) hHeld ?_ ?_
  rotate_left
  · rintro w' ⟨s0, s1⟩
    go_simp
    with_reducible rfl
  rotate_left
  · simp only [Act.put, List.setIfInBounds_toArray, List.set_cons_zero, List.set_cons_succ]
    rfl
  refine take_ (i := 8) (N := (some 162)) (v := ?_) (a' := ?_) #[true, true, true, true, true, true, true, true, true, false, false, false, false, false, false, false, false] rfl rfl (by kernel_rfl) (fun _ _ _ h => h) (Or.inl ⟨by rfl, ?_⟩) hHeld ?_ ?_
  rotate_left
  · rintro w' ⟨s0, s1⟩
    go_simp
    with_reducible rfl
  rotate_left
  · simp only [Act.put, List.setIfInBounds_toArray, List.set_cons_zero, List.set_cons_succ]
    rfl
  refine take_ (i := 9) (N := (some 163)) (v := ?_) (a' := ?_) #[true, true, true, true, true, true, true, true, true, true, false, false, false, false, false, false, false] rfl rfl (by kernel_rfl) (fun _ _ _ h => h) (Or.inl ⟨by rfl, ?_⟩) hHeld ?_ ?_
  rotate_left
  · rintro w' ⟨s0, s1⟩
    go_simp
    with_reducible rfl
  rotate_left
  · simp only [Act.put, List.setIfInBounds_toArray, List.set_cons_zero, List.set_cons_succ]
    rfl
  refine take_ (i := 10) (N := (some 164)) (v := ?_) (a' := ?_) #[true, true, true, true, true, true, true, true, true, true, true, false, false, false, false, false, false] rfl rfl (by kernel_rfl) (fun _ _ _ h => h) (Or.inl ⟨by rfl, ?_⟩) hHeld ?_ ?_
  rotate_left
  · rintro w' ⟨s0, s1⟩
    go_simp
    with_reducible rfl
  rotate_left
  · simp only [Act.put, List.setIfInBounds_toArray, List.set_cons_zero, List.set_cons_succ]
    rfl
  refine take_ (i := 11) (N := (some 165)) (v := ?_) (a' := ?_) #[true, true, true, true, true, true, true, true, true, true, true, true, false, false, false, false, false] rfl rfl (by kernel_rfl) (fun _ _ _ h => h) (Or.inl ⟨by rfl, ?_⟩) hHeld ?_ ?_
  rotate_left
  · rintro w' ⟨s0, s1⟩
    go_simp
    with_reducible rfl
  rotate_left
  · simp only [Act.put, List.setIfInBounds_toArray, List.set_cons_zero, List.set_cons_succ]
    rfl
  refine one_ (i := 12) (N := (some 166)) #[true, true, true, true, true, true, true, true, true, true, true, true, true, false, false, false, false] rfl rfl (by kernel_rfl) (by decide) (fun K hK => ?_)
  go_simp
  refine hK.out _ _ ⟨(H6.out.below (below_alloc (below_drew (Below.refl _ _)) _)).so.c0, (blk_cell (blk_alloc (blk_drew HLB6.out) _) 1).trans rfl⟩ (fun hHeld => ?_)
  clear hK K
  refine one_ (i := 13) (N := (some 167)) #[true, true, true, true, true, true, true, true, true, true, true, true, true, true, false, false, false] rfl rfl (by kernel_rfl) (by decide) (fun K hK => ?_)
  refine Kd.R_append_step kPtr (w0 := w6) B (by rfl) (.tmp 164) (.tmp 166) 59 62 (.pointer none) 8 (by rfl) Tryd.underlying59 info62 rfl (by decide) (by decide) (.slice A bs.length cap) bs nb [.pointer (some ⟨nb, 0, none⟩)] (fun _ => True) (fun _ => False) (by rfl) (by rfl) rfl (fun _ h => h.elim) (fun _ _ => trivial) (Kd.R_drew HR6.out) (below_drew (Below.refl _ _)) hbw (by omega) ?_
  intro v1 w1 ho1 hb1 hg1 hat1
  obtain ⟨A1, q1, rfl⟩ := Kd.R_slice ho1
  generalize hL : (bs ++ [nb]).length = L at *
  have hL2 : L = bs.length + 1 := by rw [← hL]; simp
  have HLB1 := Aside0.mk (blk_grown (blk_drew HLB6.out) hg1 (own_ne (Kd.R_own HR6.out).choose_spec HLB6.out (by decide)))
  have HO1 := Aside0.mk ho1
  have HG1 := Aside0.mk hg1
  have HBE1 := Aside0.mk hb1
  clear ho1 hb1 hg1 hat1 hL
  subst hL2
  have KX := Aside0.mk (KS.grown H6.out.drew (Kd.R_drew HR6.out) HG1.out)
  refine hK.out _ _ ⟨KX.out.2.c0, (blk_cell HLB1.out 1).trans rfl⟩ (fun hHeld => ?_)
  clear hK K
  refine take_ (i := 14) (N := (some 168)) (v := ?_) (a' := ?_) #[true, true, true, true, true, true, true, true, true, true, true, true, true, true, true, false, false] rfl rfl (by kernel_rfl) (fun _ _ _ h => h) (Or.inl ⟨by rfl, ?_⟩) hHeld ?_ ?_
  rotate_left
  · rintro w' ⟨s0, s1⟩
    go_simp
    with_reducible rfl
  rotate_left
  · simp only [Act.put, List.setIfInBounds_toArray, List.set_cons_zero, List.set_cons_succ]
    rfl
  refine take_ (i := 15) (N := (some 169)) (v := ?_) (a' := ?_) #[true, true, true, true, true, true, true, true, true, true, true, true, true, true, true, true, false] rfl rfl (by kernel_rfl) (fun _ _ _ h => h) (Or.inl ⟨by rfl, ?_⟩) hHeld ?_ ?_
  rotate_left
  · rintro w' ⟨s0, s1⟩
    go_simp
    with_reducible rfl
  rotate_left
  · simp only [Act.put, List.setIfInBounds_toArray, List.set_cons_zero, List.set_cons_succ]
    rfl
  refine last_ (i := 16) (N := none) #[true, true, true, true, true, true, true, true, true, true, true, true, true, true, true, true, true] rfl rfl (by kernel_rfl) (by decide) (fun K hK => ?_)
  have hf1 := blk_frozen HLB1.out 1
  have hc1 := (blk_cell HLB1.out 1).trans rfl
  go_simp
  refine hK.out _ _ ?_
  clear hK K hHeld hf1 hc1
  refine done_ (by kernel_rfl) ?_
  have hge : B ≤ l := H6.out.li.ge
  have hFT := (FrT.refl [61] B w1).setCell HLB1.out (by simp) hge 1 (.slice A1 (bs.length + 1) q1)
  have hNd : ∀ (i : Nat) (hi : i < bs.length), NodeAt B w1 bs[i] (ns i) := fun i hi => NodeAt.grown (H6.out.drew.li.nodeAt i hi) (Kd.R_drew HR6.out) HG1.out
  have hNx : NodeAt B w1 nb ((newNode op).with cs) := NodeAt.grown (w := w6.drew) ⟨HN6.out.ge, HN6.out.blk.drew⟩ (Kd.R_drew HR6.out) HG1.out
  have H9 := Aside0.mk (show KS B (w1.setCell ⟨l, 1, none⟩ (.slice A1 (bs.length + 1) q1)) ga l o a5 (bs ++ [nb]) (upNode ns bs.length ((newNode op).with cs)) { op with own := bs.length } from ⟨KX.out.1.kept hFT (by simp) (by simp), LiAt.push hge HLB1.out HO1.out hNd hNx, KX.out.2.kept hFT (by simp)⟩)
  have F9 := Aside0.mk ((F6.out.drew.thenT ((FrT.refl TK B w6.drew).grown (Kd.R_drew HR6.out) (by simp [TK]) (Nat.le_refl _) hbw HG1.out) (fun _ h => h)).thenT hFT (by simp [TK]))
  clear hFT hNd hNx hge c0 c1
  generalize (w1.setCell ⟨l, 1, none⟩ (.slice A1 (bs.length + 1) q1)) = w9 at *
  have c22 := H9.out.so.c22
  have f22 := H9.out.so.f 22
  go_wp2_with fail
  go_ret
  exact ⟨rfl, cs, HCS.out, a5, ⟨nb, H9.out.setOp (op' := { op with own := bs.length, does := 1 }) 22 (.int .i64 1) (by refine sop_set (fun j hj hn => ?_) rfl; simp only [sopCell, if_neg hn])⟩, HW5.out, HFR.out, F9.out.set H9.out.so.ge 22 _⟩
end Go.Proofs.YtmemkmnnededgaaDoor.H
