/- Contract: a new skip list. -/
import Derived.Test.YtmemkmnnededgaaDoorD4d
namespace Go.Proofs.YtmemkmnnededgaaDoor.H
open Go.RowKit Go.Proofs.YtmemkmnnededgaaDoorW.PrintWords Go.Proofs.YtmemkmnnededgaaDoorW.PrintLast Go.Proofs.YtmemkmnnededgaaDoorW.PrintMore
attribute [local go_sem] max2_int min2_int max_two min_two max_three min_three max_four min_four
set_option linter.unusedVariables false
set_option linter.unusedSimpArgs false

def fcells : Array Value := #[.string ⟨#[]⟩, .int .u8 0, .int .u8 0, .int .u8 0, .int .u8 0, .int .u8 0, .int .u8 0, .int .u8 0, .int .u8 0, .int .u8 0, .int .u8 0, .int .u8 0, .int .u8 0, .int .u8 0, .int .u8 0, .int .u8 0, .int .u8 0, .int .u8 0, .int .i64 0, .int .i64 0, .int .i64 0, .int .i64 0, .int .i64 0, .int .i64 0, .int .i64 0, .int .i64 0, .int .i64 0, .int .i64 8]
def firstNode : SNode := ⟨⟨#[]⟩, fun _ => 0, 0, fun _ => 0, 8⟩
theorem fcells_node (B : Nat) (w : World) (hB : B ≤ w.heap.size) : NodeAt B (w.alloc (.cells fcells 67)) w.heap.size firstNode := by
  refine ⟨hB, CellsAt.new w _ 67 28 _ rfl (fun i hi => ?_)⟩
  rcases i with _ | _ | _ | _ | _ | _ | _ | _ | _ | _ | _ | _ | _ | _ | _ | _ | _ | _ | _ | _ | _ | _ | _ | _ | _ | _ | _ | _ | i
  all_goals first | rfl | exact absurd hi (by omega)
set_option maxRecDepth 100000 in
set_option maxHeartbeats 6400000 in
theorem snew_any (B k : Nat) (w : World) (ga : Nat) (a : Ar) (har : ArAt B w ga a) (hw : a.Wf k) (hk : k < 1900) (hT : TabAt 0 Lib.deBruijn64tab w) (hB : 0 < B) :
    Calls Tryd.prog 6 #[.pointer (some ⟨ga, 0, none⟩)] w fun e w' => ∃ (cs : List Nat) (a' : Ar) (b : Nat), e = .returned (.tuple #[.pointer (some ⟨w.heap.size, 0, none⟩), .int .i64 0]) ∧ cs.length = 8 ∧ LiAt B w' w.heap.size ga [b] (fun _ => firstNode.with cs) ∧ ArAt B w' ga a' ∧ a'.Wf (k + 8) ∧ Fresh a a' cs ∧ FrT TA B w w' := by
  have HAR := Aside0.mk har
  have HW := Aside0.mk hw
  have hz : B ≤ w.heap.size := Nat.le_trans har.ge (Nat.le_of_lt har.lt)
  have HZ := Aside0.mk hz
  have HT := Aside0.mk hT
  clear har hw hT hz
  go_enter Tryd.func6, Tryd.ntmps6
  go_upto_region 5 with fail
  change Code.wp _ _ _ _ ((w.alloc (.cells #[.pointer (some ⟨ga, 0, none⟩), .slice none 0 0] 61)).alloc (.cells fcells 67))
  have HN := Aside0.mk (show NodeAt B ((w.alloc (.cells #[.pointer (some ⟨ga, 0, none⟩), .slice none 0 0] 61)).alloc (.cells fcells 67)) (w.heap.size + 1) firstNode from by
    have := fcells_node B (w.alloc (.cells #[.pointer (some ⟨ga, 0, none⟩), .slice none 0 0] 61)) (by have := HZ.out; simp; omega)
    simpa using this)
  have HLB := Aside0.mk (blk_alloc (blk_new w (.cells #[.pointer (some ⟨ga, 0, none⟩), .slice none 0 0] 61)) (.cells fcells 67))
  have HBL : Below w.heap.size w ((w.alloc (.cells #[.pointer (some ⟨ga, 0, none⟩), .slice none 0 0] 61)).alloc (.cells fcells 67)) := below_alloc (below_alloc (Below.refl _ _) _) _
  have HA := Aside0.mk (HAR.out.below HBL)
  have HF := Aside0.mk ((FrT.refl TA B w).then_fresh HZ.out HBL)
  have HT1 := Aside0.mk (show TabAt 0 Lib.deBruijn64tab ((w.alloc (.cells #[.pointer (some ⟨ga, 0, none⟩), .slice none 0 0] 61)).alloc (.cells fcells 67)) from fun j hj => (HF.out.below.cell (p := ⟨0, j, none⟩) hB).trans (HT.out j hj))
  clear HBL
  generalize ((w.alloc (.cells #[.pointer (some ⟨ga, 0, none⟩), .slice none 0 0] 61)).alloc (.cells fcells 67)) = wa at *
  go_wp2_with fail
  refine (grow_any B k 8 w.heap.size ga (w.heap.size + 1) a firstNode wa HA.out HW.out (by omega) (by omega) HN.out rfl _ HLB.out HT1.out hB).mono ?_
  rintro e w5 ⟨cs, a5, rfl, hcs, hnd, ha, hwf, hfr, hf⟩
  have HCS := Aside0.mk hcs
  have HN5 := Aside0.mk hnd
  have HA5 := Aside0.mk ha
  have HW5 := Aside0.mk hwf
  have HFR := Aside0.mk hfr
  have HLB5 := Aside0.mk (hf.blk HLB.out (by simp [TA]) (by omega))
  have HF5 := Aside0.mk (show FrT TA B w w5 from ⟨HF.out.below.trans hf.below, fun j cs t fr hj ht => hf.kept j cs t fr (HF.out.kept j cs t fr hj ht) ht (by have := blk_lt hj; omega)⟩)
  clear hcs hnd ha hwf hfr hf HN HA HF HLB HT1
  have c1 : w5.cell? ⟨w.heap.size, 1, none⟩ = some (.slice none 0 0) := (blk_cell HLB5.out 1).trans rfl
  have HR5 : kPtr.R 62 w5 w.heap.size (fun _ => True) (.slice none 0 0) [] := Kd.R_nil _ _ _ _ _
  have HR := Aside0.mk HR5
  clear HR5
  go_wp2_with (at_builtin; go_must (refine Kd.R_append kPtr (w0 := w5) w.heap.size rfl (.tmp 24) (.tmp 26) 59 62 (.pointer none) 8 rfl Tryd.underlying59 info62 rfl (by decide) (by decide) _ [] (w.heap.size + 1) [.pointer (some ⟨w.heap.size + 1, 0, none⟩)] (fun _ => True) (fun _ => False) rfl rfl rfl (fun _ hk => hk.elim) (fun _ _ => trivial) HR.out (Below.refl _ _) HF5.out.size (by simp) ?_; intro v1 w6 ho hb hg hat; obtain ⟨A1, q1, rfl⟩ : ∃ A q, v1 = .slice A 1 q := (by obtain ⟨A, q, e⟩ := Kd.R_slice ho; exact ⟨A, q, e⟩); have HO6 := Aside0.mk ho; have HA6 := Aside0.mk (HA5.out.grown HR.out hg (by decide) (by decide)); have HN6 := Aside0.mk (show NodeAt B w6 (w.heap.size + 1) (firstNode.with cs) from NodeAt.grown HN5.out (Kd.R_lower HR.out HZ.out) hg); have HF6 := Aside0.mk (HF5.out.grown_new HR.out (Nat.le_refl _) HZ.out hg); have HLB6 := Aside0.mk (blk_grown HLB5.out hg (own_ne (Kd.R_own HR.out).choose_spec HLB5.out (by decide))); clear ho hb hg hat c1; have f6 := blk_frozen HLB6.out 1; have c6 : w6.cell? ⟨w.heap.size, 1, none⟩ = some (.slice none 0 0) := (blk_cell HLB6.out 1).trans rfl))
  go_ret2
  have hli := LiAt.push (ns := fun _ => firstNode.with cs) (bs := []) HZ.out HLB6.out (Kd.R_lower HO6.out HZ.out) (fun i hi => by simp at hi) HN6.out
  have e : upNode (fun _ => firstNode.with cs) ([] : List Nat).length (firstNode.with cs) = fun _ => firstNode.with cs := by funext j; simp [upNode]
  rw [e] at hli
  refine ⟨_, _, _, rfl, HCS.out, hli, ?_, HW5.out, HFR.out, HF6.out.set_new (Nat.le_refl _) HZ.out 1 _⟩
  exact HA6.out.kept ((FrT.refl [61] B w6).setCell HLB6.out (by simp) HZ.out 1 _) (by simp) (by simp)
end Go.Proofs.YtmemkmnnededgaaDoor.H
