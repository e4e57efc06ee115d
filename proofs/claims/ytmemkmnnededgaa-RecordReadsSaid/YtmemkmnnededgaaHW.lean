/- The contract of the law's own 'shown': the document's examples hold. -/
import Derived.Test.YtmemkmnnededgaaHV
import Derived.Test.YtmemkmnnededgaaHG
namespace Go.Proofs.Ytmemkmnnededgaa.H
open Go.RowKit Go.Proofs.YtmemkmnnededgaaW.PrintWords Go.Proofs.YtmemkmnnededgaaW.PrintLast Go.Proofs.YtmemkmnnededgaaW.PrintMore
attribute [local go_sem] max2_int min2_int max_two min_two max_three min_three max_four min_four
set_option linter.unusedVariables false
set_option linter.unusedSimpArgs false

def shL : List W27 := [⟨⟨#[97]⟩, ⟨#[120]⟩, false⟩, ⟨⟨#[98]⟩, ⟨#[]⟩, true⟩]
theorem lit_list (a : Array UInt8) : (ByteArray.mk a).toList = a.toList := by
  rw [ByteArray.toList_eq]
theorem shRight : rightC 300 shL = true := by
  have hl : lessB ⟨#[97]⟩ ⟨#[98]⟩ = true := by
    unfold lessB
    rw [lit_list, lit_list]
    decide
  have h0 : wOkAt shL 0 = true := by decide
  have h1 : wOkAt shL 1 = true := by
    show (isKeyB ⟨#[98]⟩ && isValB ⟨#[]⟩ && (!true || (⟨#[]⟩ : ByteArray).size == 0) && (false || lessB ⟨#[97]⟩ ⟨#[98]⟩)) = true
    rw [hl]
    decide
  have h2 : allFrom shL 0 = true := by
    unfold allFrom
    rw [List.all_eq_true]
    intro i hi
    have : i = 0 ∨ i = 1 := by simp [List.mem_range', shL] at hi; omega
    rcases this with rfl | rfl
    · exact h0
    · exact h1
  unfold rightC
  rw [h2]
  decide
theorem shB : putC 300 shL = ([67, 172, 2, 2, 0, 1, 97, 1, 120, 1, 1, 98], 0) := by
  have n300 : nb 300 = [172, 2] := by
    have : IntKind.u64.wrap 300 = 300 := by decide
    unfold nb
    rw [this]
    show numB 300 = _
    rw [numB_big (by decide)]
    rw [numB_small (by decide)]
    rfl
  have n2 : nb (shL.length : Nat) = [2] := by
    have : IntKind.u64.wrap 2 = 2 := by decide
    unfold nb
    show numB (IntKind.u64.wrap 2).toNat = _
    rw [this]
    show numB 2 = _
    rw [numB_small (by decide)]
    rfl
  have n1 : numB 1 = [1] := numB_small (by decide)
  have t1 (x : UInt8) : tb ⟨#[x]⟩ = [1, (x.toNat : Int)] := by
    unfold tb
    have : (ByteArray.mk #[x]).size = 1 := rfl
    rw [this, n1]
    simp [bytesOf, lit_list]
  unfold putC
  rw [if_pos shRight]
  unfold commitB
  rw [n300, n2]
  unfold wsB shL wB
  simp only [List.map_cons, List.map_nil, List.flatten_cons, List.flatten_nil, t1, if_true, if_false, Bool.false_eq_true]
  rfl
theorem shC : (takeCR [67, 0, 1, 2]).2 = (3, 61) := by decide
theorem shM : (takeMR [77, 5, 2, 1, 1, 0, 5]).2 = (0, 0) ∧ (takeMR [77, 5, 2, 1, 1, 0, 5]).1.2.1 = 2 ∧ (takeMR [77, 5, 2, 1, 1, 0, 5]).1.2.2.length = 1 := by decide
theorem shR : (takeRR [82, 0, 0, 0]).2 = (0, 60) := by decide

theorem C_lit27 (w : World) (k0 v0 k1 v1 : ByteArray) (g0 g1 : Bool) :
    k27.C (w.alloc (.cells #[.string k0, .string v0, .bool g0, .string k1, .string v1, .bool g1] 27)) (some ⟨w.heap.size, 0, none⟩) [W27.mk k0 v0 g0, W27.mk k1 v1 g1].length [⟨k0, v0, g0⟩, ⟨k1, v1, g1⟩] := by
  have hb := blk_new w (.cells #[.string k0, .string v0, .bool g0, .string k1, .string v1, .bool g1] 27)
  refine ⟨rfl, by simp, fun _ => ⟨_, rfl, fun j p hj => ?_⟩⟩
  match j, hj with
  | 0, hj =>
    cases hj
    refine ⟨[.string k0, .string v0, .bool g0], rfl, ⟨[.string k0], [.string v0, .bool g0], rfl, rfl, ⟨[.string v0], [.bool g0], rfl, rfl, rfl⟩⟩, fun i u hu => ?_⟩
    match i, hu with
    | 0, hu => cases hu; exact (blk_cell hb 0).trans rfl
    | 1, hu => cases hu; exact (blk_cell hb 1).trans rfl
    | 2, hu => cases hu; exact (blk_cell hb 2).trans rfl
  | 1, hj =>
    cases hj
    refine ⟨[.string k1, .string v1, .bool g1], rfl, ⟨[.string k1], [.string v1, .bool g1], rfl, rfl, ⟨[.string v1], [.bool g1], rfl, rfl, rfl⟩⟩, fun i u hu => ?_⟩
    match i, hu with
    | 0, hu => cases hu; exact (blk_cell hb 3).trans rfl
    | 1, hu => cases hu; exact (blk_cell hb 4).trans rfl
    | 2, hu => cases hu; exact (blk_cell hb 5).trans rfl

theorem lit_call {w w1 : World} (h : Below w.heap.size w w1) (xs : List Int) (cs : Array Value) (hcs : cs = (nums .u8 xs).toArray) (hm : xs.length ≤ 9223372036854775807) :
    U8.C (w1.alloc (.cells cs 5)) (some ⟨w1.heap.size, 0, none⟩) xs.length xs ∧ Below w.heap.size w (w1.alloc (.cells cs 5)) := ⟨C_lit8 w1 xs cs _ hcs rfl hm, below_alloc h _⟩

set_option maxRecDepth 100000 in
set_option maxHeartbeats 3200000 in
theorem shown_any (w : World) : Calls Try.prog 8 #[] w fun e w' => e = .returned (.bool true) ∧ Below w.heap.size w w' := by
  have HL := Aside0.mk (C_lit27 w ⟨#[97]⟩ ⟨#[120]⟩ ⟨#[98]⟩ ⟨#[]⟩ false true)
  have HB := Aside0.mk (below_alloc (Below.refl w.heap.size w) (.cells #[.string ⟨#[97]⟩, .string ⟨#[120]⟩, .bool false, .string ⟨#[98]⟩, .string ⟨#[]⟩, .bool true] 27))
  have HSB := Aside0.mk shB
  go_enter Try.func8, Try.ntmps8
  go_wp2_with fail
  have HSZ := Aside0.mk (show w.heap.size ≤ (w.alloc (.cells #[.string ⟨#[97]⟩, .string ⟨#[120]⟩, .bool false, .string ⟨#[98]⟩, .string ⟨#[]⟩, .bool true] 27)).heap.size by simp)
  generalize (w.alloc (.cells #[.string ⟨#[97]⟩, .string ⟨#[120]⟩, .bool false, .string ⟨#[98]⟩, .string ⟨#[]⟩, .bool true] 27)) = w1 at *
  refine (putCommit_any 300 shL (some ⟨w.heap.size, 0, none⟩) 2 w1 HL.out).mono ?_
  rintro e w2 ⟨v, rfl, ho, hb⟩
  rw [HSB.out] at ho ⊢
  have HO2 := Aside0.mk (Kd.R_lower ho HSZ.out)
  have HB2 := Aside0.mk (below_then HB.out HSZ.out hb)
  obtain ⟨A, c, rfl⟩ := Kd.R_slice ho
  have HK := Aside0.mk (lit_call HB2.out [67, 0, 1, 2] #[.int .u8 67, .int .u8 0, .int .u8 1, .int .u8 2] rfl (by decide))
  have HO2a := Aside0.mk (Kd.R_alloc HO2.out (.cells #[.int .u8 67, .int .u8 0, .int .u8 1, .int .u8 2] 5))
  clear ho hb HL HB HSZ HB2 w1
  go_wp2_with fail
  generalize w2.alloc (.cells #[.int .u8 67, .int .u8 0, .int .u8 1, .int .u8 2] 5) = w2a at *
  refine (commit_any (some ⟨w2.heap.size, 0, none⟩) 4 [67, 0, 1, 2] w2a HK.out.1 (by decide) (by decide) (by decide)).mono ?_
  rintro e w3 ⟨v3, rfl, ho3, hb3⟩
  rw [shC]
  have HB3 := Aside0.mk (below_then HK.out.2 HK.out.2.size hb3)
  have HO3 := Aside0.mk (Kd.R_below HO2a.out hb3)
  obtain ⟨A3, c3, rfl⟩ := Kd.R_slice ho3
  clear ho3 hb3 HK HO2 HO2a
  go_wp2_with fail
  have HO4 := Aside0.mk (Kd.R_alloc (Kd.R_alloc HO3.out (.cells #[.int .i64 (takeCR [67, 0, 1, 2]).1.1, .slice A3 (takeCR [67, 0, 1, 2]).1.2.length c3] 24)) (.cells #[.int .u8 77, .int .u8 5, .int .u8 2, .int .u8 1, .int .u8 1, .int .u8 0, .int .u8 5] 5))
  have hk4 := lit_call (below_alloc HB3.out (.cells #[.int .i64 (takeCR [67, 0, 1, 2]).1.1, .slice A3 (takeCR [67, 0, 1, 2]).1.2.length c3] 24)) [77, 5, 2, 1, 1, 0, 5] #[.int .u8 77, .int .u8 5, .int .u8 2, .int .u8 1, .int .u8 1, .int .u8 0, .int .u8 5] rfl (by decide)
  rw [size_alloc] at hk4
  have HK4 := Aside0.mk hk4
  clear hk4 HB3 HO3
  generalize ((w3.alloc (.cells #[.int .i64 (takeCR [67, 0, 1, 2]).1.1, .slice A3 (takeCR [67, 0, 1, 2]).1.2.length c3] 24)).alloc (.cells #[.int .u8 77, .int .u8 5, .int .u8 2, .int .u8 1, .int .u8 1, .int .u8 0, .int .u8 5] 5)) = w4 at *
  refine (manifest_any (some ⟨w3.heap.size + 1, 0, none⟩) 7 [77, 5, 2, 1, 1, 0, 5] w4 HK4.out.1 (by decide) (by decide) (by decide)).mono ?_
  rintro e w5 ⟨v5, rfl, ho5, hb5⟩
  obtain ⟨m1, m2, m3⟩ := shM
  rw [m1, m2]
  have HB5 := Aside0.mk (below_then HK4.out.2 HK4.out.2.size hb5)
  have HO5 := Aside0.mk (Kd.R_below HO4.out hb5)
  obtain ⟨A5, c5, rfl⟩ := Kd.R_slice ho5
  rw [m3]
  generalize (takeMR [77, 5, 2, 1, 1, 0, 5]).1.1 = t5 at *
  clear ho5 hb5 HK4 HO4 m1 m2 m3
  go_wp2_with fail
  have HO6 := Aside0.mk (Kd.R_alloc (Kd.R_alloc HO5.out (.cells #[.int .i64 t5, .int .i64 2, .slice A5 1 c5] 38)) (.cells #[.int .u8 82, .int .u8 0, .int .u8 0, .int .u8 0] 5))
  have hk6 := lit_call (below_alloc HB5.out (.cells #[.int .i64 t5, .int .i64 2, .slice A5 1 c5] 38)) [82, 0, 0, 0] #[.int .u8 82, .int .u8 0, .int .u8 0, .int .u8 0] rfl (by decide)
  rw [size_alloc] at hk6
  have HK6 := Aside0.mk hk6
  have HM6 := Aside0.mk (blk_alloc (blk_new w5 (.cells #[.int .i64 t5, .int .i64 2, .slice A5 1 c5] 38)) (.cells #[.int .u8 82, .int .u8 0, .int .u8 0, .int .u8 0] 5))
  clear hk6 HB5 HO5
  generalize ((w5.alloc (.cells #[.int .i64 t5, .int .i64 2, .slice A5 1 c5] 38)).alloc (.cells #[.int .u8 82, .int .u8 0, .int .u8 0, .int .u8 0] 5)) = w6 at *
  refine (row_any (some ⟨w5.heap.size + 1, 0, none⟩) 4 [82, 0, 0, 0] w6 HK6.out.1 (by decide) (by decide) (by decide)).mono ?_
  rintro e w7 ⟨rfl, hb7⟩
  rw [shR]
  have HB7 := Aside0.mk (below_alloc (below_then HK6.out.2 HK6.out.2.size hb7) (.cells #[.string (takeRR [82, 0, 0, 0]).1.1, .string (takeRR [82, 0, 0, 0]).1.2.1, .int .i64 (takeRR [82, 0, 0, 0]).1.2.2] 45))
  have HO7 := Aside0.mk (Kd.R_alloc (Kd.R_below HO6.out hb7) (.cells #[.string (takeRR [82, 0, 0, 0]).1.1, .string (takeRR [82, 0, 0, 0]).1.2.1, .int .i64 (takeRR [82, 0, 0, 0]).1.2.2] 45))
  have HM7 := Aside0.mk (blk_alloc (blk_below HM6.out hb7) (.cells #[.string (takeRR [82, 0, 0, 0]).1.1, .string (takeRR [82, 0, 0, 0]).1.2.1, .int .i64 (takeRR [82, 0, 0, 0]).1.2.2] 45))
  clear hb7 HK6 HO6 HM6
  obtain ⟨_, hc, hr⟩ := Kd.R_reads' HO7.out
  obtain ⟨ad, rfl, _⟩ := hr.2.2 (by decide)
  have q0 : (w7.alloc (.cells #[.string (takeRR [82, 0, 0, 0]).1.1, .string (takeRR [82, 0, 0, 0]).1.2.1, .int .i64 (takeRR [82, 0, 0, 0]).1.2.2] 45)).cell? ad = some (.int .u8 67) := by
    have := at8 hr 0 (by decide)
    rwa [Addr.add_zero'] at this
  have q1 : (w7.alloc (.cells #[.string (takeRR [82, 0, 0, 0]).1.1, .string (takeRR [82, 0, 0, 0]).1.2.1, .int .i64 (takeRR [82, 0, 0, 0]).1.2.2] 45)).cell? ⟨ad.block, ad.off + 11, none⟩ = some (.int .u8 98) := at8 hr 11 (by decide)
  have q2 : (w7.alloc (.cells #[.string (takeRR [82, 0, 0, 0]).1.1, .string (takeRR [82, 0, 0, 0]).1.2.1, .int .i64 (takeRR [82, 0, 0, 0]).1.2.2] 45)).cell? ⟨w5.heap.size, 1, none⟩ = some (.int .i64 2) := (blk_cell HM7.out 1).trans rfl
  have q3 : (w7.alloc (.cells #[.string (takeRR [82, 0, 0, 0]).1.1, .string (takeRR [82, 0, 0, 0]).1.2.1, .int .i64 (takeRR [82, 0, 0, 0]).1.2.2] 45)).cell? ⟨w5.heap.size, 2, none⟩ = some (.slice A5 1 c5) := (blk_cell HM7.out 2).trans rfl
  simp at hc
  clear hr HO7 HM7
  go_wp2_with fail
  go_ret
  exact ⟨rfl, HB7.out⟩
end Go.Proofs.Ytmemkmnnededgaa.H
