/- Contracts of the reference's readers: Take, TakeText, the methods, Row, Gone. -/
import Derived.Test.YtmemkmnnededgaaHB
import Derived.Test.YtmemkmnnededgaaHM
import Derived.Test.YtmemkmnnededgaaHRA
import Derived.Test.YtmemkmnnededgaaHT
import Derived.Test.YtmemkmnnededgaaHJ
namespace Go.Proofs.Ytmemkmnnededgaa.H
open Go.RowKit Go.Proofs.YtmemkmnnededgaaW.PrintWords Go.Proofs.YtmemkmnnededgaaW.PrintLast Go.Proofs.YtmemkmnnededgaaW.PrintMore
attribute [local go_sem] max2_int min2_int max_two min_two max_three min_three max_four min_four
set_option linter.unusedVariables false
set_option linter.unusedSimpArgs false

theorem u64_small (n : Nat) (h : n < 18446744073709551616) : IntKind.u64.wrap (n : Int) = n := by
  simp [IntKind.wrap, IntKind.bits, IntKind.signed]
  omega
/-- What a round reckons. -/
theorem ref_acc (a P i : Nat) (x : Int) (hx0 : 0 ≤ x) (hx1 : x ≤ 255) (ha : a < 128 ^ i) (hP : P = 128 ^ i) (hi : i ≤ 9) (h9 : ¬ (i = 9 ∧ 1 < x)) :
    IntKind.u64.wrap ((a : Int) + IntKind.u64.wrap (x % 128 * (P : Int))) = ((a + P * (x.toNat % 128) : Nat) : Int) ∧ a + P * (x.toNat % 128) < 128 ^ (i + 1) := by
  obtain ⟨n, rfl⟩ := Int.eq_ofNat_of_zero_le hx0
  simp only [Int.toNat_natCast]
  have e : (n : Int) % 128 * (P : Int) = ((P * (n % 128) : Nat) : Int) := by
    rw [Int.mul_comm]
    push_cast
    rfl
  have hb : a + P * (n % 128) < 128 ^ (i + 1) := by
    rw [Nat.pow_succ, ← hP]
    have : n % 128 ≤ 127 := by omega
    have h2 : P * (n % 128) ≤ P * 127 := Nat.mul_le_mul_left P this
    omega
  have hc : a + P * (n % 128) < 18446744073709551616 := by
    by_cases hi9 : i = 9
    · subst hi9
      have hn : n ≤ 1 := by omega
      have h2 : P * (n % 128) ≤ P * 1 := Nat.mul_le_mul_left P (by omega)
      have h3 : P = 9223372036854775808 := by rw [hP]
      have h4 : a < 9223372036854775808 := ha
      omega
    · have h2 : (128 : Nat) ^ (i + 1) ≤ 128 ^ 9 := Nat.pow_le_pow_right (by omega) (by omega)
      have : (128 : Nat) ^ 9 = 9223372036854775808 := rfl
      omega
  refine ⟨?_, hb⟩
  rw [e, u64_small _ (by omega), ← Int.natCast_add, u64_small _ hc]
theorem ref_part (P i : Nat) (hP : P = 128 ^ i) (hi : i ≤ 8) : IntKind.u64.wrap ((P : Int) * 128) = ((128 ^ (i + 1) : Nat) : Int) := by
  have h2 : (128 : Nat) ^ (i + 1) ≤ 128 ^ 9 := Nat.pow_le_pow_right (by omega) (by omega)
  have h3 : (128 : Nat) ^ 9 = 9223372036854775808 := rfl
  have e : (P : Int) * 128 = ((128 ^ (i + 1) : Nat) : Int) := by rw [Nat.pow_succ, ← hP]; push_cast; rfl
  rw [e, u64_small _ (by omega)]

set_option maxHeartbeats 1600000 in
set_option maxRecDepth 100000 in
theorem refTake_any (A : Option Addr) (c : Nat) (b : List Int) (p : Int) (w : World) (hr : U8.C w A b.length b) (hc : b.length ≤ c) (hl : b.length < 140737488355328) (hb : Bytes b) :
    Calls Try.prog 76 #[.slice A b.length c, .int .i64 p] w fun e w' => e = .returned (takeV (takeR b p)) ∧ w' = w := by
  have HR := Aside0.mk hr
  have HBy := Aside0.mk hb
  clear hr hb
  by_cases h0 : p < 0
  · rw [takeR_out b p (by omega)]
    go_enter Try.func76, Try.ntmps76
    go_wp2_with fail
    go_ret3
    exact ⟨rfl, rfl⟩
  · by_cases h1 : (b.length : Int) ≤ p
    · rw [takeR_out b p (by omega)]
      go_enter Try.func76, Try.ntmps76
      go_wp2_with fail
      go_ret3
      exact ⟨rfl, rfl⟩
    · obtain ⟨q, rfl⟩ := Int.eq_ofNat_of_zero_le (show 0 ≤ p by omega)
      rw [takeR_in b q (by omega)]
      obtain ⟨ad, rfl, _⟩ := HR.out.2.2 (by omega)
      have hA := at8 HR.out
      have HA := Aside0.mk hA
      clear hA
      go_enter Try.func76, Try.ntmps76
      go_wp2_with fail
      all_goals
        go_loop [7, 8, 9] (fun v7 v8 v9 => ∃ i a P : Nat, i ≤ 9 ∧ q + i ≤ b.length ∧ v9 = .int .i64 i ∧ v7 = .int .u64 a ∧ v8 = .int .u64 P ∧ Aside0 (P = 128 ^ i) ∧ Aside0 (a < 128 ^ i) ∧ Aside0 (takeFrom b q 0 0 = takeFrom b q i a)) (fun _ _ v9 => 10 - (intOf v9).toNat)
        case atStart => exact ⟨0, 0, 1, by omega, by omega, rfl, rfl, rfl, ⟨rfl⟩, ⟨by decide⟩, ⟨rfl⟩⟩
        case round =>
          obtain ⟨i, a, P, hi, hqi, rfl, rfl, rfl, HP, Ha, HE⟩ := hrel
          by_cases hqb : q + i < b.length
          · obtain ⟨x, hx⟩ : ∃ x, x = b.getD (q + i) 0 := ⟨_, rfl⟩
            have hcell : w.cell? (ad.add (q + i)) = some (.int .u8 x) := by rw [hx]; exact HA.out (q + i) (by omega)
            have hxr : 0 ≤ x ∧ x ≤ 255 := by
              rw [hx, List.getD_eq_getElem?_getD, List.getElem?_eq_getElem hqb]
              exact HBy.out _ (List.getElem_mem hqb)
            obtain ⟨hx0, hx1⟩ := hxr
            have HX := Aside0.mk hx
            clear hx
            by_cases h9 : i = 9 ∧ 1 < x
            · have t1 : ((i : Int) == 9) = true := by rw [h9.1]; rfl
              have t2 : (1 : Int) < x := h9.2
              have T9 := Aside0.mk h9
              clear h9
              go_wp2_with fail
              go_ret3
              exact ⟨by obtain ⟨e9, hx9⟩ := T9.out; subst e9; rw [HE.out, takeFrom_nine b q a hqb (by rw [← HX.out]; exact hx9)]; rfl, rfl⟩
            · have T9 := Aside0.mk h9
              clear h9
              have HA2 := Aside0.mk (ref_acc a P i x hx0 hx1 Ha.out HP.out hi T9.out)
              by_cases t3 : x < 128
              · by_cases t5 : 0 < i ∧ x = 0
                · obtain ⟨t6, t7⟩ := t5
                  subst t7
                  have t8 : (0 : Int) < (i : Int) := by omega
                  by_cases t4 : i = 9
                  · have t1 : ((i : Int) == 9) = true := by rw [t4]; rfl
                    have T4 := Aside0.mk t4
                    clear t4
                    go_wp2_with fail
                    go_ret3
                    exact ⟨by rw [HE.out, takeFrom_zero b q i a hqb t6 HX.out.symm]; rfl, rfl⟩
                  · have t1 : ((i : Int) == 9) = false := by simp; omega
                    go_wp2_with fail
                    go_ret3
                    exact ⟨by rw [HE.out, takeFrom_zero b q i a hqb t6 HX.out.symm]; rfl, rfl⟩
                · have T5 := Aside0.mk t5
                  clear t5
                  have HF := Aside0.mk (show takeFrom b q 0 0 = (((a + 128 ^ i * x.toNat : Nat) : Int), ((q + i + 1 : Nat) : Int), true) by
                    rw [HE.out, takeFrom_last b q i a hqb (by omega) (by rw [← HX.out]; exact T9.out) (by rw [← HX.out]; omega) (by rw [← HX.out]; exact T5.out), HX.out])
                  have HG := Aside0.mk (show IntKind.u64.wrap ((a : Int) + IntKind.u64.wrap (x % 128 * (P : Int))) = ((a + 128 ^ i * x.toNat : Nat) : Int) by
                    rw [HA2.out.1, HP.out, Nat.mod_eq_of_lt (show x.toNat < 128 by omega)])
                  by_cases t8 : 0 < i
                  · have t6 : (0 : Int) < (i : Int) := by omega
                    have t7 : (x == 0) = false := by have := T5.out; simp; omega
                    by_cases t4 : i = 9
                    · have t1 : ((i : Int) == 9) = true := by rw [t4]; rfl
                      have t9 : ¬ (1 : Int) < x := fun h => T9.out ⟨t4, h⟩
                      have T4 := Aside0.mk t4
                      clear t4
                      go_wp2_with fail
                      go_ret3
                      exact ⟨by rw [HF.out]; exact ret_take (by first | exact HG.out | omega) (by omega), rfl⟩
                    · have t1 : ((i : Int) == 9) = false := by simp; omega
                      go_wp2_with fail
                      go_ret3
                      exact ⟨by rw [HF.out]; exact ret_take (by first | exact HG.out | omega) (by omega), rfl⟩
                  · have t6 : ¬ (0 : Int) < (i : Int) := by omega
                    have t1 : ((i : Int) == 9) = false := by simp; omega
                    go_wp2_with fail
                    go_ret3
                    exact ⟨by rw [HF.out]; exact ret_take (by first | exact HG.out | omega) (by omega), rfl⟩
              · by_cases t4 : i = 9
                · exact absurd ⟨t4, by omega⟩ T9.out
                · have t1 : ((i : Int) == 9) = false := by simp; omega
                  have t5 : i ≤ 8 := by omega
                  have HPP := Aside0.mk (ref_part P i HP.out t5)
                  go_wp2_with fail
                  refine ⟨⟨i + 1, _, _, by omega, by omega, by go_num, by rw [HA2.out.1], by rw [HPP.out], ⟨rfl⟩, ⟨HA2.out.2⟩, ⟨?_⟩⟩, by simp [intOf]; omega⟩
                  rw [HE.out, takeFrom_more b q i a hqb (by omega) (by rw [← HX.out]; exact T9.out) (by rw [← HX.out]; omega), HX.out, HP.out]
          · have HNO := Aside0.mk hqb
            go_wp2_with fail
            go_ret3
            exact ⟨by rw [HE.out, takeFrom_end b q i a (by have := HNO.out; omega)]; rfl, rfl⟩

set_option maxHeartbeats 800000 in
set_option maxRecDepth 100000 in
theorem refTakeText_any (A : Option Addr) (c : Nat) (b : List Int) (p most : Int) (w : World) (hr : U8.C w A b.length b) (hc : b.length ≤ c) (hl : b.length < 140737488355328) (hb : Bytes b) (hm : most < 9223372036854775808) :
    Calls Try.prog 77 #[.slice A b.length c, .int .i64 p, .int .i64 most] w fun e w' => e = .returned (takeTextV (takeTextR b p most)) ∧ w' = w := by
  have HR := Aside0.mk hr
  have HBy := Aside0.mk hb
  clear hr hb
  have hT := refTake_any A c b p w HR.out hc hl HBy.out
  unfold takeTextR
  have hbd := takeR_bounds b p
  have hno := takeR_no b p
  generalize takeR b p = r at *
  obtain ⟨n, nx, ok⟩ := r
  simp only [takeV] at hT
  have HT := Aside0.mk hT
  clear hT
  cases ok with
  | false =>
    have hno' := hno rfl
    injection hno' with e1 e2
    injection e2 with e2 e3
    subst e1 e2
    clear hno hbd
    rw [if_neg (by simp)]
    go_enter Try.func77, Try.ntmps77
    go_wp2_with fail
    refine HT.out.mono ?_
    rintro e w1 ⟨rfl, rfl⟩
    go_wp2_with fail
    go_ret3
    exact ⟨rfl, rfl⟩
  | true =>
    obtain ⟨n0, n1, p0, p1, n2⟩ := hbd rfl
    clear hno hbd
    simp only at n0 n1 p1 n2 ⊢
    by_cases m0 : most < 0
    · rw [if_neg (by omega)]
      go_enter Try.func77, Try.ntmps77
      go_wp2_with fail
      refine HT.out.mono ?_
      rintro e w1 ⟨rfl, rfl⟩
      go_wp2_with fail
      go_ret3
      exact ⟨rfl, rfl⟩
    · by_cases m1 : most < n
      · rw [if_neg (by omega)]
        go_enter Try.func77, Try.ntmps77
        go_wp2_with fail
        refine HT.out.mono ?_
        rintro e w1 ⟨rfl, rfl⟩
        go_wp2_with fail
        go_ret3
        exact ⟨rfl, rfl⟩
      · by_cases m2 : (b.length : Int) - nx < n
        · rw [if_neg (by omega)]
          go_enter Try.func77, Try.ntmps77
          go_wp2_with fail
          refine HT.out.mono ?_
          rintro e w1 ⟨rfl, rfl⟩
          go_wp2_with fail
          go_ret3
          exact ⟨rfl, rfl⟩
        · rw [if_pos ⟨trivial, by omega, by omega, by omega⟩]
          obtain ⟨i0, hi0, _, hsz, _⟩ := info_parts info5
          obtain ⟨A1, hcut, hA1, hC1⟩ := print_mid_of (P := Try.prog) (Value.int .u8) 0 28 5 .i64 .i64 Try.underlying28 hi0 hsz A c b nx (nx + n) (by omega) (by omega) (by omega) hc
          have hcv := Kd.C_string (P := Try.prog) (A := A1) (c := c - nx.toNat) Try.underlying28 Try.underlying5 Try.underlying9 (Kd.C_of_reads (h1 := fun _ => rfl) (hA1 _ (Kd.reads_of_C HR.out)))
          have hE : (b.take (nx + n).toNat).drop nx.toNat = (b.drop nx.toNat).take n.toNat := by
            rw [List.drop_take, show (nx + n).toNat - nx.toNat = n.toNat by omega]
          rw [← hE]
          generalize (b.take (nx + n).toNat).drop nx.toNat = t at *
          clear hE hA1 hC1 hi0 hsz
          go_enter Try.func77, Try.ntmps77
          go_wp2_with fail
          refine HT.out.mono ?_
          rintro e w1 ⟨rfl, rfl⟩
          go_wp2_with fail
          go_ret3
          exact ⟨rfl, rfl⟩

end Go.Proofs.Ytmemkmnnededgaa.H

namespace Go.Proofs.Ytmemkmnnededgaa.H
open Go.RowKit Go.Proofs.YtmemkmnnededgaaW.PrintWords Go.Proofs.YtmemkmnnededgaaW.PrintLast Go.Proofs.YtmemkmnnededgaaW.PrintMore
attribute [local go_sem] max2_int min2_int max_two min_two max_three min_three max_four min_four
set_option linter.unusedVariables false
set_option linter.unusedSimpArgs false

def TF : List TypeId := [80]
/-- The reference's reader at block g of w; its bytes came in by w0. -/
structure RfAt (w0 w : World) (g : Nat) (b : List Int) (s : St) : Prop where
  blk : ∃ A c, w.heap[g]? = some (.cells #[.slice A b.length c, .int .i64 s.at_, .int .i64 s.bad] 80 (0, 0)) ∧ U8.C w0 A b.length b ∧ b.length ≤ c
  old : Below w0.heap.size w0 w
  ge : w0.heap.size ≤ g
  len : b.length < 140737488355328
  bytes : Bytes b
  pos : 0 ≤ s.at_ ∧ s.at_ ≤ 140737488355328
section
variable {w0 w w' : World} {g : Nat} {b : List Int} {s : St}
theorem RfAt.drewN (h : RfAt w0 w g b s) (n : Nat) : RfAt w0 (w.drewN n) g b s := ⟨h.blk, pw_below_drewN h.old n, h.ge, h.len, h.bytes, h.pos⟩
theorem RfAt.drew (h : RfAt w0 w g b s) : RfAt w0 w.drew g b s := ⟨h.blk, below_drew h.old, h.ge, h.len, h.bytes, h.pos⟩
theorem RfAt.alloc (h : RfAt w0 w g b s) (o : Obj) : RfAt w0 (w.alloc o) g b s := by
  obtain ⟨A, c, hb, hC, hc⟩ := h.blk
  exact ⟨⟨A, c, blk_alloc hb o, hC, hc⟩, h.old.alloc h.old.size o, h.ge, h.len, h.bytes, h.pos⟩
theorem RfAt.setBad (h : RfAt w0 w g b s) (bad' : Int) : RfAt w0 (w.setCell ⟨g, 2, none⟩ (.int .i64 bad')) g b ⟨s.at_, bad'⟩ := by
  obtain ⟨A, c, hb, hC, hc⟩ := h.blk
  exact ⟨⟨A, c, blk_put hb 2 _ rfl, hC, hc⟩, h.old.setCell h.ge _, h.ge, h.len, h.bytes, h.pos⟩
theorem RfAt.setPos (h : RfAt w0 w g b s) (a' : Int) (h0 : 0 ≤ a') (h1 : a' ≤ 140737488355328) : RfAt w0 (w.setCell ⟨g, 1, none⟩ (.int .i64 a')) g b ⟨a', s.bad⟩ := by
  obtain ⟨A, c, hb, hC, hc⟩ := h.blk
  exact ⟨⟨A, c, blk_put hb 1 _ rfl, hC, hc⟩, h.old.setCell h.ge _, h.ge, h.len, h.bytes, ⟨h0, h1⟩⟩
theorem RfAt.lt (h : RfAt w0 w g b s) : g < w.heap.size := by
  obtain ⟨A, c, hb, _⟩ := h.blk
  exact blk_lt hb
theorem RfAt.frSet (h : RfAt w0 w g b s) {wa : World} (hf : FrT TF w0.heap.size wa w) (j : Nat) (u : Value) : FrT TF w0.heap.size wa (w.setCell ⟨g, j, none⟩ u) := by
  obtain ⟨A, c, hb, _⟩ := h.blk
  exact hf.setCell hb (by simp [TF]) h.ge j u
end

set_option maxRecDepth 100000 in
set_option maxHeartbeats 1600000 in
theorem wrong_first (w0 : World) (g : Nat) (b : List Int) (a bad : Int) (w : World) (hr : RfAt w0 w g b ⟨a, bad⟩) (hb : bad < 0) :
    Calls Try.prog 75 #[.pointer (some ⟨g, 0, none⟩)] w fun e w' => e = .returned (.tuple #[]) ∧ RfAt w0 w' g b ⟨a, a⟩ ∧ FrT TF w0.heap.size w w' := by
  obtain ⟨A, c, hblk, hC, hc⟩ := hr.blk
  have HR := Aside0.mk hr
  have h1 : w.cell? ⟨g, 1, none⟩ = some (.int .i64 a) := (blk_cell hblk 1).trans rfl
  have h2 : w.cell? ⟨g, 2, none⟩ = some (.int .i64 bad) := (blk_cell hblk 2).trans rfl
  have h3 : w.frozen? ⟨g, 2, none⟩ = false := blk_frozen hblk 2
  clear hr hblk hC
  go_enter Try.func75, Try.ntmps75
  go_wp2_with fail
  go_end0
  exact ⟨rfl, HR.out.setBad a, HR.out.frSet (FrT.refl _ _ _) 2 _⟩
set_option maxRecDepth 100000 in
set_option maxHeartbeats 1600000 in
theorem wrong_again (w0 : World) (g : Nat) (b : List Int) (a bad : Int) (w : World) (hr : RfAt w0 w g b ⟨a, bad⟩) (hb : 0 ≤ bad) :
    Calls Try.prog 75 #[.pointer (some ⟨g, 0, none⟩)] w fun e w' => e = .returned (.tuple #[]) ∧ w' = w := by
  obtain ⟨A, c, hblk, hC, hc⟩ := hr.blk
  have h1 : w.cell? ⟨g, 1, none⟩ = some (.int .i64 a) := (blk_cell hblk 1).trans rfl
  have h2 : w.cell? ⟨g, 2, none⟩ = some (.int .i64 bad) := (blk_cell hblk 2).trans rfl
  clear hr hblk hC
  go_enter Try.func75, Try.ntmps75
  go_wp2_with fail
  go_end0
  exact ⟨rfl, rfl⟩

set_option maxRecDepth 100000 in
set_option maxHeartbeats 1600000 in
theorem rfnum_any (w0 : World) (g : Nat) (b : List Int) (most : Int) (s : St) (w : World) (hr : RfAt w0 w g b s) (hm0 : 0 ≤ most) (hm1 : most < 9223372036854775808) :
    Calls Try.prog 41 #[.pointer (some ⟨g, 0, none⟩), .int .i64 most] w fun e w' => e = .returned (.int .i64 (rdNum b most s).1) ∧ RfAt w0 w' g b (rdNum b most s).2 ∧ FrT TF w0.heap.size w w' := by
  obtain ⟨a, bad⟩ := s
  obtain ⟨A, c, hblk, hC, hc⟩ := hr.blk
  have HR := Aside0.mk hr
  have HC := Aside0.mk (Kd.C_below hC hr.old)
  have h0 : w.cell? ⟨g, 0, none⟩ = some (.slice A b.length c) := (blk_cell hblk 0).trans rfl
  have h1 : w.cell? ⟨g, 1, none⟩ = some (.int .i64 a) := (blk_cell hblk 1).trans rfl
  have h2 : w.cell? ⟨g, 2, none⟩ = some (.int .i64 bad) := (blk_cell hblk 2).trans rfl
  have h4 : w.frozen? ⟨g, 1, none⟩ = false := blk_frozen hblk 1
  have HT := Aside0.mk (fun n => refTake_any A c b a (w.drewN n) (Kd.C_drewN HC.out n) hc hr.len hr.bytes)
  have hlen := hr.len
  unfold rdNum
  by_cases hb : 0 ≤ bad
  · rw [if_pos hb]
    clear hr hblk hC
    go_enter Try.func41, Try.ntmps41
    go_wp2_with fail
    go_ret
    exact ⟨rfl, HR.out, FrT.refl _ _ _⟩
  · rw [if_neg hb]
    replace hb : bad < 0 := by omega
    have HBD := Aside0.mk hb
    have hbd := takeR_bounds b a
    simp only
    generalize takeR b a = r at *
    obtain ⟨n, nx, ok⟩ := r
    simp only [takeV] at HT
    simp only at hbd ⊢
    clear hr hblk hC
    cases ok with
    | false =>
      rw [if_neg (by simp)]
      clear hbd
      go_enter Try.func41, Try.ntmps41
      go_wp2_with fail
      go_quiet ((go_at_call 76; exact Calls.quiet_of_same (HT.out _)))
      go_wp2_with fail
      refine (wrong_first w0 g b a bad _ (HR.out.drewN nq) HBD.out).mono ?_
      rintro e w2 ⟨rfl, hr2, hf2⟩
      have HR2 := Aside0.mk hr2
      have HF2 := Aside0.mk (((FrT.refl TF w0.heap.size w).drewN nq).trans hf2)
      clear hr2 hf2
      go_wp2_with fail
      go_ret
      exact ⟨rfl, HR2.out, HF2.out⟩
    | true =>
      obtain ⟨n0, n1, p0, p1, p2⟩ := hbd rfl
      by_cases hmost : most < n
      · rw [if_neg (by omega)]
        go_enter Try.func41, Try.ntmps41
        go_wp2_with fail
        go_quiet ((go_at_call 76; exact Calls.quiet_of_same (HT.out _)))
        go_wp2_with fail
        refine (wrong_first w0 g b a bad _ (HR.out.drewN nq) HBD.out).mono ?_
        rintro e w2 ⟨rfl, hr2, hf2⟩
        have HR2 := Aside0.mk hr2
        have HF2 := Aside0.mk (((FrT.refl TF w0.heap.size w).drewN nq).trans hf2)
        clear hr2 hf2
        go_wp2_with fail
        go_ret
        exact ⟨rfl, HR2.out, HF2.out⟩
      · rw [if_pos ⟨rfl, by omega⟩]
        replace hmost : n ≤ most := by omega
        go_enter Try.func41, Try.ntmps41
        go_wp2_with fail
        go_quiet ((go_at_call 76; exact Calls.quiet_of_same (HT.out _)))
        go_wp2_with fail
        go_ret
        exact ⟨rfl, (HR.out.drewN nq).setPos nx (by omega) (by omega), (HR.out.drewN nq).frSet ((FrT.refl _ _ _).drewN nq) 1 _⟩

set_option maxRecDepth 100000 in
set_option maxHeartbeats 1600000 in
theorem rftext_any (w0 : World) (g : Nat) (b : List Int) (most : Int) (s : St) (w : World) (hr : RfAt w0 w g b s) (hm1 : most < 9223372036854775808) :
    Calls Try.prog 43 #[.pointer (some ⟨g, 0, none⟩), .int .i64 most] w fun e w' => e = .returned (.string (rdText b most s).1) ∧ RfAt w0 w' g b (rdText b most s).2 ∧ FrT TF w0.heap.size w w' := by
  obtain ⟨a, bad⟩ := s
  obtain ⟨A, c, hblk, hC, hc⟩ := hr.blk
  have HR := Aside0.mk hr
  have HC := Aside0.mk (Kd.C_below hC hr.old)
  have h0 : w.cell? ⟨g, 0, none⟩ = some (.slice A b.length c) := (blk_cell hblk 0).trans rfl
  have h1 : w.cell? ⟨g, 1, none⟩ = some (.int .i64 a) := (blk_cell hblk 1).trans rfl
  have h2 : w.cell? ⟨g, 2, none⟩ = some (.int .i64 bad) := (blk_cell hblk 2).trans rfl
  have h4 : w.frozen? ⟨g, 1, none⟩ = false := blk_frozen hblk 1
  have HT := Aside0.mk (fun n => refTakeText_any A c b a most (w.drewN n) (Kd.C_drewN HC.out n) hc hr.len hr.bytes hm1)
  have hlen := hr.len
  unfold rdText
  by_cases hb : 0 ≤ bad
  · rw [if_pos hb]
    clear hr hblk hC
    go_enter Try.func43, Try.ntmps43
    go_wp2_with fail
    go_ret
    exact ⟨rfl, HR.out, FrT.refl _ _ _⟩
  · rw [if_neg hb]
    replace hb : bad < 0 := by omega
    have HBD := Aside0.mk hb
    have hbd := takeTextR_bounds b a most
    simp only
    generalize takeTextR b a most = r at *
    obtain ⟨n, nx, ok⟩ := r
    simp only [takeTextV] at HT
    simp only at hbd ⊢
    clear hr hblk hC
    cases ok with
    | false =>
      rw [if_neg (by simp)]
      clear hbd
      go_enter Try.func43, Try.ntmps43
      go_wp2_with fail
      go_quiet ((go_at_call 77; exact Calls.quiet_of_same (HT.out _)))
      go_wp2_with fail
      refine (wrong_first w0 g b a bad _ (HR.out.drewN nq) HBD.out).mono ?_
      rintro e w2 ⟨rfl, hr2, hf2⟩
      have HR2 := Aside0.mk hr2
      have HF2 := Aside0.mk (((FrT.refl TF w0.heap.size w).drewN nq).trans hf2)
      clear hr2 hf2
      go_wp2_with fail
      go_ret
      exact ⟨rfl, HR2.out, HF2.out⟩
    | true =>
      obtain ⟨p0, p1⟩ := hbd rfl
      rw [if_pos rfl]
      go_enter Try.func43, Try.ntmps43
      go_wp2_with fail
      go_quiet ((go_at_call 77; exact Calls.quiet_of_same (HT.out _)))
      go_wp2_with fail
      go_ret
      exact ⟨rfl, (HR.out.drewN nq).setPos nx (by omega) (by omega), (HR.out.drewN nq).frSet ((FrT.refl _ _ _).drewN nq) 1 _⟩
end Go.Proofs.Ytmemkmnnededgaa.H

namespace Go.Proofs.Ytmemkmnnededgaa.H
open Go.RowKit Go.Proofs.YtmemkmnnededgaaW.PrintWords Go.Proofs.YtmemkmnnededgaaW.PrintLast Go.Proofs.YtmemkmnnededgaaW.PrintMore
attribute [local go_sem] max2_int min2_int max_two min_two max_three min_three max_four min_four
set_option linter.unusedVariables false
set_option linter.unusedSimpArgs false

set_option maxRecDepth 100000 in
set_option maxHeartbeats 3200000 in
theorem rfflag_any (w0 : World) (g : Nat) (b : List Int) (s : St) (w : World) (hr : RfAt w0 w g b s) :
    Calls Try.prog 42 #[.pointer (some ⟨g, 0, none⟩)] w fun e w' => e = .returned (.bool (rdFlag b s).1) ∧ RfAt w0 w' g b (rdFlag b s).2 ∧ FrT TF w0.heap.size w w' := by
  obtain ⟨a, bad⟩ := s
  obtain ⟨A, c, hblk, hC, hc⟩ := hr.blk
  have HR := Aside0.mk hr
  have HC := Aside0.mk (Kd.C_below hC hr.old)
  have HBL := Aside0.mk hblk
  have H0C := Aside0.mk hC
  have h0 : w.cell? ⟨g, 0, none⟩ = some (.slice A b.length c) := (blk_cell hblk 0).trans rfl
  have h1 : w.cell? ⟨g, 1, none⟩ = some (.int .i64 a) := (blk_cell hblk 1).trans rfl
  have h2 : w.cell? ⟨g, 2, none⟩ = some (.int .i64 bad) := (blk_cell hblk 2).trans rfl
  have h4 : w.frozen? ⟨g, 1, none⟩ = false := blk_frozen hblk 1
  have hlen := hr.len
  have ha0 : 0 ≤ a := hr.pos.1
  have HBY := Aside0.mk hr.bytes
  unfold rdFlag
  by_cases hb : 0 ≤ bad
  · rw [if_pos hb]
    have hb' : decide (0 ≤ bad) = true := decide_eq_true hb
    have HBD := Aside0.mk hb
    clear hr hblk hC
    go_enter Try.func42, Try.ntmps42
    go_wp2_with fail
    go_quiet (fail)
    go_wp2_with fail
    refine (wrong_again w0 g b a bad _ (HR.out.drewN nq) HBD.out).mono ?_
    rintro e w2 ⟨rfl, rfl⟩
    go_wp2_with fail
    go_ret
    exact ⟨rfl, HR.out.drewN nq, (FrT.refl _ _ _).drewN nq⟩
  · rw [if_neg hb]
    have hb' : decide (0 ≤ bad) = false := decide_eq_false hb
    replace hb : bad < 0 := by omega
    have HBD := Aside0.mk hb
    simp only
    clear hr hblk hC
    by_cases hal : a < b.length
    · obtain ⟨ad, rfl, _⟩ := HC.out.2.2 (by omega)
      obtain ⟨x, hx⟩ : ∃ x, x = b.getD a.toNat 0 := ⟨_, rfl⟩
      have hcell : w.cell? (ad.add a.toNat) = some (.int .u8 x) := by rw [hx]; exact at8 HC.out a.toNat (by omega)
      have hxr : 0 ≤ x ∧ x ≤ 255 := by
        rw [hx, List.getD_eq_getElem?_getD, List.getElem?_eq_getElem (by omega)]
        exact HBY.out _ (List.getElem_mem _)
      obtain ⟨hx0, hx1⟩ := hxr
      rw [← hx]
      clear hx
      have hal' : decide ((b.length : Int) ≤ a) = false := decide_eq_false (by omega)
      by_cases hx2 : x ≤ 1
      · rw [if_pos ⟨hal, hx2⟩]
        have hx3 : decide (1 < x) = false := decide_eq_false (by omega)
        have HAL := Aside0.mk hal
        have HR2 := Aside0.mk fun n => (HR.out.drewN n).setPos (a + 1) (by omega) (by omega)
        have HF2 := Aside0.mk fun n => (HR.out.drewN n).frSet ((FrT.refl TF w0.heap.size w).drewN n) 1 (.int .i64 (a + 1))
        go_enter Try.func42, Try.ntmps42
        go_wp2_with fail
        go_quiet (fail)
        go_wp2_with fail
        have HB2 := Aside0.mk (blk_put (blk_drewN HBL.out nq) 1 (.int .i64 (a + 1)) rfl)
        have HX2 := Aside0.mk (at8 (Kd.C_below H0C.out (HR2.out nq).old) a.toNat (by omega))
        have HR3 := Aside0.mk (HR2.out nq)
        have HF3 := Aside0.mk (HF2.out nq)
        have HXE := Aside0.mk (at8 HC.out a.toNat (by omega))
        clear HR2 HF2 hb' hal'
        generalize (w.drewN nq).setCell ⟨g, 1, none⟩ (.int .i64 (a + 1)) = w2 at *
        have c0 : w2.cell? ⟨g, 0, none⟩ = some (.slice (some ad) b.length c) := (blk_cell HB2.out 0).trans rfl
        have c1 : w2.cell? ⟨g, 1, none⟩ = some (.int .i64 (a + 1)) := (blk_cell HB2.out 1).trans rfl
        have cx : w2.cell? (ad.add a.toNat) = some (.int .u8 x) := by
          rw [HX2.out, ← HXE.out]
          exact hcell
        have ew : IntKind.i64.wrap a = a := by simp [IntKind.wrap, IntKind.bits, IntKind.signed]; omega
        go_quiet (fail)
        go_wp2_with fail
        go_ret
        exact ⟨rfl, HR3.out.drewN nq, HF3.out.drewN nq⟩
      · rw [if_neg (fun h => hx2 h.2)]
        have hx3 : decide (1 < x) = true := decide_eq_true (by omega)
        clear hx2
        go_enter Try.func42, Try.ntmps42
        go_wp2_with fail
        go_quiet (fail)
        go_wp2_with fail
        refine (wrong_first w0 g b a bad _ (HR.out.drewN nq) HBD.out).mono ?_
        rintro e w2 ⟨rfl, hr2, hf2⟩
        have HR2 := Aside0.mk hr2
        have HF2 := Aside0.mk (((FrT.refl TF w0.heap.size w).drewN nq).trans hf2)
        clear hr2 hf2
        go_wp2_with fail
        go_ret
        exact ⟨rfl, HR2.out, HF2.out⟩
    · rw [if_neg (fun h => hal h.1)]
      have hal' : decide ((b.length : Int) ≤ a) = true := decide_eq_true (by omega)
      clear hal
      go_enter Try.func42, Try.ntmps42
      go_wp2_with fail
      go_quiet (fail)
      go_wp2_with fail
      refine (wrong_first w0 g b a bad _ (HR.out.drewN nq) HBD.out).mono ?_
      rintro e w2 ⟨rfl, hr2, hf2⟩
      have HR2 := Aside0.mk hr2
      have HF2 := Aside0.mk (((FrT.refl TF w0.heap.size w).drewN nq).trans hf2)
      clear hr2 hf2
      go_wp2_with fail
      go_ret
      exact ⟨rfl, HR2.out, HF2.out⟩

def endR (b : List Int) (s : St) (right : Bool) : Int × Int := if 0 ≤ s.bad then (s.bad, 61) else if s.at_ < b.length then (s.at_, 61) else if right = true then (0, 0) else (0, 60)

set_option maxRecDepth 100000 in
set_option maxHeartbeats 3200000 in
theorem rfend_any (w0 : World) (g : Nat) (b : List Int) (s : St) (right : Bool) (w : World) (hr : RfAt w0 w g b s) :
    Calls Try.prog 44 #[.pointer (some ⟨g, 0, none⟩), .bool right] w fun e w' => e = .returned (.tuple #[.int .i64 (endR b s right).1, .int .i64 (endR b s right).2]) ∧ FrT TF w0.heap.size w w' := by
  obtain ⟨a, bad⟩ := s
  obtain ⟨A, c, hblk, hC, hc⟩ := hr.blk
  have HR := Aside0.mk hr
  have h0 : w.cell? ⟨g, 0, none⟩ = some (.slice A b.length c) := (blk_cell hblk 0).trans rfl
  have h1 : w.cell? ⟨g, 1, none⟩ = some (.int .i64 a) := (blk_cell hblk 1).trans rfl
  have h2 : w.cell? ⟨g, 2, none⟩ = some (.int .i64 bad) := (blk_cell hblk 2).trans rfl
  have HP := Aside0.mk (show 0 ≤ a from hr.pos.1)
  have hf := FrT.refl TF w0.heap.size w
  have HF := Aside0.mk hf
  unfold endR
  simp only
  clear hr hblk hC hf
  by_cases hb : 0 ≤ bad
  · rw [if_pos hb]
    have HBD := Aside0.mk hb
    by_cases hal : a < b.length
    · go_enter Try.func44, Try.ntmps44
      go_wp2_with fail
      go_quiet (fail)
      go_wp2_with fail
      refine (wrong_again w0 g b a bad _ (HR.out.drewN nq) HBD.out).mono ?_
      rintro e w2 ⟨rfl, rfl⟩
      go_wp2_with fail
      go_ret2
      exact ⟨rfl, HF.out.drewN nq⟩
    · go_enter Try.func44, Try.ntmps44
      go_wp2_with fail
      go_quiet (fail)
      go_wp2_with fail
      go_ret2
      exact ⟨rfl, HF.out.drewN nq⟩
  · rw [if_neg hb]
    replace hb : bad < 0 := by omega
    have HBD := Aside0.mk hb
    by_cases hal : a < b.length
    · rw [if_pos hal]
      go_enter Try.func44, Try.ntmps44
      go_wp2_with fail
      go_quiet (fail)
      go_wp2_with fail
      refine (wrong_first w0 g b a bad _ (HR.out.drewN nq) HBD.out).mono ?_
      rintro e w2 ⟨rfl, hr2, hf2⟩
      obtain ⟨A2, c2, hb2, _, _⟩ := hr2.blk
      have k2 : w2.cell? ⟨g, 2, none⟩ = some (.int .i64 a) := (blk_cell hb2 2).trans rfl
      have HF2 := Aside0.mk ((HF.out.drewN nq).trans hf2)
      have ha0 := HP.out
      clear hr2 hf2 hb2
      go_wp2_with fail
      go_ret2
      exact ⟨rfl, HF2.out⟩
    · rw [if_neg hal]
      cases right with
      | true =>
        go_enter Try.func44, Try.ntmps44
        go_wp2_with fail
        go_quiet (fail)
        go_wp2_with fail
        go_ret2
        exact ⟨rfl, HF.out.drewN nq⟩
      | false =>
        go_enter Try.func44, Try.ntmps44
        go_wp2_with fail
        go_quiet (fail)
        go_wp2_with fail
        go_ret2
        exact ⟨rfl, HF.out.drewN nq⟩
end Go.Proofs.Ytmemkmnnededgaa.H

namespace Go.Proofs.Ytmemkmnnededgaa.H
open Go.RowKit Go.Proofs.YtmemkmnnededgaaW.PrintWords Go.Proofs.YtmemkmnnededgaaW.PrintLast Go.Proofs.YtmemkmnnededgaaW.PrintMore
attribute [local go_sem] max2_int min2_int max_two min_two max_three min_three max_four min_four
set_option linter.unusedVariables false
set_option linter.unusedSimpArgs false

/-- The reader as it begins. -/
def st0 (b : List Int) (k : Int) : St := if b.length = 0 ∨ b.getD 0 0 ≠ k then ⟨1, 0⟩ else ⟨1, -1⟩
theorem rf_new (A : Option Addr) (c : Nat) (b : List Int) (a bad : Int) (w : World) (hC : U8.C w A b.length b) (hc : b.length ≤ c) (hl : b.length < 140737488355328) (hb : Bytes b) (ha : 0 ≤ a ∧ a ≤ 140737488355328) :
    RfAt w (w.alloc (.cells #[.slice A b.length c, .int .i64 a, .int .i64 bad] 80)) w.heap.size b ⟨a, bad⟩ :=
  ⟨⟨A, c, blk_new w _, hC, hc⟩, below_alloc (Below.refl _ _) _, Nat.le_refl _, hl, hb, ha⟩

set_option maxRecDepth 100000 in
set_option maxHeartbeats 3200000 in
theorem begin_any (A : Option Addr) (c : Nat) (b : List Int) (k : Int) (w : World) (hC : U8.C w A b.length b) (hc : b.length ≤ c) (hl : b.length < 140737488355328) (hb : Bytes b) :
    Calls Try.prog 40 #[.slice A b.length c, .int .u8 k] w fun e w' => e = .returned (.pointer (some ⟨w.heap.size, 0, none⟩)) ∧ RfAt w w' w.heap.size b (st0 b k) := by
  have HN := Aside0.mk (rf_new A c b 0 (-1) w hC hc hl hb (by decide))
  have HN1 := Aside0.mk (rf_new A c b 1 (-1) w hC hc hl hb (by decide))
  have HB := Aside0.mk (blk_new w (.cells #[.slice A b.length c, .int .i64 0, .int .i64 (-1)] 80))
  have HC := Aside0.mk (Kd.C_alloc hC (.cells #[.slice A b.length c, .int .i64 0, .int .i64 (-1)] 80))
  unfold st0
  by_cases h0 : b.length = 0
  · rw [if_pos (Or.inl h0)]
    have h0' : ((b.length : Int) == 0) = true := by simp [h0]
    clear hC hb h0
    go_enter Try.func40, Try.ntmps40
    go_wp2_with fail
    generalize w.alloc (.cells #[.slice A b.length c, .int .i64 0, .int .i64 (-1)] 80) = w1 at *
    refine (wrong_first w _ b 0 (-1) w1 HN.out (by decide)).mono ?_
    rintro e w2 ⟨rfl, hr2, hf2⟩
    have HR2 := Aside0.mk hr2
    obtain ⟨A2, c2, hb2, _, _⟩ := hr2.blk
    have k1 : w2.frozen? ⟨w.heap.size, 1, none⟩ = false := blk_frozen hb2 1
    have k2 : w2.cell? ⟨w.heap.size, 1, none⟩ = some (.int .i64 0) := (blk_cell hb2 1).trans rfl
    clear hr2 hf2 hb2
    go_wp2_with fail
    go_ret
    exact ⟨rfl, HR2.out.setPos 1 (by decide) (by decide)⟩
  · have h0' : ((b.length : Int) == 0) = false := by simp [h0]
    obtain ⟨ad, rfl, _⟩ := HC.out.2.2 (by omega)
    have hx := at8 HC.out 0 (by omega)
    rw [Addr.add_zero'] at hx
    have hlen : 0 < b.length := by omega
    by_cases h1 : b.getD 0 0 = k
    · rw [if_neg (by rintro (h | h); exact h0 h; exact h h1)]
      rw [h1] at hx
      clear hC hb h0 h1
      go_enter Try.func40, Try.ntmps40
      go_wp2_with fail
      go_ret
      exact ⟨rfl, HN1.out⟩
    · rw [if_pos (Or.inr h1)]
      have h1' : (b.getD 0 0 != k) = true := bne_iff_ne.mpr h1
      generalize b.getD 0 0 = x at *
      clear hC hb h0 h1
      go_enter Try.func40, Try.ntmps40
      go_wp2_with fail
      generalize w.alloc (.cells #[.slice (some ad) b.length c, .int .i64 0, .int .i64 (-1)] 80) = w1 at *
      refine (wrong_first w _ b 0 (-1) w1 HN.out (by decide)).mono ?_
      rintro e w2 ⟨rfl, hr2, hf2⟩
      have HR2 := Aside0.mk hr2
      obtain ⟨A2, c2, hb2, _, _⟩ := hr2.blk
      have k1 : w2.frozen? ⟨w.heap.size, 1, none⟩ = false := blk_frozen hb2 1
      have k2 : w2.cell? ⟨w.heap.size, 1, none⟩ = some (.int .i64 0) := (blk_cell hb2 1).trans rfl
      clear hr2 hf2 hb2
      go_wp2_with fail
      go_ret
      exact ⟨rfl, HR2.out.setPos 1 (by decide) (by decide)⟩
end Go.Proofs.Ytmemkmnnededgaa.H

namespace Go.Proofs.Ytmemkmnnededgaa.H
open Go.RowKit Go.Proofs.YtmemkmnnededgaaW.PrintWords Go.Proofs.YtmemkmnnededgaaW.PrintLast Go.Proofs.YtmemkmnnededgaaW.PrintMore
attribute [local go_sem] max2_int min2_int max_two min_two max_three min_three max_four min_four
set_option linter.unusedVariables false
set_option linter.unusedSimpArgs false

set_option maxRecDepth 100000 in
set_option maxHeartbeats 3200000 in
theorem refRightRow_any (k v : ByteArray) (t : Int) (w : World) :
    Calls Try.prog 56 #[.agg #[.string k, .string v, .int .i64 t]] w fun e w' => e = .returned (.bool (rightR k v t)) ∧ Below w.heap.size w w' := by
  have HX := Aside0.mk (blk_new w (.cells #[.string k, .string v, .int .i64 t] 45))
  have HB := Aside0.mk (below_alloc (Below.refl w.heap.size w) (.cells #[.string k, .string v, .int .i64 t] 45))
  unfold rightR
  cases hk : isKeyB k with
  | false =>
    have HK := Aside0.mk hk
    clear hk
    go_enter Try.func56, Try.ntmps56
    go_wp2_with fail
    refine (refIsKey_is k _ HK.out _).mono ?_
    rintro e w1 ⟨rfl, rfl⟩
    go_wp2_with fail
    go_ret
    exact ⟨rfl, HB.out⟩
  | true =>
    have HK := Aside0.mk hk
    clear hk
    cases hv : isValB v with
    | false =>
      have HV := Aside0.mk hv
      clear hv
      go_enter Try.func56, Try.ntmps56
      go_wp2_with fail
      refine (refIsKey_is k _ HK.out _).mono ?_
      rintro e w1 ⟨rfl, rfl⟩
      go_wp2_with fail
      refine (refIsVal_is v _ HV.out _).mono ?_
      rintro e w1 ⟨rfl, rfl⟩
      go_wp2_with fail
      go_ret
      exact ⟨rfl, HB.out⟩
    | true =>
      have HV := Aside0.mk hv
      clear hv
      go_enter Try.func56, Try.ntmps56
      go_wp2_with fail
      refine (refIsKey_is k _ HK.out _).mono ?_
      rintro e w1 ⟨rfl, rfl⟩
      go_wp2_with fail
      refine (refIsVal_is v _ HV.out _).mono ?_
      rintro e w1 ⟨rfl, rfl⟩
      go_wp2_with fail
      refine (refTimed_any t _).mono ?_
      rintro e w1 ⟨rfl, rfl⟩
      go_wp2_with fail
      go_ret
      exact ⟨rfl, HB.out⟩
set_option maxRecDepth 100000 in
set_option maxHeartbeats 3200000 in
theorem refRightGone_any (k : ByteArray) (t : Int) (w : World) :
    Calls Try.prog 60 #[.agg #[.string k, .int .i64 t]] w fun e w' => e = .returned (.bool (rightG k t)) ∧ Below w.heap.size w w' := by
  have HX := Aside0.mk (blk_new w (.cells #[.string k, .int .i64 t] 49))
  have HB := Aside0.mk (below_alloc (Below.refl w.heap.size w) (.cells #[.string k, .int .i64 t] 49))
  unfold rightG
  cases hk : isKeyB k with
  | false =>
    have HK := Aside0.mk hk
    clear hk
    go_enter Try.func60, Try.ntmps60
    go_wp2_with fail
    refine (refIsKey_is k _ HK.out _).mono ?_
    rintro e w1 ⟨rfl, rfl⟩
    go_wp2_with fail
    go_ret
    exact ⟨rfl, HB.out⟩
  | true =>
    have HK := Aside0.mk hk
    clear hk
    go_enter Try.func60, Try.ntmps60
    go_wp2_with fail
    refine (refIsKey_is k _ HK.out _).mono ?_
    rintro e w1 ⟨rfl, rfl⟩
    go_wp2_with fail
    refine (refTimed_any t _).mono ?_
    rintro e w1 ⟨rfl, rfl⟩
    go_wp2_with fail
    go_ret
    exact ⟨rfl, HB.out⟩

theorem RfAt.far {w0 w : World} {g : Nat} {b : List Int} {s : St} (h : RfAt w0 w g b s) {q : Nat} {cs : Array Value} {t : TypeId} (hq : w.heap[q]? = some (.cells cs t (0, 0))) (ht : t ≠ 80) (j : Nat) (u : Value) (hge : w0.heap.size ≤ q) : RfAt w0 (w.setCell ⟨q, j, none⟩ u) g b s := by
  obtain ⟨A, c, hb, hC, hc⟩ := h.blk
  exact ⟨⟨A, c, blk_far hb (p := ⟨q, j, none⟩) (blk_ne hb hq (fun e => ht e.symm)) u, hC, hc⟩, h.old.setCell hge u, h.ge, h.len, h.bytes, h.pos⟩
def refRR (b : List Int) : (ByteArray × ByteArray × Int) × Int × Int :=
  (if (endR b (rdR b (st0 b 82)).2 (rightR (rdR b (st0 b 82)).1.1 (rdR b (st0 b 82)).1.2.1 (rdR b (st0 b 82)).1.2.2)).2 = 0 then (rdR b (st0 b 82)).1 else (⟨#[]⟩, ⟨#[]⟩, 0), endR b (rdR b (st0 b 82)).2 (rightR (rdR b (st0 b 82)).1.1 (rdR b (st0 b 82)).1.2.1 (rdR b (st0 b 82)).1.2.2))
theorem endR_zero (b : List Int) (s : St) (r : Bool) (h : (endR b s r).2 = 0) : (endR b s r).1 = 0 := by
  unfold endR at h ⊢
  split at h
  · exact absurd (show (61 : Int) = 0 from h) (by decide)
  · split at h
    · exact absurd (show (61 : Int) = 0 from h) (by decide)
    · split at h
      · rename_i h1 h2 h3
        rw [if_neg h1, if_neg h2, if_pos h3]
      · exact absurd (show (60 : Int) = 0 from h) (by decide)

set_option maxRecDepth 100000 in
set_option maxHeartbeats 6400000 in
theorem refRow_any (A : Option Addr) (c : Nat) (b : List Int) (w : World) (hC : U8.C w A b.length b) (hc : b.length ≤ c) (hl : b.length < 140737488355328) (hb : Bytes b) :
    Calls Try.prog 18 #[.slice A b.length c] w fun e w' => e = .returned (.tuple #[.agg #[.string (refRR b).1.1, .string (refRR b).1.2.1, .int .i64 (refRR b).1.2.2], .int .i64 (refRR b).2.1, .int .i64 (refRR b).2.2]) ∧ Below w.heap.size w w' := by
  have HC := Aside0.mk (Kd.C_alloc hC (.cells #[.string ⟨#[]⟩, .string ⟨#[]⟩, .int .i64 0] 45))
  have HY := Aside0.mk hb
  have HR := Aside0.mk (blk_new w (.cells #[.string ⟨#[]⟩, .string ⟨#[]⟩, .int .i64 0] 45))
  have HB := Aside0.mk (below_alloc (Below.refl w.heap.size w) (.cells #[.string ⟨#[]⟩, .string ⟨#[]⟩, .int .i64 0] 45))
  have HS := Aside0.mk (show w.heap.size < (w.alloc (.cells #[.string ⟨#[]⟩, .string ⟨#[]⟩, .int .i64 0] 45)).heap.size by simp)
  clear hC hb
  generalize hE0 : st0 b 82 = s0
  generalize hE1 : rdText b 16 s0 = r1
  generalize hE2 : rdText b 64 r1.2 = r2
  generalize hE3 : rdNum b 1099511627775 r2.2 = r3
  generalize hE4 : endR b r3.2 (rightR r1.1 r2.1 r3.1) = en
  have HZ := Aside0.mk (endR_zero b r3.2 (rightR r1.1 r2.1 r3.1))
  have hRR : refRR b = (if en.2 = 0 then (r1.1, r2.1, r3.1) else (⟨#[]⟩, ⟨#[]⟩, 0), en) := by
    unfold refRR rdR
    simp only [hE0, hE1, hE2, hE3, hE4]
  rw [hRR]
  rw [hE4] at HZ
  have HE0 := Aside0.mk hE0
  have HE1 := Aside0.mk hE1
  have HE2 := Aside0.mk hE2
  have HE3 := Aside0.mk hE3
  have HE4 := Aside0.mk hE4
  clear hE0 hE1 hE2 hE3 hE4 hRR
  obtain ⟨x1, s1⟩ := r1
  obtain ⟨x2, s2⟩ := r2
  obtain ⟨x3, s3⟩ := r3
  obtain ⟨ea, ee⟩ := en
  dsimp only at HE2 HE3 HE4 HZ ⊢
  go_enter Try.func18, Try.ntmps18
  go_wp2_with fail
  generalize w.alloc (.cells #[.string ⟨#[]⟩, .string ⟨#[]⟩, .int .i64 0] 45) = w1 at *
  refine (begin_any A c b 82 w1 HC.out hc hl HY.out).mono ?_
  rintro e w2 ⟨rfl, hr2⟩
  rw [HE0.out] at hr2
  have HF2 := Aside0.mk hr2
  have HR2 := Aside0.mk (blk_below HR.out hr2.old)
  clear hr2
  go_wp2_with fail
  refine (rftext_any w1 w1.heap.size b 16 s0 w2 HF2.out (by decide)).mono ?_
  rintro e w3 ⟨rfl, hr3, hf3⟩
  rw [HE1.out] at hr3 ⊢
  have HF3 := Aside0.mk (hr3.alloc (.cells #[.string x1, .string ⟨#[]⟩, .int .i64 0] 45))
  have HQ3 := Aside0.mk (blk_new w3 (.cells #[.string x1, .string ⟨#[]⟩, .int .i64 0] 45))
  have HG3 := Aside0.mk (show w1.heap.size ≤ w3.heap.size from hr3.old.size)
  have HR3 := Aside0.mk (blk_alloc (hf3.blk HR2.out (by simp [TF])) (.cells #[.string x1, .string ⟨#[]⟩, .int .i64 0] 45))
  have HRQ := Aside0.mk (Nat.ne_of_lt (Nat.lt_of_lt_of_le HS.out HG3.out))
  clear hr3 hf3 HF2 HR2
  dsimp only
  go_wp2_with fail
  refine (rftext_any w1 w1.heap.size b 64 s1 _ HF3.out (by decide)).mono ?_
  rintro e w4 ⟨rfl, hr4, hf4⟩
  rw [HE2.out] at hr4 ⊢
  have HF4 := Aside0.mk hr4
  have HQ4 := Aside0.mk (hf4.blk HQ3.out (by simp [TF]))
  generalize w3.heap.size = q at *
  have f4 := blk_frozen HQ4.out 1
  have q4 := (blk_cell HQ4.out 1).trans rfl
  have HF4b := Aside0.mk (hr4.far HQ4.out (by decide) 1 (.string x2) HG3.out)
  have HQ4b := Aside0.mk (blk_put HQ4.out 1 (.string x2) rfl)
  have HR4 := Aside0.mk (blk_far (hf4.blk HR3.out (by simp [TF])) (p := ⟨q, 1, none⟩) HRQ.out (.string x2))
  clear hr4 hf4 HF3 HQ3 HR3
  dsimp only
  go_wp2_with fail
  clear f4 q4 HF4 HQ4
  generalize w4.setCell ⟨q, 1, none⟩ (.string x2) = w4b at *
  refine (rfnum_any w1 w1.heap.size b 1099511627775 s2 _ HF4b.out (by decide) (by decide)).mono ?_
  rintro e w5 ⟨rfl, hr5, hf5⟩
  rw [HE3.out] at hr5 ⊢
  have HQ5 := Aside0.mk (hf5.blk HQ4b.out (by simp [TF]))
  have f5 := blk_frozen HQ5.out 2
  have q5 := (blk_cell HQ5.out 2).trans rfl
  have HF5b := Aside0.mk (hr5.far HQ5.out (by decide) 2 (.int .i64 x3) HG3.out)
  have HQ5b := Aside0.mk (blk_put HQ5.out 2 (.int .i64 x3) rfl)
  have HR5 := Aside0.mk (blk_far (hf5.blk HR4.out (by simp [TF])) (p := ⟨q, 2, none⟩) HRQ.out (.int .i64 x3))
  have c0 : (w5.setCell ⟨q, 2, none⟩ (.int .i64 x3)).cell? ⟨q, 0, none⟩ = some (.string x1) := (blk_cell HQ5b.out 0).trans rfl
  have c1 : (w5.setCell ⟨q, 2, none⟩ (.int .i64 x3)).cell? ⟨q, 1, none⟩ = some (.string x2) := (blk_cell HQ5b.out 1).trans rfl
  have c2 : (w5.setCell ⟨q, 2, none⟩ (.int .i64 x3)).cell? ⟨q, 2, none⟩ = some (.int .i64 x3) := (blk_cell HQ5b.out 2).trans rfl
  clear hr5 hf5 HF4b HQ4b HR4 HQ5
  dsimp only
  go_wp2_with fail
  clear f5 q5 c0 c1 c2
  generalize w5.setCell ⟨q, 2, none⟩ (.int .i64 x3) = w5b at *
  refine (refRightRow_any x1 x2 x3 w5b).mono ?_
  rintro e w6 ⟨rfl, hb6⟩
  obtain ⟨A5, c5, hblk, hC5, hc5⟩ := HF5b.out.blk
  have HF6 := Aside0.mk (show RfAt w1 w6 w1.heap.size b s3 from ⟨⟨A5, c5, blk_below hblk hb6, hC5, hc5⟩, below_then HF5b.out.old HF5b.out.old.size hb6, HF5b.out.ge, HF5b.out.len, HF5b.out.bytes, HF5b.out.pos⟩)
  have HQ6 := Aside0.mk (blk_below HQ5b.out hb6)
  have HR6 := Aside0.mk (blk_below HR5.out hb6)
  clear hblk hC5 hc5 hb6 HF5b HQ5b HR5
  go_wp2_with fail
  refine (rfend_any w1 w1.heap.size b s3 (rightR x1 x2 x3) w6 HF6.out).mono ?_
  rintro e w7 ⟨rfl, hf7⟩
  rw [HE4.out]
  have HQ7 := Aside0.mk (hf7.blk HQ6.out (by simp [TF]))
  have HR7 := Aside0.mk (hf7.blk HR6.out (by simp [TF]))
  have HB7 := Aside0.mk (below_then HB.out (Nat.le_of_lt HS.out) (HF6.out.old.trans hf7.below))
  have c0 : w7.cell? ⟨q, 0, none⟩ = some (.string x1) := (blk_cell HQ7.out 0).trans rfl
  have c1 : w7.cell? ⟨q, 1, none⟩ = some (.string x2) := (blk_cell HQ7.out 1).trans rfl
  have c2 : w7.cell? ⟨q, 2, none⟩ = some (.int .i64 x3) := (blk_cell HQ7.out 2).trans rfl
  have r0 : w7.cell? ⟨w.heap.size, 0, none⟩ = some (.string ⟨#[]⟩) := (blk_cell HR7.out 0).trans rfl
  have r1 : w7.cell? ⟨w.heap.size, 1, none⟩ = some (.string ⟨#[]⟩) := (blk_cell HR7.out 1).trans rfl
  have r2 : w7.cell? ⟨w.heap.size, 2, none⟩ = some (.int .i64 0) := (blk_cell HR7.out 2).trans rfl
  have g0 := blk_frozen HR7.out 0
  have g1 := blk_frozen HR7.out 1
  have g2 := blk_frozen HR7.out 2
  clear hf7 HF6 HQ6 HR6
  by_cases he : ee = 0
  · subst he
    obtain rfl : ea = 0 := HZ.out rfl
    dsimp only
    go_wp2_with fail
    have HR8 := Aside0.mk (st3 HR7.out (.string x1) (.string x2) (.int .i64 x3))
    have HB8 := Aside0.mk (Below.setCell (Below.setCell (Below.setCell HB7.out (p := ⟨w.heap.size, 0, none⟩) (Nat.le_refl _) (.string x1)) (p := ⟨w.heap.size, 1, none⟩) (Nat.le_refl _) (.string x2)) (p := ⟨w.heap.size, 2, none⟩) (Nat.le_refl _) (.int .i64 x3))
    clear c0 c1 c2 r0 r1 r2 g0 g1 g2
    generalize (((w7.setCell ⟨w.heap.size, 0, none⟩ (.string x1)).setCell ⟨w.heap.size, 1, none⟩ (.string x2)).setCell ⟨w.heap.size, 2, none⟩ (.int .i64 x3)) = w8 at *
    have c0_ : w8.cell? ⟨w.heap.size, 0, none⟩ = some (.string x1) := (blk_cell HR8.out 0).trans rfl
    have c1_ : w8.cell? ⟨w.heap.size, 1, none⟩ = some (.string x2) := (blk_cell HR8.out 1).trans rfl
    have c2_ : w8.cell? ⟨w.heap.size, 2, none⟩ = some (.int .i64 x3) := (blk_cell HR8.out 2).trans rfl
    exact bodyPost_ret (v := .tuple #[.agg #[.string x1, .string x2, .int .i64 x3], .int .i64 0, .int .i64 0]) (by simp [results, Try.results18, go_sem, c0_, c1_, c2_]) rfl ⟨rfl, HB8.out⟩
  · have he' : (ee != 0) = true := bne_iff_ne.mpr he
    dsimp only
    go_wp2_with fail
    have HR8 := Aside0.mk (st3 HR7.out (.string ⟨#[]⟩) (.string ⟨#[]⟩) (.int .i64 0))
    have HB8 := Aside0.mk (Below.setCell (Below.setCell (Below.setCell HB7.out (p := ⟨w.heap.size, 0, none⟩) (Nat.le_refl _) (.string ⟨#[]⟩)) (p := ⟨w.heap.size, 1, none⟩) (Nat.le_refl _) (.string ⟨#[]⟩)) (p := ⟨w.heap.size, 2, none⟩) (Nat.le_refl _) (.int .i64 0))
    clear c0 c1 c2 r0 r1 r2 g0 g1 g2
    generalize (((w7.setCell ⟨w.heap.size, 0, none⟩ (.string ⟨#[]⟩)).setCell ⟨w.heap.size, 1, none⟩ (.string ⟨#[]⟩)).setCell ⟨w.heap.size, 2, none⟩ (.int .i64 0)) = w8 at *
    have c0_ : w8.cell? ⟨w.heap.size, 0, none⟩ = some (.string ⟨#[]⟩) := (blk_cell HR8.out 0).trans rfl
    have c1_ : w8.cell? ⟨w.heap.size, 1, none⟩ = some (.string ⟨#[]⟩) := (blk_cell HR8.out 1).trans rfl
    have c2_ : w8.cell? ⟨w.heap.size, 2, none⟩ = some (.int .i64 0) := (blk_cell HR8.out 2).trans rfl
    exact bodyPost_ret (v := .tuple #[.agg #[.string ⟨#[]⟩, .string ⟨#[]⟩, .int .i64 0], .int .i64 ea, .int .i64 ee]) (by simp [results, Try.results18, go_sem, c0_, c1_, c2_]) rfl ⟨rfl, HB8.out⟩

def refGR (b : List Int) : (ByteArray × Int) × Int × Int :=
  (if (endR b (rdG b (st0 b 71)).2 (rightG (rdG b (st0 b 71)).1.1 (rdG b (st0 b 71)).1.2)).2 = 0 then (rdG b (st0 b 71)).1 else (⟨#[]⟩, 0), endR b (rdG b (st0 b 71)).2 (rightG (rdG b (st0 b 71)).1.1 (rdG b (st0 b 71)).1.2))

set_option maxRecDepth 100000 in
set_option maxHeartbeats 6400000 in
theorem refGone_any (A : Option Addr) (c : Nat) (b : List Int) (w : World) (hC : U8.C w A b.length b) (hc : b.length ≤ c) (hl : b.length < 140737488355328) (hb : Bytes b) :
    Calls Try.prog 20 #[.slice A b.length c] w fun e w' => e = .returned (.tuple #[.agg #[.string (refGR b).1.1, .int .i64 (refGR b).1.2], .int .i64 (refGR b).2.1, .int .i64 (refGR b).2.2]) ∧ Below w.heap.size w w' := by
  have HC := Aside0.mk (Kd.C_alloc hC (.cells #[.string ⟨#[]⟩, .int .i64 0] 49))
  have HY := Aside0.mk hb
  have HR := Aside0.mk (blk_new w (.cells #[.string ⟨#[]⟩, .int .i64 0] 49))
  have HB := Aside0.mk (below_alloc (Below.refl w.heap.size w) (.cells #[.string ⟨#[]⟩, .int .i64 0] 49))
  have HS := Aside0.mk (show w.heap.size < (w.alloc (.cells #[.string ⟨#[]⟩, .int .i64 0] 49)).heap.size by simp)
  clear hC hb
  generalize hE0 : st0 b 71 = s0
  generalize hE1 : rdText b 16 s0 = r1
  generalize hE3 : rdNum b 1099511627775 r1.2 = r3
  generalize hE4 : endR b r3.2 (rightG r1.1 r3.1) = en
  have HZ := Aside0.mk (endR_zero b r3.2 (rightG r1.1 r3.1))
  have hRR : refGR b = (if en.2 = 0 then (r1.1, r3.1) else (⟨#[]⟩, 0), en) := by
    unfold refGR rdG
    simp only [hE0, hE1, hE3, hE4]
  rw [hRR]
  rw [hE4] at HZ
  have HE0 := Aside0.mk hE0
  have HE1 := Aside0.mk hE1
  have HE3 := Aside0.mk hE3
  have HE4 := Aside0.mk hE4
  clear hE0 hE1 hE3 hE4 hRR
  obtain ⟨x1, s1⟩ := r1
  obtain ⟨x3, s3⟩ := r3
  obtain ⟨ea, ee⟩ := en
  dsimp only at HE3 HE4 HZ ⊢
  go_enter Try.func20, Try.ntmps20
  go_wp2_with fail
  generalize w.alloc (.cells #[.string ⟨#[]⟩, .int .i64 0] 49) = w1 at *
  refine (begin_any A c b 71 w1 HC.out hc hl HY.out).mono ?_
  rintro e w2 ⟨rfl, hr2⟩
  rw [HE0.out] at hr2
  have HF2 := Aside0.mk hr2
  have HR2 := Aside0.mk (blk_below HR.out hr2.old)
  clear hr2
  go_wp2_with fail
  refine (rftext_any w1 w1.heap.size b 16 s0 w2 HF2.out (by decide)).mono ?_
  rintro e w3 ⟨rfl, hr3, hf3⟩
  rw [HE1.out] at hr3 ⊢
  have HF3 := Aside0.mk (hr3.alloc (.cells #[.string x1, .int .i64 0] 49))
  have HQ3 := Aside0.mk (blk_new w3 (.cells #[.string x1, .int .i64 0] 49))
  have HG3 := Aside0.mk (show w1.heap.size ≤ w3.heap.size from hr3.old.size)
  have HR3 := Aside0.mk (blk_alloc (hf3.blk HR2.out (by simp [TF])) (.cells #[.string x1, .int .i64 0] 49))
  have HRQ := Aside0.mk (Nat.ne_of_lt (Nat.lt_of_lt_of_le HS.out HG3.out))
  clear hr3 hf3 HF2 HR2
  dsimp only
  go_wp2_with fail
  refine (rfnum_any w1 w1.heap.size b 1099511627775 s1 _ HF3.out (by decide) (by decide)).mono ?_
  rintro e w5 ⟨rfl, hr5, hf5⟩
  rw [HE3.out] at hr5 ⊢
  have HQ5 := Aside0.mk (hf5.blk HQ3.out (by simp [TF]))
  have HR4 := Aside0.mk (hf5.blk HR3.out (by simp [TF]))
  generalize w3.heap.size = q at *
  have f5 := blk_frozen HQ5.out 1
  have q5 := (blk_cell HQ5.out 1).trans rfl
  have HF5b := Aside0.mk (hr5.far HQ5.out (by decide) 1 (.int .i64 x3) HG3.out)
  have HQ5b := Aside0.mk (blk_put HQ5.out 1 (.int .i64 x3) rfl)
  have HR5 := Aside0.mk (blk_far HR4.out (p := ⟨q, 1, none⟩) HRQ.out (.int .i64 x3))
  have c0 : (w5.setCell ⟨q, 1, none⟩ (.int .i64 x3)).cell? ⟨q, 0, none⟩ = some (.string x1) := (blk_cell HQ5b.out 0).trans rfl
  have c1 : (w5.setCell ⟨q, 1, none⟩ (.int .i64 x3)).cell? ⟨q, 1, none⟩ = some (.int .i64 x3) := (blk_cell HQ5b.out 1).trans rfl
  clear hr5 hf5 HF3 HQ3 HR3 HR4 HQ5
  dsimp only
  go_wp2_with fail
  clear f5 q5 c0 c1
  generalize w5.setCell ⟨q, 1, none⟩ (.int .i64 x3) = w5b at *
  refine (refRightGone_any x1 x3 w5b).mono ?_
  rintro e w6 ⟨rfl, hb6⟩
  obtain ⟨A5, c5, hblk, hC5, hc5⟩ := HF5b.out.blk
  have HF6 := Aside0.mk (show RfAt w1 w6 w1.heap.size b s3 from ⟨⟨A5, c5, blk_below hblk hb6, hC5, hc5⟩, below_then HF5b.out.old HF5b.out.old.size hb6, HF5b.out.ge, HF5b.out.len, HF5b.out.bytes, HF5b.out.pos⟩)
  have HQ6 := Aside0.mk (blk_below HQ5b.out hb6)
  have HR6 := Aside0.mk (blk_below HR5.out hb6)
  clear hblk hC5 hc5 hb6 HF5b HQ5b HR5
  go_wp2_with fail
  refine (rfend_any w1 w1.heap.size b s3 (rightG x1 x3) w6 HF6.out).mono ?_
  rintro e w7 ⟨rfl, hf7⟩
  rw [HE4.out]
  have HQ7 := Aside0.mk (hf7.blk HQ6.out (by simp [TF]))
  have HR7 := Aside0.mk (hf7.blk HR6.out (by simp [TF]))
  have HB7 := Aside0.mk (below_then HB.out (Nat.le_of_lt HS.out) (HF6.out.old.trans hf7.below))
  have c0 : w7.cell? ⟨q, 0, none⟩ = some (.string x1) := (blk_cell HQ7.out 0).trans rfl
  have c1 : w7.cell? ⟨q, 1, none⟩ = some (.int .i64 x3) := (blk_cell HQ7.out 1).trans rfl
  have r0 : w7.cell? ⟨w.heap.size, 0, none⟩ = some (.string ⟨#[]⟩) := (blk_cell HR7.out 0).trans rfl
  have r1 : w7.cell? ⟨w.heap.size, 1, none⟩ = some (.int .i64 0) := (blk_cell HR7.out 1).trans rfl
  have g0 := blk_frozen HR7.out 0
  have g1 := blk_frozen HR7.out 1
  clear hf7 HF6 HQ6 HR6
  by_cases he : ee = 0
  · subst he
    obtain rfl : ea = 0 := HZ.out rfl
    dsimp only
    go_wp2_with fail
    have HR8 := Aside0.mk (blk_put (blk_put HR7.out 0 (.string x1) rfl) 1 (.int .i64 x3) rfl)
    have HB8 := Aside0.mk (Below.setCell (Below.setCell HB7.out (p := ⟨w.heap.size, 0, none⟩) (Nat.le_refl _) (.string x1)) (p := ⟨w.heap.size, 1, none⟩) (Nat.le_refl _) (.int .i64 x3))
    clear c0 c1 r0 r1 g0 g1
    generalize ((w7.setCell ⟨w.heap.size, 0, none⟩ (.string x1)).setCell ⟨w.heap.size, 1, none⟩ (.int .i64 x3)) = w8 at *
    have c0_ : w8.cell? ⟨w.heap.size, 0, none⟩ = some (.string x1) := (blk_cell HR8.out 0).trans rfl
    have c1_ : w8.cell? ⟨w.heap.size, 1, none⟩ = some (.int .i64 x3) := (blk_cell HR8.out 1).trans rfl
    exact bodyPost_ret (v := .tuple #[.agg #[.string x1, .int .i64 x3], .int .i64 0, .int .i64 0]) (by simp [results, Try.results20, go_sem, c0_, c1_]) rfl ⟨rfl, HB8.out⟩
  · have he' : (ee != 0) = true := bne_iff_ne.mpr he
    dsimp only
    go_wp2_with fail
    have HR8 := Aside0.mk (blk_put (blk_put HR7.out 0 (.string ⟨#[]⟩) rfl) 1 (.int .i64 0) rfl)
    have HB8 := Aside0.mk (Below.setCell (Below.setCell HB7.out (p := ⟨w.heap.size, 0, none⟩) (Nat.le_refl _) (.string ⟨#[]⟩)) (p := ⟨w.heap.size, 1, none⟩) (Nat.le_refl _) (.int .i64 0))
    clear c0 c1 r0 r1 g0 g1
    generalize ((w7.setCell ⟨w.heap.size, 0, none⟩ (.string ⟨#[]⟩)).setCell ⟨w.heap.size, 1, none⟩ (.int .i64 0)) = w8 at *
    have c0_ : w8.cell? ⟨w.heap.size, 0, none⟩ = some (.string ⟨#[]⟩) := (blk_cell HR8.out 0).trans rfl
    have c1_ : w8.cell? ⟨w.heap.size, 1, none⟩ = some (.int .i64 0) := (blk_cell HR8.out 1).trans rfl
    exact bodyPost_ret (v := .tuple #[.agg #[.string ⟨#[]⟩, .int .i64 0], .int .i64 ea, .int .i64 ee]) (by simp [results, Try.results20, go_sem, c0_, c1_]) rfl ⟨rfl, HB8.out⟩
end Go.Proofs.Ytmemkmnnededgaa.H

