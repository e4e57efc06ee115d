/- Contracts of the program's package num: Take, TakeText. -/
import Derived.Test.YtmemkmnnededgaaH0
import Derived.Test.YtmemkmnnededgaaHP
namespace Go.Proofs.Ytmemkmnnededgaa.H
open Go.RowKit Go.Proofs.YtmemkmnnededgaaW.PrintWords Go.Proofs.YtmemkmnnededgaaW.PrintLast Go.Proofs.YtmemkmnnededgaaW.PrintMore
attribute [local go_sem] max2_int min2_int max_two min_two max_three min_three max_four min_four
set_option linter.unusedVariables false
set_option linter.unusedSimpArgs false

theorem wraps_u64 (n : Int) (h₀ : 0 ≤ n) (h₁ : n < 2 ^ 64) : IntKind.u64.wrap n = n := by
  simp [IntKind.wrap, IntKind.bits, IntKind.signed]; omega
theorem acc_eq (a i : Nat) (x : Int) (hx0 : 0 ≤ x) (hx1 : x ≤ 255) (ha : a < 128 ^ i) (hi : i < 10) (h9 : ¬ (i = 9 ∧ 1 < x)) :
    bits .or .u64 (a : Int) (IntKind.u64.wrap (IntKind.u64.wrap (bits .and .u8 x 127) * 2 ^ (7 * i))) = ((a + 128 ^ i * (x.toNat % 128) : Nat) : Int) ∧ a + 128 ^ i * (x.toNat % 128) < 128 ^ (i + 1) := by
  obtain ⟨m, rfl⟩ := Int.eq_ofNat_of_zero_le hx0
  have hp : (2 : Nat) ^ (7 * i) = 128 ^ i := by rw [Nat.pow_mul]
  have h1 : bits .and .u8 (m : Int) 127 = ((m % 128 : Nat) : Int) := by
    have := bits_mask .u8 8 (by decide) wraps_u8 7 (by decide) (m : Int) (by omega) (by omega)
    rw [show ((2 : Int) ^ 7 - 1) = 127 from rfl] at this
    rw [this]; omega
  have hlt : 128 ^ i * (m % 128) < 2 ^ 64 := by
    by_cases h : i = 9
    · subst h
      have : m ≤ 1 := by omega
      have : m % 128 ≤ 1 := by omega
      omega
    · have h2 : 128 ^ i * (m % 128) ≤ 128 ^ i * 127 := Nat.mul_le_mul_left _ (by omega)
      have h3 : 128 ^ i ≤ 128 ^ 8 := Nat.pow_le_pow_right (by omega) (by omega)
      omega
  have h2 : (((m % 128 : Nat) : Int) * 2 ^ (7 * i)) = ((128 ^ i * (m % 128) : Nat) : Int) := by
    have e : (((m % 128 : Nat) : Int) * 2 ^ (7 * i)) = (((m % 128) * 2 ^ (7 * i) : Nat) : Int) := by simp
    rw [e, hp, Nat.mul_comm]
  have ha64 : a < 2 ^ 64 := by
    have h3 : 128 ^ i ≤ 128 ^ 9 := Nat.pow_le_pow_right (by omega) (by omega)
    omega
  rw [h1, wraps_u64 ((m % 128 : Nat) : Int) (by omega) (by omega), h2, wraps_u64 _ (by omega) (by exact_mod_cast hlt)]
  rw [(bits_nat .u64 64 (by decide) wraps_u64 a _ ha64 hlt).2, Nat.or_comm]
  rw [← hp] at ha ⊢
  rw [← Nat.two_pow_add_eq_or_of_lt ha]
  simp only [Int.toNat_natCast]
  refine ⟨by rw [Nat.add_comm], ?_⟩
  rw [Nat.pow_succ, ← hp]
  have h2 : 2 ^ (7 * i) * (m % 128) ≤ 2 ^ (7 * i) * 127 := Nat.mul_le_mul_left _ (by omega)
  omega

abbrev Bytes (b : List Int) : Prop := ∀ x ∈ b, 0 ≤ x ∧ x ≤ 255

def takeV (r : Int × Int × Bool) : Value := .tuple #[.int .u64 r.1, .int .i64 r.2.1, .bool r.2.2]

theorem add_add (ad : Addr) (i j : Nat) : (ad.add i).add j = ad.add (i + j) := by
  unfold Addr.add
  split <;> split <;> simp_all [Nat.add_assoc]
theorem at_int' {w : World} {A : Option Addr} {b : List Int} {n : Nat} (h : U8.C w A n b) (j : Nat) (hj : j < b.length) : ∃ ad, A = some ad ∧ w.cell? (ad.add j) = some (.int .u8 (b.getD j 0)) := by
  have := Kd.at_int h (j : Int) (by omega) (by have := h.1; omega)
  simpa [rd] using this
theorem at8 {w : World} {ad : Addr} {b : List Int} {n : Nat} (h : U8.C w (some ad) n b) : ∀ j, j < b.length → w.cell? (ad.add j) = some (.int .u8 (b.getD j 0)) := by
  intro j hj
  obtain ⟨ad', e, hc⟩ := at_int' h j hj
  cases e
  exact hc

theorem ret_take {n n' p p' : Int} (h1 : n = n') (h2 : p = p') : Ending.returned (.tuple #[.int .u64 n, .int .i64 p, .bool true]) = .returned (takeV (n', p', true)) := by
  subst h1 h2; rfl

set_option maxHeartbeats 800000 in
set_option maxRecDepth 100000 in
theorem take_any (A : Option Addr) (c : Nat) (b : List Int) (p : Int) (w : World) (hr : U8.C w A b.length b) (hc : b.length ≤ c) (hl : b.length < 140737488355328) (hb : Bytes b) :
    Calls Try.prog 78 #[.slice A b.length c, .int .i64 p] w fun e w' => e = .returned (takeV (takeR b p)) ∧ w' = w := by
  have HR := Aside0.mk hr
  have HBy := Aside0.mk hb
  clear hr hb
  by_cases h0 : p < 0
  · rw [takeR_out b p (by omega)]
    go_enter Try.func78, Try.ntmps78
    go_wp2_with fail
    go_ret3
    exact ⟨rfl, rfl⟩
  · by_cases h1 : (b.length : Int) ≤ p
    · rw [takeR_out b p (by omega)]
      go_enter Try.func78, Try.ntmps78
      go_wp2_with fail
      go_ret3
      exact ⟨rfl, rfl⟩
    · obtain ⟨q, rfl⟩ := Int.eq_ofNat_of_zero_le (show 0 ≤ p by omega)
      rw [takeR_in b q (by omega)]
      obtain ⟨ad, rfl, _⟩ := HR.out.2.2 (by omega)
      have hA := at8 HR.out
      have HA := Aside0.mk hA
      clear hA
      go_enter Try.func78, Try.ntmps78
      go_wp2_with fail
      all_goals
        go_loop [7, 27] (fun v7 v27 => ∃ i a : Nat, i ≤ 10 ∧ q + i ≤ b.length ∧ v27 = .int .i64 i ∧ v7 = .int .u64 a ∧ a < 128 ^ i ∧ Aside0 (takeFrom b q 0 0 = takeFrom b q i a)) (fun _ v27 => 10 - (intOf v27).toNat)
        case atStart => exact ⟨0, 0, by omega, by omega, rfl, rfl, by simp, ⟨rfl⟩⟩
        case round =>
          obtain ⟨i, a, hi, hqi, rfl, rfl, ha, HE⟩ := hrel
          by_cases hlt : i < 10 ∧ q + i < b.length
          · obtain ⟨hi10, hqb⟩ := hlt
            obtain ⟨x, hx⟩ : ∃ x, x = b.getD (q + i) 0 := ⟨_, rfl⟩
            have hcell : w.cell? ((ad.add q).add i) = some (.int .u8 x) := by rw [add_add, hx]; exact HA.out (q + i) (by omega)
            have hxr : 0 ≤ x ∧ x ≤ 255 := by
              rw [hx, List.getD_eq_getElem?_getD, List.getElem?_eq_getElem hqb]
              exact HBy.out _ (List.getElem_mem hqb)
            obtain ⟨hx0, hx1⟩ := hxr
            have HX := Aside0.mk hx
            clear hx
            by_cases h9 : i = 9 ∧ 1 < x
            · have t1 : ((i : Int) == 9) = true := by rw [h9.1]; rfl
              have t2 : (1 : Int) < x := h9.2
              have T9 := Aside0.mk h9
              clear h9
              go_wp2_with fail
              go_ret3
              exact ⟨by obtain ⟨e9, hx9⟩ := T9.out; subst e9; rw [HE.out, takeFrom_nine b q a hqb (by rw [← HX.out]; exact hx9)]; rfl, rfl⟩
            · have T9 := Aside0.mk h9
              clear h9
              have HA2 := Aside0.mk (acc_eq a i x hx0 hx1 ha hi10 T9.out)
              by_cases t3 : (128 : Int) ≤ x
              · by_cases t4 : i = 9
                · exact absurd ⟨t4, by omega⟩ T9.out
                · have t1 : ((i : Int) == 9) = false := by simp; omega
                  go_wp2_with fail
                  refine ⟨⟨i + 1, _, by omega, by omega, by go_num, by rw [HA2.out.1], HA2.out.2, ⟨?_⟩⟩, by simp [intOf]; omega⟩
                  rw [HE.out, takeFrom_more b q i a hqb hi10 (by rw [← HX.out]; exact T9.out) (by rw [← HX.out]; exact t3), HX.out]
              · by_cases t5 : 0 < i ∧ x = 0
                · obtain ⟨t6, t7⟩ := t5
                  subst t7
                  have t8 : (0 : Int) < (i : Int) := by omega
                  by_cases t4 : i = 9
                  · have t1 : ((i : Int) == 9) = true := by rw [t4]; rfl
                    have T4 := Aside0.mk t4
                    clear t4
                    go_wp2_with fail
                    go_ret3
                    exact ⟨by rw [HE.out, takeFrom_zero b q i a hqb t6 HX.out.symm]; rfl, rfl⟩
                  · have t1 : ((i : Int) == 9) = false := by simp; omega
                    go_wp2_with fail
                    go_ret3
                    exact ⟨by rw [HE.out, takeFrom_zero b q i a hqb t6 HX.out.symm]; rfl, rfl⟩
                · have T5 := Aside0.mk t5
                  clear t5
                  have HF := Aside0.mk (show takeFrom b q 0 0 = (((a + 128 ^ i * x.toNat : Nat) : Int), ((q + i + 1 : Nat) : Int), true) by
                    rw [HE.out, takeFrom_last b q i a hqb hi10 (by rw [← HX.out]; exact T9.out) (by rw [← HX.out]; exact t3) (by rw [← HX.out]; exact T5.out), HX.out])
                  by_cases t8 : 0 < i
                  · have t6 : (0 : Int) < (i : Int) := by omega
                    have t7 : (x == 0) = false := by have := T5.out; simp; omega
                    by_cases t4 : i = 9
                    · have t1 : ((i : Int) == 9) = true := by rw [t4]; rfl
                      have t9 : ¬ (1 : Int) < x := fun h => T9.out ⟨t4, h⟩
                      have T4 := Aside0.mk t4
                      clear t4
                      go_wp2_with fail
                      go_ret3
                      exact ⟨by rw [HF.out, HA2.out.1]; exact ret_take (by rw [Nat.mod_eq_of_lt (show x.toNat < 128 by omega)]) (by omega), rfl⟩
                    · have t1 : ((i : Int) == 9) = false := by simp; omega
                      go_wp2_with fail
                      go_ret3
                      exact ⟨by rw [HF.out, HA2.out.1]; exact ret_take (by rw [Nat.mod_eq_of_lt (show x.toNat < 128 by omega)]) (by omega), rfl⟩
                  · have t6 : ¬ (0 : Int) < (i : Int) := by omega
                    have t1 : ((i : Int) == 9) = false := by simp; omega
                    go_wp2_with fail
                    go_ret3
                    exact ⟨by rw [HF.out, HA2.out.1]; exact ret_take (by rw [Nat.mod_eq_of_lt (show x.toNat < 128 by omega)]) (by omega), rfl⟩
          · have hno : 10 ≤ i ∨ b.length ≤ q + i := by omega
            go_wp2_with fail
            go_ret3
            exact ⟨by rw [HE.out, takeFrom_end b q i a (by omega)]; rfl, rfl⟩
def takeTextR (b : List Int) (p most : Int) : ByteArray × Int × Bool :=
  if (takeR b p).2.2 = true ∧ 0 ≤ most ∧ (takeR b p).1 ≤ most ∧ (takeR b p).1 ≤ b.length - (takeR b p).2.1 then
    (strOfNums ((b.drop (takeR b p).2.1.toNat).take (takeR b p).1.toNat), (takeR b p).2.1 + (takeR b p).1, true)
  else (⟨#[]⟩, 0, false)
def takeTextV (r : ByteArray × Int × Bool) : Value := .tuple #[.string r.1, .int .i64 r.2.1, .bool r.2.2]

set_option maxHeartbeats 800000 in
set_option maxRecDepth 100000 in
theorem takeText_any (A : Option Addr) (c : Nat) (b : List Int) (p most : Int) (w : World) (hr : U8.C w A b.length b) (hc : b.length ≤ c) (hl : b.length < 140737488355328) (hb : Bytes b) (hm : most < 9223372036854775808) :
    Calls Try.prog 74 #[.slice A b.length c, .int .i64 p, .int .i64 most] w fun e w' => e = .returned (takeTextV (takeTextR b p most)) ∧ w' = w := by
  have HR := Aside0.mk hr
  have HBy := Aside0.mk hb
  clear hr hb
  have hT := take_any A c b p w HR.out hc hl HBy.out
  unfold takeTextR
  have hbd := takeR_bounds b p
  have hno := takeR_no b p
  generalize takeR b p = r at *
  obtain ⟨n, nx, ok⟩ := r
  simp only [takeV] at hT
  have HT := Aside0.mk hT
  clear hT
  cases ok with
  | false =>
    have hno' := hno rfl
    injection hno' with e1 e2
    injection e2 with e2 e3
    subst e1 e2
    clear hno hbd
    rw [if_neg (by simp)]
    go_enter Try.func74, Try.ntmps74
    go_wp2_with fail
    refine HT.out.mono ?_
    rintro e w1 ⟨rfl, rfl⟩
    go_wp2_with fail
    go_ret3
    exact ⟨rfl, rfl⟩
  | true =>
    obtain ⟨n0, n1, p0, p1, n2⟩ := hbd rfl
    clear hno hbd
    simp only at n0 n1 p1 n2 ⊢
    by_cases m0 : most < 0
    · rw [if_neg (by omega)]
      go_enter Try.func74, Try.ntmps74
      go_wp2_with fail
      refine HT.out.mono ?_
      rintro e w1 ⟨rfl, rfl⟩
      go_wp2_with fail
      go_ret3
      exact ⟨rfl, rfl⟩
    · by_cases m1 : most < n
      · rw [if_neg (by omega)]
        go_enter Try.func74, Try.ntmps74
        go_wp2_with fail
        refine HT.out.mono ?_
        rintro e w1 ⟨rfl, rfl⟩
        go_wp2_with fail
        go_ret3
        exact ⟨rfl, rfl⟩
      · by_cases m2 : (b.length : Int) - nx < n
        · rw [if_neg (by omega)]
          go_enter Try.func74, Try.ntmps74
          go_wp2_with fail
          refine HT.out.mono ?_
          rintro e w1 ⟨rfl, rfl⟩
          go_wp2_with fail
          go_ret3
          exact ⟨rfl, rfl⟩
        · rw [if_pos ⟨trivial, by omega, by omega, by omega⟩]
          obtain ⟨i0, hi0, _, hsz, _⟩ := info_parts info5
          obtain ⟨A1, hcut, hA1, hC1⟩ := print_mid_of (P := Try.prog) (Value.int .u8) 0 28 5 .i64 .i64 Try.underlying28 hi0 hsz A c b nx (nx + n) (by omega) (by omega) (by omega) hc
          have hcv := Kd.C_string (P := Try.prog) (A := A1) (c := c - nx.toNat) Try.underlying28 Try.underlying5 Try.underlying9 (Kd.C_of_reads (h1 := fun _ => rfl) (hA1 _ (Kd.reads_of_C HR.out)))
          have hE : (b.take (nx + n).toNat).drop nx.toNat = (b.drop nx.toNat).take n.toNat := by
            rw [List.drop_take, show (nx + n).toNat - nx.toNat = n.toNat by omega]
          rw [← hE]
          generalize (b.take (nx + n).toNat).drop nx.toNat = t at *
          clear hE hA1 hC1 hi0 hsz
          go_enter Try.func74, Try.ntmps74
          go_wp2_with fail
          refine HT.out.mono ?_
          rintro e w1 ⟨rfl, rfl⟩
          go_wp2_with fail
          go_ret3
          exact ⟨rfl, rfl⟩

end Go.Proofs.Ytmemkmnnededgaa.H
