/- The arena: contracts of Alloc and Free. -/
import Derived.Test.YtmemkmnnededgaaDoorAA
import Derived.StillTailTactics
import Derived.Laws.BitsAllLaws
namespace Go.Proofs.YtmemkmnnededgaaDoor.H
open Go.RowKit Go.Proofs.YtmemkmnnededgaaDoorW.PrintWords Go.Proofs.YtmemkmnnededgaaDoorW.PrintLast Go.Proofs.YtmemkmnnededgaaDoorW.PrintMore
attribute [local go_sem] max2_int min2_int max_two min_two max_three min_three max_four min_four
set_option linter.unusedVariables false
set_option linter.unusedSimpArgs false

def upN {α : Type} (f : Nat → α) (i : Nat) (x : α) : Nat → α := fun j => if j = i then x else f j
theorem ArAt.setLow {B g : Nat} {a : Ar} {w : World} (h : ArAt B w g a) (l : Nat) : ArAt B (w.setCell ⟨g, 1026, none⟩ (.int .i64 l)) g { a with low := l } := by
  obtain ⟨hge, hv, st, hC, hR⟩ := h
  refine ⟨hge, hv, st, hC.set 1026 _ (fun j hj => ?_), hC.R_set hR (by simp [Kd.int, Kd.scalar]) 1026 _⟩
  unfold arCell
  (repeat' split) <;> first | rfl | omega
theorem ArAt.setUsed {B g : Nat} {a : Ar} {w : World} (h : ArAt B w g a) (u : Int) : ArAt B (w.setCell ⟨g, 1027, none⟩ (.int .i64 u)) g { a with used := u } := by
  obtain ⟨hge, hv, st, hC, hR⟩ := h
  refine ⟨hge, hv, st, hC.set 1027 _ (fun j hj => ?_), hC.R_set hR (by simp [Kd.int, Kd.scalar]) 1027 _⟩
  unfold arCell
  (repeat' split) <;> first | rfl | omega
theorem ArAt.setWord {B g : Nat} {a : Ar} {w : World} (h : ArAt B w g a) (i : Nat) (hi : i < 1024) (x : Nat) : ArAt B (w.setCell ⟨g, 2 + i, none⟩ (.int .u64 x)) g { a with wd := upN a.wd i x } := by
  obtain ⟨hge, hv, st, hC, hR⟩ := h
  refine ⟨hge, hv, st, hC.set (2 + i) _ (fun j hj => ?_), hC.R_set hR (by simp [Kd.int, Kd.scalar]) (2 + i) _⟩
  by_cases e : j = 2 + i
  · subst e
    rw [if_pos rfl]
    unfold arCell
    rw [if_neg (by omega), if_neg (by omega), if_pos (by omega)]
    have : 2 + i - 2 = i := by omega
    simp [upN, this]
  · rw [if_neg e]
    have hw : 2 ≤ j → upN a.wd i x (j - 2) = a.wd (j - 2) := fun h2 => by
      unfold upN
      rw [if_neg (by omega)]
    unfold arCell
    (repeat' split) <;> first | rfl | omega | (simp only; rw [hw (by omega)])
theorem ArAt.word {B g : Nat} {a : Ar} {w : World} (h : ArAt B w g a) (i : Nat) (hi : i < 1024) : w.cell? ⟨g, 2 + i, none⟩ = some (.int .u64 (a.wd i)) ∧ w.frozen? ⟨g, 2 + i, none⟩ = false := by
  obtain ⟨hge, hv, st, hC, hR⟩ := h
  refine ⟨(hC.cell (2 + i) (by omega)).trans ?_, hC.frozen _⟩
  unfold arCell
  rw [if_neg (by omega), if_neg (by omega), if_pos (by omega), show 2 + i - 2 = i by omega]
theorem ArAt.lowc {B g : Nat} {a : Ar} {w : World} (h : ArAt B w g a) : w.cell? ⟨g, 1026, none⟩ = some (.int .i64 a.low) ∧ w.frozen? ⟨g, 1026, none⟩ = false := by
  obtain ⟨hge, hv, st, hC, hR⟩ := h
  exact ⟨(hC.cell 1026 (by decide)).trans rfl, hC.frozen _⟩
theorem ArAt.usedc {B g : Nat} {a : Ar} {w : World} (h : ArAt B w g a) : w.cell? ⟨g, 1027, none⟩ = some (.int .i64 a.used) ∧ w.frozen? ⟨g, 1027, none⟩ = false := by
  obtain ⟨hge, hv, st, hC, hR⟩ := h
  exact ⟨(hC.cell 1027 (by decide)).trans rfl, hC.frozen _⟩
theorem ArAt.sizec {B g : Nat} {a : Ar} {w : World} (h : ArAt B w g a) : w.cell? ⟨g, 0, none⟩ = some (.int .i64 2000) := by
  obtain ⟨hge, hv, st, hC, hR⟩ := h
  exact (hC.cell 0 (by decide)).trans rfl

theorem ArAt.below {B g : Nat} {a : Ar} {w w' : World} (h : ArAt B w g a) (hb : Below w.heap.size w w') : ArAt B w' g a := by
  obtain ⟨hge, hv, st, hC, hR⟩ := h
  exact ⟨hge, hv, st, hC.below hb, Kd.R_below hR hb⟩
theorem ArAt.drewN {B g : Nat} {a : Ar} {w : World} (h : ArAt B w g a) (n : Nat) : ArAt B (w.drewN n) g a := h.below (pw_below_drewN (Below.refl _ _) n)

/-! ### Bits -/
theorem ctz_bits (x : Nat) (h0 : x ≠ 0) (h : x < 18446744073709551616) : Lib.ctz 64 x < 64 ∧ x.testBit (Lib.ctz 64 x) = true ∧ ∀ j, j < Lib.ctz 64 x → x.testBit j = false := by
  unfold Lib.ctz
  rw [if_neg h0]
  obtain ⟨m, hm, hk⟩ := Lib.ctzFrom_spec 64 x (by omega) h
  generalize Lib.ctzFrom 64 x = k at *
  refine ⟨hk, ?_, fun j hj => ?_⟩
  · rw [hm, Nat.mul_comm, Nat.testBit_mul_two_pow]
    simp
  · rw [hm, Nat.mul_comm, Nat.testBit_mul_two_pow]
    simp
    omega
theorem not_bits (x j : Nat) (h : x < 18446744073709551616) (hj : j < 64) : (18446744073709551615 - x).testBit j = !x.testBit j := by
  have := Nat.testBit_two_pow_sub_succ (n := 64) (show x < 2 ^ 64 from h) j
  rw [show 18446744073709551615 - x = 2 ^ 64 - (x + 1) by omega, this]
  simp [hj]

theorem xor_full (x : Nat) (h : x < 18446744073709551616) : bits BinOp.xor IntKind.u64 (if IntKind.u64.signed = true then -1 else IntKind.u64.max) (x : Int) = ((18446744073709551615 - x : Nat) : Int) := by
  have e1 : (if IntKind.u64.signed = true then -1 else IntKind.u64.max) = ((18446744073709551615 : Nat) : Int) := by decide
  have h1 : (BitVec.ofInt 64 ((18446744073709551615 : Nat) : Int)).toNat = 18446744073709551615 := by decide
  have h2 : (BitVec.ofInt 64 (x : Int)).toNat = x := by
    rw [BitVec.ofInt_natCast, BitVec.toNat_ofNat]; exact Nat.mod_eq_of_lt (by omega)
  rw [e1]
  show IntKind.u64.wrap ((BitVec.ofInt 64 ((18446744073709551615 : Nat) : Int) ^^^ BitVec.ofInt 64 (x : Int)).toNat : Int) = _
  rw [BitVec.toNat_xor, h1, h2]
  have hh : 18446744073709551615 ^^^ x = 18446744073709551615 - x := ?_
  · rw [hh, IntKind.wrap_u64]
    omega
  apply Nat.eq_of_testBit_eq
  intro i
  rw [Nat.testBit_xor]
  by_cases hi : i < 64
  · rw [not_bits x i h hi, show (18446744073709551615 : Nat) = 2 ^ 64 - 1 by decide, Nat.testBit_two_pow_sub_one]
    simp [hi]
  · have e2 : x.testBit i = false := Nat.testBit_lt_two_pow (Nat.lt_of_lt_of_le h (Nat.pow_le_pow_right (n := 2) (by decide) (by omega : 64 ≤ i)))
    have e3 : (18446744073709551615 - x).testBit i = false := Nat.testBit_lt_two_pow (Nat.lt_of_lt_of_le (by omega : 18446744073709551615 - x < 2 ^ 64) (Nat.pow_le_pow_right (n := 2) (by decide) (by omega : 64 ≤ i)))
    rw [e2, e3, show (18446744073709551615 : Nat) = 2 ^ 64 - 1 by decide, Nat.testBit_two_pow_sub_one]
    simp [hi]
theorem or_bit (x z : Nat) (h : x < 18446744073709551616) (hz : z < 64) : bits BinOp.or IntKind.u64 (x : Int) (IntKind.u64.wrap (2 ^ z)) = ((x ||| 2 ^ z : Nat) : Int) := by
  have h2 : 2 ^ z < 18446744073709551616 := Nat.pow_lt_pow_right (a := 2) (by decide) hz
  have e : IntKind.u64.wrap (2 ^ z) = ((2 ^ z : Nat) : Int) := by
    rw [IntKind.wrap_u64, show ((2 : Int) ^ z) = ((2 ^ z : Nat) : Int) by push_cast; rfl]
    generalize 2 ^ z = y at *
    omega
  rw [e, bits_or_u64_nat _ _ h h2]
theorem tz_any (x : Nat) (hx : x < 18446744073709551616) (w : World) (hT : TabAt 0 Lib.deBruijn64tab w) : Calls Tryd.prog 22 #[.int .u64 x] w fun e w' => e = .returned (.int .i64 (Lib.ctz 64 x)) ∧ w' = w :=
  Any7.bits_TrailingZeros64 Tryd.lays29 x hx w (fun _ => hT)

theorem or_test (x z j : Nat) : (x ||| 2 ^ z).testBit j = (j == z || x.testBit j) := by
  rw [Nat.testBit_or, Nat.testBit_two_pow]
  by_cases h : j = z
  · subst h; simp
  · have h2 : ¬ z = j := fun e => h e.symm
    simp [h, h2]
/-- What Alloc comes to. -/
theorem alloc_wf {a : Ar} {l z c k : Nat} (hW : ({ a with low := l } : Ar).Wf k) (hz : z < 64) (hb : (a.wd l).testBit z = false) (hlow : ∀ j, j < z → (a.wd l).testBit j = true) (hc : c = l * 64 + z) :
    a.tk c = false ∧ c ≤ a.has.length ∧ ∀ xs : List Int, c < xs.length → a.has.length ≤ xs.length → xs.length ≤ a.has.length + 1 →
      (⟨xs, upN a.wd l (a.wd l ||| 2 ^ z), l, a.used + 1⟩ : Ar).Wf (k + 1) ∧ ∀ d, (⟨xs, upN a.wd l (a.wd l ||| 2 ^ z), l, a.used + 1⟩ : Ar).tk d = (d == c || a.tk d) := by
  have e1 : c / 64 = l := by omega
  have e2 : c % 64 = z := by omega
  have htk : ∀ (xs : List Int) d, (⟨xs, upN a.wd l (a.wd l ||| 2 ^ z), l, a.used + 1⟩ : Ar).tk d = (d == c || a.tk d) := by
    intro xs d
    unfold Ar.tk upN
    simp only
    by_cases h : d / 64 = l
    · rw [if_pos h, or_test, h]
      by_cases h2 : d % 64 = z
      · have e4 : (d == c) = true := beq_iff_eq.mpr (by omega)
        rw [e4, beq_iff_eq.mpr h2]
      · have e4 : (d == c) = false := beq_eq_false_iff_ne.mpr (by omega)
        rw [e4, beq_eq_false_iff_ne.mpr h2]
    · rw [if_neg h]
      have e4 : (d == c) = false := beq_eq_false_iff_ne.mpr (fun e => h (by rw [e]; exact e1))
      rw [e4]
      rfl
  refine ⟨by unfold Ar.tk; rw [e1, e2]; exact hb, ?_, fun xs h1 h2 h3 => ⟨⟨fun i => ?_, fun d hd => ?_, fun i hi => ?_, ?_, ?_, ?_⟩, htk xs⟩⟩
  · by_cases h0 : c = 0
    · omega
    · have ht : a.tk (c - 1) = true := by
        unfold Ar.tk
        by_cases hz0 : z = 0
        · rw [show (c - 1) / 64 = l - 1 by omega, show (c - 1) % 64 = 63 by omega, show a.wd (l - 1) = 18446744073709551615 from hW.low_full (l - 1) (show l - 1 < l by omega)]
          decide
        · rw [show (c - 1) / 64 = l by omega, show (c - 1) % 64 = z - 1 by omega]
          exact hlow _ (by omega)
      have h3 : c - 1 < a.has.length := hW.in_has _ ht
      omega
  · simp only [upN]
    split
    · exact Nat.or_lt_two_pow (n := 64) (hW.wd_lt l) (Nat.pow_lt_pow_right (a := 2) (by decide) hz)
    · exact hW.wd_lt i
  · rw [htk xs d] at hd
    by_cases h : d = c
    · rw [h]; exact h1
    · have : a.tk d = true := by simpa [h] using hd
      have h4 : d < a.has.length := hW.in_has _ this
      show d < xs.length
      omega
  · have hi' : i < l := hi
    simp only [upN]
    rw [if_neg (by omega)]
    exact hW.low_full i hi'
  · have h4 : a.has.length ≤ k := hW.has_len
    show xs.length ≤ k + 1
    omega
  · have h4 : a.used ≤ k := hW.used_le
    show a.used + 1 ≤ ((k + 1 : Nat) : Int)
    omega
  · have h4 : -(k : Int) ≤ a.used := hW.used_ge
    show -((k + 1 : Nat) : Int) ≤ a.used + 1
    omega
theorem info48 : (Tryd.prog.info? 48).map (fun i => (i.zero, i.size, i.bytes)) = some (some (.int .u64 0), 1, 8) := by kernel_rfl
theorem CellsAt.setHas {B g : Nat} {a : Ar} {w : World} {hv : Value} {st : Int} (hC : CellsAt w g 51 1029 (arCell hv a st)) (hge : B ≤ g) (v1 : Value) (xs : List Int) (hR : U64.R 48 w B (fun _ => True) v1 xs) : ArAt B (w.setCell ⟨g, 1, none⟩ v1) g { a with has := xs } := by
  refine ⟨hge, v1, st, hC.set 1 _ (fun j hj => ?_), hC.R_set hR (by simp [Kd.int, Kd.scalar]) 1 _⟩
  unfold arCell
  (repeat' split) <;> first | rfl | omega

theorem R_some {α : Type} {d : Kd α} {e base : Nat} {ok : Nat → Prop} {w : World} {A : Option Addr} {n c : Nat} {xs : List α} (h : d.R e w base ok (.slice A n c) xs) (hn : 0 < xs.length) : ∃ Z, A = some ⟨Z, 0, none⟩ := by
  obtain ⟨inner, ho⟩ := Kd.R_own h
  rcases ho.2 with ⟨h1, h2⟩ | ⟨g, cap, cur, h1, h2⟩
  · omega
  · injection h1 with e1
    exact ⟨g, e1⟩

set_option maxRecDepth 100000 in
set_option maxHeartbeats 1600000 in
theorem alloc_any (B g k : Nat) (a : Ar) (w : World) (h : ArAt B w g a) (hw : a.Wf k) (hk : k < 1990) (hT : TabAt 0 Lib.deBruijn64tab w) (hB : 0 < B) :
    Calls Tryd.prog 13 #[.pointer (some ⟨g, 0, none⟩)] w fun e w' => ∃ (c : Nat) (a' : Ar), e = .returned (.tuple #[.int .i64 c, .int .i64 0]) ∧ ArAt B w' g a' ∧ a'.Wf (k + 1) ∧ a.tk c = false ∧ (∀ d, a'.tk d = (d == c || a.tk d)) ∧ (∀ d, a.tk d = true → a'.val d = a.val d) ∧ a'.val c = 0 ∧ FrT TA B w w' := by
  have H := Aside0.mk h
  have HW := Aside0.mk hw
  have HT := Aside0.mk hT
  have x0 := h.sizec
  have x4 := h.usedc.1
  have hu := hw.used_le
  have hne : (a.used == 2000) = false := by rw [beq_eq_false_iff_ne]; omega
  clear h hw hT
  go_enter Tryd.func13, Tryd.ntmps13
  go_wp2_with fail
  go_quiet (fail)
  go_wp2_with fail
  clear x0 x4 hne
  go_loopw [26] (fun v26 w' => ∃ l : Nat, a.low ≤ l ∧ l ≤ 32 ∧ Aside0 (ArAt B w' g { a with low := l }) ∧ Aside0 (({ a with low := l } : Ar).Wf k) ∧ Aside0 (FrT TA B w w')) (fun v26 w' => 33 - (intOf ((w'.cell? ⟨g, 1026, none⟩).getD undef)).toNat)
  case atStart => exact ⟨a.low, Nat.le_refl _, low_lt HW.out (by omega), ⟨H.out.drewN nq⟩, HW, ⟨(FrT.refl _ _ _).drewN nq⟩⟩
  case round =>
    obtain ⟨l, hl0, hl1, HL, HWL, HF⟩ := hrel
    obtain ⟨x3, f3⟩ := HL.out.lowc
    obtain ⟨xw, fw⟩ := HL.out.word l (by omega)
    dsimp only at x3 xw
    by_cases hfull : a.wd l = 18446744073709551615
    · have hfull' : (((a.wd l : Nat) : Int) == 18446744073709551615) = true := by rw [hfull]; rfl
      have HWn := Aside0.mk (show ({ a with low := l + 1 } : Ar).Wf k from ⟨HWL.out.wd_lt, HWL.out.in_has, fun i hi => (by
        rcases Nat.lt_or_ge i l with h | h
        · exact HWL.out.low_full i h
        · have hi' : i < l + 1 := hi
          have : i = l := by omega
          rw [this]; exact hfull), HWL.out.has_len, HWL.out.used_le, HWL.out.used_ge⟩)
      have hl2 : l + 1 ≤ 32 := low_lt HWn.out (by omega)
      go_wp2_with fail
      go_quiet (fail)
      have HL2 := Aside0.mk ((HL.out.drewN nq).setLow (l + 1))
      have HF2 := Aside0.mk ((HL.out.drewN nq).fr (T := TA) (fun _ h => h) (HF.out.drewN nq) 1026 (.int .i64 ((l + 1 : Nat) : Int)))
      go_wp2_with fail
      refine ⟨⟨l + 1, by omega, hl2, HL2, HWn, HF2⟩, ?_⟩
      have y3 := HL2.out.lowc.1
      have y3' : ((wr.drewN nq).setCell ⟨g, 1026, none⟩ (.int .i64 ((l : Int) + 1))).cell? ⟨g, 1026, none⟩ = some (.int .i64 ((l + 1 : Nat) : Int)) := y3
      rw [y3', x3]
      simp [intOf]
      omega
    · have hfull' : (((a.wd l : Nat) : Int) == 18446744073709551615) = false := by rw [beq_eq_false_iff_ne]; omega
      go_wp2_with fail
      go_quiet (fail)
      have HL5 := Aside0.mk (HL.out.drewN nq)
      have HF5 := Aside0.mk (HF.out.drewN nq)
      clear x3 f3 xw fw HL HF
      go_wp2_with fail
      generalize wr.drewN nq = w5 at *
      obtain ⟨x3, f3⟩ := HL5.out.lowc
      obtain ⟨xw, fw⟩ := HL5.out.word l (by omega)
      dsimp only at x3 xw
      have HX := Aside0.mk (xor_full (a.wd l) (HW.out.wd_lt l))
      have HTQ := Aside0.mk (fun n => tz_any (18446744073709551615 - a.wd l) (by omega) (w5.drewN n) (fun j hj => (HF5.out.cell (p := ⟨0, j, none⟩) hB).trans (HT.out j hj)))
      obtain ⟨t1, t2, t3⟩ := ctz_bits (18446744073709551615 - a.wd l) (by have := HW.out.wd_lt l; omega) (by omega)
      generalize Lib.ctz 64 (18446744073709551615 - a.wd l) = z at *
      have HB2 := Aside0.mk t2
      have HB3 := Aside0.mk t3
      clear t2 t3
      obtain ⟨c, hc⟩ : ∃ c, c = l * 64 + z := ⟨_, rfl⟩
      have HCE := Aside0.mk hc
      clear hc
      go_quiet ((go_at_call 22; rw [HX.out]; exact Calls.quiet_of_same (HTQ.out _)))
      have HL6 := Aside0.mk (HL5.out.drewN nq)
      have HF6 := Aside0.mk (HF5.out.drewN nq)
      clear x3 f3 xw fw HL5 HF5 HTQ HX
      go_wp2_with fail
      generalize w5.drewN nq = w6 at *
      obtain ⟨x3, f3⟩ := HL6.out.lowc
      obtain ⟨xw, fw⟩ := HL6.out.word l (by omega)
      dsimp only at x3 xw
      have i0 : (0 : Int) ≤ (l : Int) := by omega
      have i1 : (l : Int) < 1024 := by omega
      have hm : (c : Int).tmod 64 = (z : Int) := by have := HCE.out; rw [Int.tmod_eq_emod_of_nonneg (by omega)]; omega
      have z0 : (0 : Int) ≤ (z : Int) := by omega
      have z1 : (z : Int) ≤ 64 := by omega
      have hw : (l : Int) * 64 + (z : Int) = (c : Int) := by have := HCE.out; omega
      have hcr : c < 4096 := by have := HCE.out; omega
      rw [hw]
      clear hw
      refine wp_region_still_tail 16 (by kernel_rfl) (by kernel_rfl) ?_
      simp only [List.take_succ_cons, List.take_zero, List.drop_succ_cons, List.drop_zero]
      repeat still_step
      refine wpStill_nil ?_
      change wpList _ _ _ _ _ w6.drew
      have HL7 := Aside0.mk (HL6.out.drewN 1)
      have HF7 := Aside0.mk (HF6.out.drewN 1)
      clear x3 f3 xw fw HL6 HF6
      change Aside0 (ArAt B w6.drew g _) at HL7
      change Aside0 (FrT TA B w w6.drew) at HF7
      generalize w6.drew = w7 at *
      obtain ⟨x3, f3⟩ := HL7.out.lowc
      obtain ⟨xw, fw⟩ := HL7.out.word l (by omega)
      dsimp only at x3 xw
      obtain ⟨x4, f4⟩ := HL7.out.usedc
      dsimp only at x4
      have hu1 := HW.out.used_ge
      go_upto_region 10 with fail
      have HO := Aside0.mk (or_bit (a.wd l) z (HW.out.wd_lt l) t1)
      rw [HO.out]
      have HL8 := Aside0.mk ((HL7.out.setWord l (by omega) (a.wd l ||| 2 ^ z)).setUsed (a.used + 1))
      have HF8 := Aside0.mk ((HL7.out.setWord l (by omega) (a.wd l ||| 2 ^ z)).fr (T := TA) (fun _ h => h) (HL7.out.fr (T := TA) (fun _ h => h) HF7.out (2 + l) (.int .u64 ((a.wd l ||| 2 ^ z : Nat) : Int))) 1027 (.int .i64 (a.used + 1)))
      clear x3 f3 xw fw x4 f4
      generalize ((w7.setCell ⟨g, 2 + l, none⟩ (.int .u64 ((a.wd l ||| 2 ^ z : Nat) : Int))).setCell ⟨g, 1027, none⟩ (.int .i64 (a.used + 1))) = w8 at *
      replace HL8 : Aside0 (ArAt B w8 g ⟨a.has, upN a.wd l (a.wd l ||| 2 ^ z), l, a.used + 1⟩) := HL8
      obtain ⟨q1, q2, q3⟩ := alloc_wf HWL.out t1 (by have := HB2.out; rw [not_bits _ _ (HW.out.wd_lt l) t1] at this; simpa using this) (fun j hj => by have := HB3.out j hj; rw [not_bits _ _ (HW.out.wd_lt l) (by omega)] at this; simpa using this) HCE.out
      have HQ1 := Aside0.mk q1
      have HQ3 := Aside0.mk q3
      have hhl := HW.out.has_len
      clear q1 q3
      by_cases hce : c = a.has.length
      · have hce' : ((c : Int) == (a.has.length : Int)) = true := by rw [beq_iff_eq]; omega
        obtain ⟨hge, hv, st, hC, hR⟩ := HL8.out
        have HC8 := Aside0.mk hC
        have HR8 := Aside0.mk hR
        obtain ⟨A, cap, rfl, hcap, _⟩ := Kd.R_reads hR
        have y1 : w8.cell? ⟨g, 1, none⟩ = some (.slice A a.has.length cap) := (hC.cell 1 (by decide)).trans rfl
        have HZ := Aside0.mk hC.lt
        have NG := Aside0.mk (show some g ≠ (Value.slice A a.has.length cap).ownBlock by obtain ⟨cs, hb, _⟩ := hC; exact Kd.R_ne hR hb (by decide))
        have HGE := Aside0.mk hge
        have HCEE := Aside0.mk hce
        clear hC hR hce hge
        go_wp2_with (at_builtin; go_must (refine Kd.R_append U64 (w0 := w8) B rfl (.tmp 84) (.tmp 85) 47 48 (.int .u64 0) 8 rfl Tryd.underlying47 info48 rfl (by decide) (by decide) _ a.has 0 [.int .u64 0] (fun _ => True) (fun _ => False) rfl rfl rfl (fun _ hk => hk.elim) (fun _ _ => trivial) HR8.out (Below.refl _ _) (Nat.le_trans HGE.out (Nat.le_of_lt HZ.out)) (by omega) ?_; intro v1 w9 ho hb hg hat; obtain ⟨A9, c9, rfl⟩ := Kd.R_slice ho; obtain ⟨Z9, rfl⟩ := R_some ho (by simp); generalize hL9 : (a.has ++ [(0 : Int)]).length = L9 at *; have HL9 := Aside0.mk hL9; have HO9 := Aside0.mk ho; have HC9 := Aside0.mk (HC8.out.grown hg NG.out); have HF9 := Aside0.mk (HF8.out.grown HR8.out (by simp [TA]) (Nat.le_refl _) (Nat.le_trans HGE.out (Nat.le_of_lt HZ.out)) hg); have f9 := HC9.out.frozen 1; have y9 := (HC9.out.cell 1 (by decide)).trans rfl; have HA9 := Aside0.mk (HC9.out.setHas HGE.out _ _ HO9.out); have hl9 : (c : Int) < (L9 : Int) := (by have h1 := HL9.out; have h2 := HCEE.out; simp at h1; omega); have hl0 : (0 : Int) ≤ (c : Int) := Int.natCast_nonneg c; have HF10 := Aside0.mk (HC9.out.setFr HF9.out (by simp [TA]) HGE.out 1 (.slice (some ⟨Z9, 0, none⟩) L9 c9)); obtain ⟨Z, cap2, z1, _, z3, z4, z5, z6⟩ := HA9.out.at_ (c := c) (by have h2 := HCEE.out; simp; omega); obtain rfl : Z = Z9 := (by have e2 := (HC9.out.set (f' := fun j => if j = 1 then .slice (some ⟨Z9, 0, none⟩) L9 c9 else arCell _ _ _ j) 1 (.slice (some ⟨Z9, 0, none⟩) L9 c9) (fun _ _ => rfl)).cell 1 (by decide); have e3 := z1.symm.trans e2; simp at e3; exact e3.1); have Z5 := Aside0.mk (z5 0); have Z6 := Aside0.mk (z6 TA w 0 (fun _ h => h) HF10.out); dsimp only at z3; clear z1 z5 z6 ho hb hg hat hL9 y1))
        go_ret2
        obtain ⟨r1, r2⟩ := HQ3.out ((a.has ++ [0]).set c 0) (by have := HCEE.out; simp; omega) (by simp) (by simp)
        refine ⟨c, rfl, _, Z5.out, r1, HQ1.out, r2, fun d hd => ?_, ?_, Z6.out⟩
        · have hne : d ≠ c := fun e => by rw [e, HQ1.out] at hd; cases hd
          have hdl := HW.out.in_has d hd
          simp only [Ar.val, List.getD_eq_getElem?_getD]
          rw [List.getElem?_set_ne hne.symm, List.getElem?_append_left hdl]
        · have h2 := HCEE.out
          simp [Ar.val, List.getD_eq_getElem?_getD, List.getElem?_set, h2]
      · have hcl : c < a.has.length := by omega
        have hce' : ((c : Int) == (a.has.length : Int)) = false := by rw [beq_eq_false_iff_ne]; omega
        obtain ⟨Z, cap, y1, ycap, yc, yf, yset, yfr⟩ := HL8.out.at_ (c := c) hcl
        have YS := Aside0.mk (yset 0)
        have YF := Aside0.mk (yfr TA w 0 (fun _ h => h) HF8.out)
        dsimp only at y1 ycap yc
        clear yset yfr hce
        go_wp2_with fail
        go_ret2
        obtain ⟨r1, r2⟩ := HQ3.out (a.has.set c 0) (by simpa using hcl) (by simp) (by simp)
        refine ⟨c, rfl, _, YS.out, r1, HQ1.out, r2, fun d hd => ?_, ?_, YF.out⟩
        · have hne : d ≠ c := fun e => by rw [e, HQ1.out] at hd; cases hd
          simp [Ar.val, List.getD_eq_getElem?_getD, List.getElem?_set, hne.symm]
        · simp [Ar.val, List.getD_eq_getElem?_getD, List.getElem?_set, hcl]
theorem andNot_bit (x z : Nat) (h : x < 18446744073709551616) (hz : z < 64) : bits BinOp.andNot IntKind.u64 (x : Int) (IntKind.u64.wrap (2 ^ z)) = ((x &&& (18446744073709551615 - 2 ^ z) : Nat) : Int) := by
  have h2 : 2 ^ z < 18446744073709551616 := Nat.pow_lt_pow_right (a := 2) (by decide) hz
  have e : IntKind.u64.wrap (2 ^ z) = ((2 ^ z : Nat) : Int) := by
    rw [IntKind.wrap_u64, show ((2 : Int) ^ z) = ((2 ^ z : Nat) : Int) by push_cast; rfl]
    generalize 2 ^ z = y at *
    omega
  rw [e, u64_andNot_nat _ _ h h2]
theorem andNot_test (x z j : Nat) (h : x < 18446744073709551616) (hz : z < 64) : (x &&& (18446744073709551615 - 2 ^ z)).testBit j = (j != z && x.testBit j) := by
  have h2 : 2 ^ z < 18446744073709551616 := Nat.pow_lt_pow_right (a := 2) (by decide) hz
  rw [Nat.testBit_and]
  by_cases hj : j < 64
  · rw [not_bits _ j h2 hj, Nat.testBit_two_pow]
    by_cases e : j = z
    · subst e; simp
    · have e2 : ¬ z = j := fun h => e h.symm
      simp [e, e2]
  · have e2 : x.testBit j = false := Nat.testBit_lt_two_pow (Nat.lt_of_lt_of_le h (Nat.pow_le_pow_right (n := 2) (by decide) (by omega : 64 ≤ j)))
    simp [e2]
theorem free_wf {a : Ar} {c k l z m : Nat} (hW : a.Wf k) (ht : a.tk c = true) (hl : l = c / 64) (hz : z = c % 64) (hm : m = min a.low l) :
    (⟨a.has, upN a.wd l (a.wd l &&& (18446744073709551615 - 2 ^ z)), m, a.used - 1⟩ : Ar).Wf (k + 1) ∧ ∀ d, (⟨a.has, upN a.wd l (a.wd l &&& (18446744073709551615 - 2 ^ z)), m, a.used - 1⟩ : Ar).tk d = (d != c && a.tk d) := by
  have htk : ∀ d, (⟨a.has, upN a.wd l (a.wd l &&& (18446744073709551615 - 2 ^ z)), m, a.used - 1⟩ : Ar).tk d = (d != c && a.tk d) := by
    intro d
    unfold Ar.tk upN
    simp only
    by_cases h : d / 64 = l
    · rw [if_pos h, andNot_test _ _ _ (hW.wd_lt l) (by omega), h]
      by_cases h2 : d % 64 = z
      · have : d = c := by omega
        rw [bne_eq_false_iff_eq.mpr h2, bne_eq_false_iff_eq.mpr this]
      · have : d ≠ c := fun e => h2 (by rw [e]; exact hz.symm)
        rw [bne_iff_ne.mpr h2, bne_iff_ne.mpr this]
    · rw [if_neg h]
      have : d ≠ c := fun e => h (by rw [e]; exact hl.symm)
      rw [bne_iff_ne.mpr this]
      rfl
  refine ⟨⟨fun i => ?_, fun d hd => ?_, fun i hi => ?_, ?_, ?_, ?_⟩, htk⟩
  · simp only [upN]
    split
    · exact Nat.lt_of_le_of_lt Nat.and_le_left (hW.wd_lt l)
    · exact hW.wd_lt i
  · rw [htk d] at hd
    exact hW.in_has d (by simp at hd; exact hd.2)
  · have hi' : i < m := hi
    simp only [upN]
    rw [if_neg (by omega)]
    exact hW.low_full i (by omega)
  · have h4 : a.has.length ≤ k := hW.has_len
    show a.has.length ≤ k + 1
    omega
  · have h4 : a.used ≤ k := hW.used_le
    show a.used - 1 ≤ ((k + 1 : Nat) : Int)
    omega
  · have h4 : -(k : Int) ≤ a.used := hW.used_ge
    show -((k + 1 : Nat) : Int) ≤ a.used - 1
    omega

set_option maxRecDepth 100000 in
set_option maxHeartbeats 1600000 in
theorem free_any (B g k : Nat) (a : Ar) (c : Nat) (w : World) (h : ArAt B w g a) (hw : a.Wf k) (hk : k < 1990) (ht : a.tk c = true) :
    Calls Tryd.prog 14 #[.pointer (some ⟨g, 0, none⟩), .int .i64 c] w fun e w' => ∃ (a' : Ar), e = .returned (.int .i64 0) ∧ ArAt B w' g a' ∧ a'.Wf (k + 1) ∧ (∀ d, a'.tk d = (d != c && a.tk d)) ∧ (∀ d, a'.val d = a.val d) ∧ FrT TA B w w' := by
  have HTH := Aside0.mk (there_any B g k a c w h hw (by omega) ht)
  have H := Aside0.mk h
  have HW := Aside0.mk hw
  have hlt := hw.in_has c ht
  have hhl := hw.has_len
  have HTK := Aside0.mk ht
  obtain ⟨l, hl⟩ : ∃ l, l = c / 64 := ⟨_, rfl⟩
  obtain ⟨z, hz⟩ : ∃ z, z = c % 64 := ⟨_, rfl⟩
  have HLE := Aside0.mk hl
  have HZE := Aside0.mk hz
  clear h hw ht hl hz
  go_enter Tryd.func14, Tryd.ntmps14
  go_wp2_with fail
  refine HTH.out.mono ?_
  rintro e w1 ⟨rfl, rfl⟩
  go_wp2_with fail
  have hq : (c : Int).tdiv 64 = (l : Int) := by have := HLE.out; rw [Int.tdiv_eq_ediv_of_nonneg (by omega)]; omega
  have hm : (c : Int).tmod 64 = (z : Int) := by have := HZE.out; rw [Int.tmod_eq_emod_of_nonneg (by omega)]; omega
  obtain ⟨xw, fw⟩ := H.out.word l (by have := HLE.out; omega)
  have i0 : (0 : Int) ≤ (l : Int) := by omega
  have i1 : (l : Int) < 1024 := by have := HLE.out; omega
  have z0 : (0 : Int) ≤ (z : Int) := by omega
  have z1 : (z : Int) ≤ 64 := by have := HZE.out; omega
  have hwl : IntKind.i64.wrap (l : Int) = (l : Int) := by simp [IntKind.wrap, IntKind.bits, IntKind.signed]; omega
  refine wp_region_still_tail 13 (by kernel_rfl) (by kernel_rfl) ?_
  simp only [List.take_succ_cons, List.take_zero, List.drop_succ_cons, List.drop_zero]
  repeat still_step
  refine wpStill_nil ?_
  change wpList _ _ _ _ _ w1.drew
  have HL7 := Aside0.mk (show ArAt B w1.drew g a from H.out.drewN 1)
  have HF7 := Aside0.mk (show FrT TA B w1 w1.drew from (FrT.refl TA B w1).drewN 1)
  clear xw fw
  generalize w1.drew = w7 at *
  obtain ⟨xw, fw⟩ := HL7.out.word l (by have := HLE.out; omega)
  go_upto_region 5 with fail
  have HO := Aside0.mk (andNot_bit (a.wd l) z (HW.out.wd_lt l) (by have := HZE.out; omega))
  rw [HO.out]
  have HL8 := Aside0.mk (HL7.out.setWord l (by have := HLE.out; omega) (a.wd l &&& (18446744073709551615 - 2 ^ z)))
  have HF8 := Aside0.mk (HL7.out.fr (T := TA) (fun _ h => h) HF7.out (2 + l) (.int .u64 ((a.wd l &&& (18446744073709551615 - 2 ^ z) : Nat) : Int)))
  clear xw fw
  generalize (w7.setCell ⟨g, 2 + l, none⟩ (.int .u64 ((a.wd l &&& (18446744073709551615 - 2 ^ z) : Nat) : Int))) = w8 at *
  obtain ⟨x3, f3⟩ := HL8.out.lowc
  obtain ⟨x4, f4⟩ := HL8.out.usedc
  dsimp only at x3 x4
  have hl1 := low_lt HW.out (by omega)
  have hu1 := HW.out.used_ge
  have hu2 := HW.out.used_le
  by_cases hlow : (a.low : Int) ≤ (l : Int)
  · go_wp2_with fail
    have HL9 := Aside0.mk ((HL8.out.setLow a.low).setUsed (a.used - 1))
    have HF9 := Aside0.mk ((HL8.out.setLow a.low).fr (T := TA) (fun _ h => h) (HL8.out.fr (T := TA) (fun _ h => h) HF8.out 1026 (.int .i64 ((a.low : Nat) : Int))) 1027 (.int .i64 (a.used - 1)))
    obtain ⟨r1, r2⟩ := free_wf (m := a.low) HW.out HTK.out HLE.out HZE.out (by omega)
    go_ret
    exact ⟨_, rfl, HL9.out, r1, r2, fun d => rfl, HF9.out⟩
  · replace hlow : (l : Int) < (a.low : Int) := by omega
    go_wp2_with fail
    have HL9 := Aside0.mk ((HL8.out.setLow l).setUsed (a.used - 1))
    have HF9 := Aside0.mk ((HL8.out.setLow l).fr (T := TA) (fun _ h => h) (HL8.out.fr (T := TA) (fun _ h => h) HF8.out 1026 (.int .i64 ((l : Nat) : Int))) 1027 (.int .i64 (a.used - 1)))
    obtain ⟨r1, r2⟩ := free_wf (m := l) HW.out HTK.out HLE.out HZE.out (by omega)
    go_ret
    exact ⟨_, rfl, HL9.out, r1, r2, fun d => rfl, HF9.out⟩
end Go.Proofs.YtmemkmnnededgaaDoor.H
