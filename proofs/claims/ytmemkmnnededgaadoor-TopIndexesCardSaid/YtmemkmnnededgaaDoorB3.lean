/- Contracts: Crc, Bucket. -/
import Derived.Test.YtmemkmnnededgaaDoorBA
namespace Go.Proofs.YtmemkmnnededgaaDoor.H
open Go.RowKit Go.Proofs.YtmemkmnnededgaaDoorW.PrintWords Go.Proofs.YtmemkmnnededgaaDoorW.PrintLast Go.Proofs.YtmemkmnnededgaaDoorW.PrintMore
attribute [local go_sem] max2_int min2_int max_two min_two max_three min_three max_four min_four
set_option linter.unusedVariables false
set_option linter.unusedSimpArgs false

def bitStep (c : Int) : Int := bits .xor .u32 (c / 2) (bits .and .u32 3988292384 (IntKind.u32.wrap (-(bits .and .u32 c 1))))
def crc8 : Nat → Int → Int
  | 0, c => c
  | n + 1, c => crc8 n (bitStep c)
def crcL : List Int → Int → Int
  | [], c => c
  | x :: l, c => crcL l (crc8 8 (bits .xor .u32 c x))
def crcF (l : List Int) : Int := bits .xor .u32 IntKind.u32.max (crcL l 4294967295)

set_option maxRecDepth 100000 in
set_option maxHeartbeats 1600000 in
theorem crc_any (p : Nat) (A : Option Addr) (cap : Nat) (b : List Int) (w : World) (ho : w.cell? ⟨p, 0, none⟩ = some (.slice A b.length cap)) (hC : U8.C w A b.length b) (hl : b.length < 1000) (hb : ∀ x ∈ b, 0 ≤ x ∧ x ≤ 255) :
    Calls Tryd.prog 40 #[.slice (some ⟨p, 0, none⟩) 1 1] w fun e w' => e = .returned (.int .u32 (crcF b)) ∧ w' = w := by
  have HC := Aside0.mk hC
  have HB := Aside0.mk hb
  clear hC hb
  go_enter Tryd.func40, Tryd.ntmps40
  go_wp2_with fail
  go_loop [3, 10] (fun v3 v10 => ∃ i : Nat, i ≤ 1 ∧ v10 = .int .i64 i ∧ ∃ c : Int, v3 = .int .u32 c ∧ Aside0 (c = if i = 0 then 4294967295 else crcL b 4294967295)) (fun _ v10 => 1 - (intOf v10).toNat)
  case atStart => exact ⟨0, by omega, rfl, _, rfl, ⟨rfl⟩⟩
  case round =>
    obtain ⟨i, hi, rfl, c, rfl, HE⟩ := hrel
    by_cases h0 : i = 0
    · subst h0
      obtain rfl : c = 4294967295 := HE.out
      go_wp2_with fail
      go_loop [3, 16] (fun v3 v16 => ∃ (j : Nat) (c : Int), j ≤ b.length ∧ v16 = .int .i64 j ∧ v3 = .int .u32 c ∧ Aside0 (crcL b 4294967295 = crcL (b.drop j) c)) (fun _ v16 => b.length - (intOf v16).toNat)
      case atStart => exact ⟨0, _, by omega, rfl, rfl, ⟨rfl⟩⟩
      case round =>
        obtain ⟨j, c, hj, rfl, rfl, HJ⟩ := hrel
        by_cases hlt : j < b.length
        · obtain ⟨ad, rfl, _⟩ := HC.out.2.2 (by omega)
          obtain ⟨x, hx⟩ : ∃ x, x = b.getD j 0 := ⟨_, rfl⟩
          have hcell : w.cell? (ad.add j) = some (.int .u8 x) := by
            obtain ⟨ad', e, hc⟩ := Kd.at_int HC.out (j : Int) (by omega) (by omega)
            cases e
            rw [hx]
            simpa [rd] using hc
          have hdr : b.drop j = x :: b.drop (j + 1) := by
            rw [List.drop_eq_getElem_cons hlt, hx, List.getD_eq_getElem?_getD, List.getElem?_eq_getElem hlt]
            rfl
          have HDR := Aside0.mk hdr
          have hxr : 0 ≤ x ∧ x ≤ 255 := HB.out x (by have : x ∈ b.drop j := by rw [hdr]; simp
                                                     exact List.mem_of_mem_drop this)
          obtain ⟨hx0, hx1⟩ := hxr
          clear hx hdr
          go_wp2_with fail
          go_loop [3, 24] (fun v3 v24 => ∃ (m : Nat) (c' : Int), m ≤ 8 ∧ v24 = .int .i64 m ∧ v3 = .int .u32 c' ∧ Aside0 (crc8 8 (bits .xor .u32 c x) = crc8 (8 - m) c')) (fun _ v24 => 8 - (intOf v24).toNat)
          case atStart => exact ⟨0, _, by omega, rfl, rfl, ⟨rfl⟩⟩
          case round =>
            obtain ⟨m, c', hm, rfl, rfl, HM⟩ := hrel
            by_cases hlt8 : m < 8
            · go_wp2_with fail
              refine ⟨⟨m + 1, bitStep c', by omega, by go_num, rfl, ⟨?_⟩⟩, by simp [intOf]; omega⟩
              rw [HM.out, show 8 - m = (8 - (m + 1)) + 1 by omega, crc8]
            · obtain rfl : m = 8 := by omega
              go_wp2_with fail
              refine ⟨⟨j + 1, c', by omega, by go_num, rfl, ⟨?_⟩⟩, by simp [intOf]; omega⟩
              rw [HJ.out, HDR.out, crcL, HM.out]
              rfl
        · go_wp2_with fail
          refine ⟨⟨1, by omega, rfl, c, rfl, ⟨?_⟩⟩, by simp [intOf]⟩
          rw [if_neg (by decide), HJ.out, List.drop_eq_nil_of_le (by omega)]
          rfl
    · obtain rfl : i = 1 := by omega
      obtain rfl : c = crcL b 4294967295 := HE.out
      go_wp2_with fail
      go_ret
      exact ⟨rfl, rfl⟩
end Go.Proofs.YtmemkmnnededgaaDoor.H
