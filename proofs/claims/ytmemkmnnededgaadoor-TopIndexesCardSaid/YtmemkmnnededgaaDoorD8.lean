/- Contract: a skip operation is made. -/
import Derived.Test.YtmemkmnnededgaaDoorD3
namespace Go.Proofs.YtmemkmnnededgaaDoor.H
open Go.RowKit Go.Proofs.YtmemkmnnededgaaDoorW.PrintWords Go.Proofs.YtmemkmnnededgaaDoorW.PrintLast Go.Proofs.YtmemkmnnededgaaDoorW.PrintMore
attribute [local go_sem] max2_int min2_int max_two min_two max_three min_three max_four min_four
set_option linter.unusedVariables false
set_option linter.unusedSimpArgs false

def wordA (key : ByteArray) : Array Value := #[.int .u8 (wordF key 0), .int .u8 (wordF key 1), .int .u8 (wordF key 2), .int .u8 (wordF key 3), .int .u8 (wordF key 4), .int .u8 (wordF key 5), .int .u8 (wordF key 6), .int .u8 (wordF key 7), .int .u8 (wordF key 8), .int .u8 (wordF key 9), .int .u8 (wordF key 10), .int .u8 (wordF key 11), .int .u8 (wordF key 12), .int .u8 (wordF key 13), .int .u8 (wordF key 14), .int .u8 (wordF key 15), .int .u8 (wordF key 16)]
theorem wordA_eq (key : ByteArray) : (copied key).setIfInBounds 16 (.int .u8 ((key.size : Int) % 256)) = wordA key := by
  apply Array.ext
  · rw [word_size]; rfl
  · intro i h1 h2
    have hi : i < 17 := by rw [word_size] at h1; exact h1
    have h := word_at key i hi
    rw [Array.getElem?_eq_getElem h1] at h
    injection h with h
    rw [h]
    rcases i with _ | _ | _ | _ | _ | _ | _ | _ | _ | _ | _ | _ | _ | _ | _ | _ | _ | i
    all_goals first | rfl | exact absurd hi (by omega)
def sop0 (key : ByteArray) (ref : Int) (h : Nat) : SOp := ⟨key, wordF key, ref, h, 0, false, 0, 0, fun _ => 0, fun _ => 0, 0, 0, ⟨#[]⟩, false, 0⟩
def scells (key : ByteArray) (ref : Int) (l H : Nat) : Array Value := #[.pointer (some ⟨l, 0, none⟩), .int .i64 0, .string key, .int .u8 (wordF key 0), .int .u8 (wordF key 1), .int .u8 (wordF key 2), .int .u8 (wordF key 3), .int .u8 (wordF key 4), .int .u8 (wordF key 5), .int .u8 (wordF key 6), .int .u8 (wordF key 7), .int .u8 (wordF key 8), .int .u8 (wordF key 9), .int .u8 (wordF key 10), .int .u8 (wordF key 11), .int .u8 (wordF key 12), .int .u8 (wordF key 13), .int .u8 (wordF key 14), .int .u8 (wordF key 15), .int .u8 (wordF key 16), .int .i64 ref, .int .i64 H, .int .i64 0, .bool false, .int .i64 0, .int .i64 0, .int .i64 0, .int .i64 0, .int .i64 0, .int .i64 0, .int .i64 0, .int .i64 0, .int .i64 0, .int .i64 0, .int .i64 0, .int .i64 0, .int .i64 0, .int .i64 0, .int .i64 0, .int .i64 0, .int .i64 0, .int .i64 0, .int .i64 0, .int .i64 0, .string ⟨#[]⟩, .bool false, .int .i64 0]
theorem scells_at (B : Nat) (w : World) (key : ByteArray) (ref : Int) (l H : Nat) (hB : B ≤ w.heap.size) : SoAt B (w.alloc (.cells (scells key ref l H) 73)) w.heap.size l (sop0 key ref H) := by
  refine ⟨hB, CellsAt.new w _ 73 47 _ rfl (fun i hi => ?_)⟩
  rcases i with _ | _ | _ | _ | _ | _ | _ | _ | _ | _ | _ | _ | _ | _ | _ | _ | _ | _ | _ | _ | _ | _ | _ | _ | _ | _ | _ | _ | _ | _ | _ | _ | _ | _ | _ | _ | _ | _ | _ | _ | _ | _ | _ | _ | _ | _ | _ | i
  all_goals first | rfl | exact absurd hi (by omega)
set_option maxRecDepth 100000 in
set_option maxHeartbeats 6400000 in
theorem sinsert_any (B : Nat) (w : World) (l : Nat) (key : ByteArray) (ref : Int) (gh H : Nat) (hB : B ≤ w.heap.size) (hH : min (max (gh : Int) 1) 8 = (H : Int)) :
    Calls Tryd.prog 8 #[.pointer (some ⟨l, 0, none⟩), .string key, .int .i64 ref, .int .i64 gh] w fun e w' => ∃ o : Nat, e = .returned (.pointer (some ⟨o, 0, none⟩)) ∧ w.heap.size ≤ o ∧ SoAt B w' o l (sop0 key ref H) ∧ Below w.heap.size w w' := by
  have HB := Aside0.mk hB
  have HH := Aside0.mk hH
  clear hB hH
  go_enter Tryd.func8, Tryd.ntmps8
  go_wp2_with fail
  refine (wordOf_any key w).mono ?_
  rintro e w1 ⟨rfl, hb⟩
  have HBL := Aside0.mk hb
  clear hb
  rw [wordA_eq]
  unfold wordA
  go_wp2_with fail
  case inl =>
    obtain rfl : H = 1 := by have := HH.out; omega
    go_ret
    exact ⟨_, rfl, HBL.out.size, scells_at B w1 key ref l 1 (Nat.le_trans HB.out HBL.out.size), below_alloc HBL.out _⟩
  case inr.inl =>
    obtain rfl : H = 8 := by have := HH.out; omega
    go_ret
    exact ⟨_, rfl, HBL.out.size, scells_at B w1 key ref l 8 (Nat.le_trans HB.out HBL.out.size), below_alloc HBL.out _⟩
  case inr.inr =>
    obtain rfl : H = gh := by have := HH.out; omega
    go_ret
    exact ⟨_, rfl, HBL.out.size, scells_at B w1 key ref l H (Nat.le_trans HB.out HBL.out.size), below_alloc HBL.out _⟩
end Go.Proofs.YtmemkmnnededgaaDoor.H
