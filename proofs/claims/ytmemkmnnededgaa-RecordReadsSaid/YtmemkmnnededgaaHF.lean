/- Contracts of the program's package record: rightCommit. -/
import Derived.Test.YtmemkmnnededgaaHE
namespace Go.Proofs.Ytmemkmnnededgaa.H
open Go.RowKit Go.Proofs.YtmemkmnnededgaaW.PrintWords Go.Proofs.YtmemkmnnededgaaW.PrintLast Go.Proofs.YtmemkmnnededgaaW.PrintMore
attribute [local go_sem] max2_int min2_int max_two min_two max_three min_three max_four min_four
set_option linter.unusedVariables false
set_option linter.unusedSimpArgs false

def lessB (a b : ByteArray) : Bool := Op.bytesLess a.toList b.toList
/-- Is the i-th write right, with the one ahead of it? -/
def wOkAt (l : List W27) (i : Nat) : Bool :=
  match l[i]? with
  | none => true
  | some x => isKeyB x.key && isValB x.val && (!x.gone || x.val.size == 0) && (i == 0 || match l[i - 1]? with | some y => lessB y.key x.key | none => true)
theorem isKey_is (s : ByteArray) (b : Bool) (h : isKeyB s = b) (w : World) : Calls Try.prog 55 #[.string s] w fun e w' => e = .returned (.bool b) ∧ w' = w := h ▸ isKey_any s w
theorem isVal_is (s : ByteArray) (b : Bool) (h : isValB s = b) (w : World) : Calls Try.prog 63 #[.string s] w fun e w' => e = .returned (.bool b) ∧ w' = w := h ▸ isVal_any s w

set_option maxRecDepth 100000 in
set_option maxHeartbeats 1600000 in
theorem c66_nokey (i : Int) (key val : ByteArray) (p : Value) (w : World) (gone : Bool) (hk : isKeyB key = false) :
    Calls Try.prog 66 #[.int .i64 i, .agg #[.string key, .string val, .bool gone], p] w fun e w' => e = .returned (.bool false) ∧ Below w.heap.size w w' := by
  have HK := Aside0.mk hk
  have HV := Aside0.mk (rfl : isValB val = isValB val)
  clear hk
  go_enter Try.func66, Try.ntmps66
  go_wp2_with fail
  go_quiet ((first | (go_at_call 55; exact Calls.quiet_of_same (isKey_is key _ HK.out _)) | (go_at_call 63; exact Calls.quiet_of_same (isVal_is val _ HV.out _))))
  go_wp2_with fail
  go_ret
  exact ⟨rfl, pw_below_drewN (below_alloc (Below.refl _ _) _) nq⟩

set_option maxRecDepth 100000 in
set_option maxHeartbeats 1600000 in
theorem c66_noval (i : Int) (key val : ByteArray) (p : Value) (w : World) (gone : Bool) (hk : isKeyB key = true) (hv : isValB val = false) :
    Calls Try.prog 66 #[.int .i64 i, .agg #[.string key, .string val, .bool gone], p] w fun e w' => e = .returned (.bool false) ∧ Below w.heap.size w w' := by
  have HK := Aside0.mk hk
  have HV := Aside0.mk hv
  clear hk hv
  go_enter Try.func66, Try.ntmps66
  go_wp2_with fail
  go_quiet ((first | (go_at_call 55; exact Calls.quiet_of_same (isKey_is key _ HK.out _)) | (go_at_call 63; exact Calls.quiet_of_same (isVal_is val _ HV.out _))))
  go_wp2_with fail
  go_ret
  exact ⟨rfl, pw_below_drewN (below_alloc (Below.refl _ _) _) nq⟩

set_option maxRecDepth 100000 in
set_option maxHeartbeats 1600000 in
theorem c66_gone_val (i : Int) (key val : ByteArray) (p : Value) (w : World) (hk : isKeyB key = true) (hv : isValB val = true) (he : val.toList.isEmpty = false) :
    Calls Try.prog 66 #[.int .i64 i, .agg #[.string key, .string val, .bool true], p] w fun e w' => e = .returned (.bool false) ∧ Below w.heap.size w w' := by
  have HK := Aside0.mk hk
  have HV := Aside0.mk hv
  clear hk hv
  go_enter Try.func66, Try.ntmps66
  go_wp2_with fail
  go_quiet ((first | (go_at_call 55; exact Calls.quiet_of_same (isKey_is key _ HK.out _)) | (go_at_call 63; exact Calls.quiet_of_same (isVal_is val _ HV.out _))))
  go_wp2_with fail
  go_ret
  exact ⟨rfl, pw_below_drewN (below_alloc (Below.refl _ _) _) nq⟩

set_option maxRecDepth 100000 in
set_option maxHeartbeats 1600000 in
theorem c66_first_true (key val : ByteArray) (p : Value) (w : World) (hk : isKeyB key = true) (hv : isValB val = true) (he : val.toList.isEmpty = true) :
    Calls Try.prog 66 #[.int .i64 0, .agg #[.string key, .string val, .bool true], p] w fun e w' => e = .returned (.bool true) ∧ Below w.heap.size w w' := by
  have HK := Aside0.mk hk
  have HV := Aside0.mk hv
  clear hk hv
  go_enter Try.func66, Try.ntmps66
  go_wp2_with fail
  go_quiet ((first | (go_at_call 55; exact Calls.quiet_of_same (isKey_is key _ HK.out _)) | (go_at_call 63; exact Calls.quiet_of_same (isVal_is val _ HV.out _))))
  go_wp2_with fail
  go_ret
  exact ⟨rfl, pw_below_drewN (below_alloc (Below.refl _ _) _) nq⟩

set_option maxRecDepth 100000 in
set_option maxHeartbeats 1600000 in
theorem c66_next_true (key val : ByteArray) (p : Value) (w : World) (hk : isKeyB key = true) (hv : isValB val = true) (he : val.toList.isEmpty = true) (i : Int) (m : Nat) (hi : i = m + 1) (n c cb : Nat) (ad : Addr) (pk : ByteArray) (hp : p = .pointer (some ⟨cb, 0, none⟩)) (h1 : w.cell? ⟨cb, 1, none⟩ = some (.slice (some ad) n c)) (hn : m < n) (h2 : w.cell? (ad.add (m * 3)) = some (.string pk)) (hlt : i < 1000000) :
    Calls Try.prog 66 #[.int .i64 i, .agg #[.string key, .string val, .bool true], p] w fun e w' => e = .returned (.bool (lessB pk key)) ∧ Below w.heap.size w w' := by
  have HK := Aside0.mk hk
  have HV := Aside0.mk hv
  clear hk hv
  subst hp hi
  have lb : cb < w.heap.size := World.block_lt_of_cell? w _ h1
  have lb2 := World.block_lt_of_cell? w _ h2
  have t1 : (((m : Int) + 1) == 0) = false := by simp; omega
  have t2 : IntKind.i64.wrap ((m : Int) + 1 - 1) = (m : Int) := by rw [IntKind.wrap_i64]; omega
  have t3 : (0 : Int) ≤ (m : Int) := by omega
  have t4 : (m : Int) < (n : Int) := by omega
  go_enter Try.func66, Try.ntmps66
  go_wp2_with fail
  go_quiet ((first | (go_at_call 55; exact Calls.quiet_of_same (isKey_is key _ HK.out _)) | (go_at_call 63; exact Calls.quiet_of_same (isVal_is val _ HV.out _))))
  go_wp2_with fail
  go_ret
  exact ⟨rfl, pw_below_drewN (below_alloc (Below.refl _ _) _) nq⟩

set_option maxRecDepth 100000 in
set_option maxHeartbeats 1600000 in
theorem c66_first_false (key val : ByteArray) (p : Value) (w : World) (hk : isKeyB key = true) (hv : isValB val = true) :
    Calls Try.prog 66 #[.int .i64 0, .agg #[.string key, .string val, .bool false], p] w fun e w' => e = .returned (.bool true) ∧ Below w.heap.size w w' := by
  have HK := Aside0.mk hk
  have HV := Aside0.mk hv
  clear hk hv
  go_enter Try.func66, Try.ntmps66
  go_wp2_with fail
  go_quiet ((first | (go_at_call 55; exact Calls.quiet_of_same (isKey_is key _ HK.out _)) | (go_at_call 63; exact Calls.quiet_of_same (isVal_is val _ HV.out _))))
  go_wp2_with fail
  go_ret
  exact ⟨rfl, pw_below_drewN (below_alloc (Below.refl _ _) _) nq⟩

set_option maxRecDepth 100000 in
set_option maxHeartbeats 1600000 in
theorem c66_next_false (key val : ByteArray) (p : Value) (w : World) (hk : isKeyB key = true) (hv : isValB val = true) (i : Int) (m : Nat) (hi : i = m + 1) (n c cb : Nat) (ad : Addr) (pk : ByteArray) (hp : p = .pointer (some ⟨cb, 0, none⟩)) (h1 : w.cell? ⟨cb, 1, none⟩ = some (.slice (some ad) n c)) (hn : m < n) (h2 : w.cell? (ad.add (m * 3)) = some (.string pk)) (hlt : i < 1000000) :
    Calls Try.prog 66 #[.int .i64 i, .agg #[.string key, .string val, .bool false], p] w fun e w' => e = .returned (.bool (lessB pk key)) ∧ Below w.heap.size w w' := by
  have HK := Aside0.mk hk
  have HV := Aside0.mk hv
  clear hk hv
  subst hp hi
  have lb : cb < w.heap.size := World.block_lt_of_cell? w _ h1
  have lb2 := World.block_lt_of_cell? w _ h2
  have t1 : (((m : Int) + 1) == 0) = false := by simp; omega
  have t2 : IntKind.i64.wrap ((m : Int) + 1 - 1) = (m : Int) := by rw [IntKind.wrap_i64]; omega
  have t3 : (0 : Int) ≤ (m : Int) := by omega
  have t4 : (m : Int) < (n : Int) := by omega
  go_enter Try.func66, Try.ntmps66
  go_wp2_with fail
  go_quiet ((first | (go_at_call 55; exact Calls.quiet_of_same (isKey_is key _ HK.out _)) | (go_at_call 63; exact Calls.quiet_of_same (isVal_is val _ HV.out _))))
  go_wp2_with fail
  go_ret
  exact ⟨rfl, pw_below_drewN (below_alloc (Below.refl _ _) _) nq⟩

theorem val_empty (v : ByteArray) : v.toList.isEmpty = (v.size == 0) := by
  rw [Bool.eq_iff_iff]
  simp [toList_nil]

theorem c66_any (l : List W27) (i : Nat) (hi : i < l.length) (cb c : Nat) (t : Int) (A : Option Addr) (w : World) (hcb : w.heap[cb]? = some (.cells #[.int .i64 t, .slice A l.length c] 24 (0, 0))) (hr : k27.C w A l.length l) (hn : l.length ≤ 100000) :
    Calls Try.prog 66 #[.int .i64 i, l[i].v, .pointer (some ⟨cb, 0, none⟩)] w fun e w' => e = .returned (.bool (wOkAt l i)) ∧ Below w.heap.size w w' := by
  obtain ⟨x, hx⟩ : ∃ x : W27, x = l[i] := ⟨_, rfl⟩
  have hw : wOkAt l i = (isKeyB l[i].key && isValB l[i].val && (!l[i].gone || l[i].val.size == 0) && (i == 0 || match l[i - 1]? with | some y => lessB y.key l[i].key | none => true)) := by
    unfold wOkAt
    rw [List.getElem?_eq_getElem hi]
  rw [hw, ← hx]
  clear hw hx
  obtain ⟨key, val, gone⟩ := x
  unfold W27.v
  simp only
  cases hk : isKeyB key with
  | false => simpa using c66_nokey (i : Int) key val _ w gone hk
  | true =>
    cases hv : isValB val with
    | false => simpa using c66_noval (i : Int) key val _ w gone hk hv
    | true =>
      have main : (gone = true → val.toList.isEmpty = true) → Calls Try.prog 66 #[.int .i64 i, .agg #[.string key, .string val, .bool gone], .pointer (some ⟨cb, 0, none⟩)] w fun e w' => e = .returned (.bool (i == 0 || match l[i - 1]? with | some y => lessB y.key key | none => true)) ∧ Below w.heap.size w w' := by
        intro hg
        by_cases h0 : i = 0
        · subst h0
          cases gone with
          | true => exact c66_first_true key val _ w hk hv (hg rfl)
          | false => exact c66_first_false key val _ w hk hv
        · obtain ⟨m, rfl⟩ : ∃ m, i = m + 1 := ⟨i - 1, by omega⟩
          obtain ⟨ad, rfl, _⟩ := hr.2.2 (by omega)
          have hc := (k27_cells hr m (by omega)).1
          have he : ((m + 1 == 0) || match l[m + 1 - 1]? with | some y => lessB y.key key | none => true) = lessB (l[m]'(by omega)).key key := by
            rw [Nat.add_sub_cancel, List.getElem?_eq_getElem (show m < l.length by omega)]
            simp
          rw [he]
          cases gone with
          | true => exact c66_next_true key val _ w hk hv (hg rfl) ((m + 1 : Nat) : Int) m (by omega) _ _ cb ad _ rfl ((blk_cell hcb 1).trans rfl) (show m < l.length by omega) hc (by omega)
          | false => exact c66_next_false key val _ w hk hv ((m + 1 : Nat) : Int) m (by omega) _ _ cb ad _ rfl ((blk_cell hcb 1).trans rfl) (show m < l.length by omega) hc (by omega)
      cases gone with
      | false => simpa using main (by simp)
      | true =>
        cases he : val.toList.isEmpty with
        | false =>
          have h2 : (val.size == 0) = false := by rw [← val_empty]; exact he
          rw [h2]
          simpa using c66_gone_val (i : Int) key val _ w hk hv he
        | true =>
          have h2 : (val.size == 0) = true := by rw [← val_empty]; exact he
          rw [h2]
          simpa using main (fun _ => he)

/-- Are all right from the k-th one on? -/
def allFrom (l : List W27) (k : Nat) : Bool := (List.range' k (l.length - k)).all (wOkAt l)
theorem allFrom_end (l : List W27) : allFrom l l.length = true := by simp [allFrom]
theorem allFrom_step (l : List W27) (k : Nat) (h : k < l.length) : allFrom l k = (wOkAt l k && allFrom l (k + 1)) := by
  unfold allFrom
  rw [show l.length - k = (l.length - (k + 1)) + 1 by omega, List.range'_succ, List.all_cons]

set_option maxRecDepth 100000 in
set_option maxHeartbeats 1600000 in
theorem all27_any (l : List W27) (cb c c' : Nat) (t : Int) (A : Option Addr) (w : World) (hcb : w.heap[cb]? = some (.cells #[.int .i64 t, .slice A l.length c] 24 (0, 0))) (hr : k27.C w A l.length l) (hn : l.length ≤ 100000) :
    Calls Try.prog 65 #[.slice A l.length c', .func (.func 66) #[] #[.pointer (some ⟨cb, 0, none⟩)]] w fun e w' => e = .returned (.bool (allFrom l 0)) ∧ Below w.heap.size w w' := by
  have HC := Aside0.mk hcb
  have HR := Aside0.mk hr
  clear hcb hr
  go_enter Try.func65, Try.ntmps65
  go_wp2_with fail
  go_loopw [9] (fun v9 w' => ∃ k : Nat, k ≤ l.length ∧ v9 = .int .i64 k ∧ Aside0 (allFrom l 0 = allFrom l k) ∧ Aside0 (Below w.heap.size w w')) (fun v9 _ => l.length - (intOf v9).toNat)
  case atStart => exact ⟨0, Nat.zero_le _, rfl, ⟨rfl⟩, ⟨Below.refl _ _⟩⟩
  case round =>
    obtain ⟨k, hk, rfl, HE, HB⟩ := hrel
    by_cases hlt : k < l.length
    · have hr2 := Kd.C_below HR.out HB.out
      have HCr := Aside0.mk (blk_below HC.out HB.out)
      have HRr := Aside0.mk hr2
      obtain ⟨ad, rfl, _⟩ := hr2.2.2 (by omega)
      obtain ⟨q0, q1, q2⟩ := k27_cells hr2 k hlt
      clear hr2
      go_wp2_with fail
      have hcall := c66_any l k hlt cb c t (some ad) _ (blk_alloc HCr.out (.cells #[.string l[k].key, .string l[k].val, .bool l[k].gone] 27)) (Kd.C_alloc HRr.out _) hn
      unfold W27.v at hcall
      cases hok : wOkAt l k with
      | false =>
        rw [hok] at hcall
        refine hcall.mono ?_
        rintro e w3 ⟨rfl, hb3⟩
        have HB3 := Aside0.mk (below_then (below_alloc HB.out _) (by have := HB.out.size; simp; omega) hb3)
        have HOK := Aside0.mk hok
        clear hb3 q0 q1 q2 hcall hok
        go_wp2_with fail
        go_ret
        exact ⟨ret_bool (by rw [HE.out, allFrom_step l k hlt, HOK.out]; rfl), HB3.out⟩
      | true =>
        rw [hok] at hcall
        refine hcall.mono ?_
        rintro e w3 ⟨rfl, hb3⟩
        have HB3 := Aside0.mk (below_then (below_alloc HB.out _) (by have := HB.out.size; simp; omega) hb3)
        have HOK := Aside0.mk hok
        clear hb3 q0 q1 q2 hcall hok
        go_wp2_with fail
        exact ⟨⟨k + 1, by omega, by go_num, ⟨by rw [HE.out, allFrom_step l k hlt, HOK.out]; rfl⟩, HB3⟩, by simp [intOf]; omega⟩
    · obtain rfl : k = l.length := by omega
      go_wp2_with fail
      go_ret
      exact ⟨ret_bool (by rw [HE.out, allFrom_end]), HB.out⟩

def rightC (t : Int) (l : List W27) : Bool := isTimeB t && (decide (l.length ≤ 64) && allFrom l 0)
theorem isTime_is (t : Int) (b : Bool) (h : isTimeB t = b) (w : World) : Calls Try.prog 64 #[.int .i64 t] w fun e w' => e = .returned (.bool b) ∧ w' = w := h ▸ isTime_any t w

set_option maxRecDepth 100000 in
set_option maxHeartbeats 1600000 in
theorem rightCommit_any (t : Int) (l : List W27) (A : Option Addr) (c : Nat) (w : World) (hr : k27.C w A l.length l) :
    Calls Try.prog 25 #[.agg #[.int .i64 t, .slice A l.length c]] w fun e w' => e = .returned (.bool (rightC t l)) ∧ Below w.heap.size w w' := by
  have HR := Aside0.mk hr
  have hmx := hr.2.1
  clear hr
  cases ht : isTimeB t with
  | false =>
    have HT := Aside0.mk ht
    have HE := Aside0.mk (show rightC t l = false by simp [rightC, ht])
    clear ht
    go_enter Try.func25, Try.ntmps25
    go_wp2_with fail
    refine (isTime_is t false HT.out _).mono ?_
    rintro e w1 ⟨rfl, rfl⟩
    go_wp2_with fail
    go_ret
    exact ⟨ret_bool HE.out.symm, below_alloc (Below.refl _ _) _⟩
  | true =>
    have HT := Aside0.mk ht
    by_cases hn : l.length ≤ 64
    · have HE := Aside0.mk (show rightC t l = allFrom l 0 by simp [rightC, ht, hn])
      clear ht
      go_enter Try.func25, Try.ntmps25
      go_wp2_with fail
      refine (isTime_is t true HT.out _).mono ?_
      rintro e w1 ⟨rfl, rfl⟩
      go_wp2_with fail
      refine (all27_any l w.heap.size c c t A _ (blk_new w _) (Kd.C_alloc HR.out _) (by omega)).mono ?_
      rintro e w2 ⟨rfl, hb2⟩
      have HB2 := Aside0.mk (below_then (below_alloc (Below.refl w.heap.size w) _) (by simp) hb2)
      clear hb2
      go_wp2_with fail
      go_ret
      exact ⟨ret_bool HE.out.symm, HB2.out⟩
    · have HE := Aside0.mk (show rightC t l = false by simp [rightC, hn])
      clear ht
      go_enter Try.func25, Try.ntmps25
      go_wp2_with fail
      refine (isTime_is t true HT.out _).mono ?_
      rintro e w1 ⟨rfl, rfl⟩
      go_wp2_with fail
      go_ret
      exact ⟨ret_bool HE.out.symm, below_alloc (Below.refl _ _) _⟩
end Go.Proofs.Ytmemkmnnededgaa.H
