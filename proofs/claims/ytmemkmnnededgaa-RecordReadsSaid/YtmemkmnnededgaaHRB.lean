/- Contracts of the reference: RightCommit. -/
import Derived.Test.YtmemkmnnededgaaHRA
import Derived.Test.YtmemkmnnededgaaHG
namespace Go.Proofs.Ytmemkmnnededgaa.H
open Go.RowKit Go.Proofs.YtmemkmnnededgaaW.PrintWords Go.Proofs.YtmemkmnnededgaaW.PrintLast Go.Proofs.YtmemkmnnededgaaW.PrintMore
attribute [local go_sem] max2_int min2_int max_two min_two max_three min_three max_four min_four
set_option linter.unusedVariables false
set_option linter.unusedSimpArgs false

theorem wOk_cut (l : List W27) (k : Nat) (h : k < l.length) : wOkAt l k = (isKeyB l[k].key && isValB l[k].val && (!l[k].gone || l[k].val.size == 0) && (k == 0 || match l[k - 1]? with | some y => lessB y.key l[k].key | none => true)) := by
  unfold wOkAt
  rw [List.getElem?_eq_getElem h]
  rfl
theorem wOk_first (l : List W27) (h : 0 < l.length) (r : Bool) (e : (isKeyB l[0].key && isValB l[0].val && (!l[0].gone || l[0].val.size == 0)) = r) : wOkAt l 0 = r := by
  rw [wOk_cut l 0 h, e]; simp
theorem wOk_next (l : List W27) (m : Nat) (h : m + 1 < l.length) (e : (isKeyB l[m + 1].key && isValB l[m + 1].val && (!l[m + 1].gone || l[m + 1].val.size == 0)) = true) : wOkAt l (m + 1) = lessB l[m].key l[m + 1].key := by
  rw [wOk_cut l (m + 1) h, e]
  simp only [Nat.add_sub_cancel]
  rw [List.getElem?_eq_getElem (by omega)]
  simp
theorem wOk_no (l : List W27) (k : Nat) (h : k < l.length) (e : (isKeyB l[k].key && isValB l[k].val && (!l[k].gone || l[k].val.size == 0)) = false) : wOkAt l k = false := by
  rw [wOk_cut l k h, e]; simp
theorem empty_size {s : ByteArray} {b : Bool} (h : s.toList.isEmpty = b) : (s.size == 0) = b := by
  subst h
  have := toList_nil s
  rw [Bool.eq_iff_iff]
  simp [this]

set_option maxRecDepth 100000 in
set_option maxHeartbeats 6400000 in
theorem refRightCommit_any (t : Int) (l : List W27) (A : Option Addr) (c : Nat) (w : World) (hr : k27.C w A l.length l) (hn : l.length < 9223372036854775807) :
    Calls Try.prog 30 #[.agg #[.int .i64 t, .slice A l.length c]] w fun e w' => e = .returned (.bool (rightC t l)) ∧ Below w.heap.size w w' := by
  have HR := Aside0.mk hr
  have HB := Aside0.mk (below_alloc (Below.refl w.heap.size w) (.cells #[.int .i64 t, .slice A l.length c] 24))
  have HX := Aside0.mk (blk_new w (.cells #[.int .i64 t, .slice A l.length c] 24))
  clear hr
  cases hT : isTimeB t with
  | false =>
    have HT := Aside0.mk hT
    clear hT
    go_enter Try.func30, Try.ntmps30
    go_wp2_with fail
    refine (refTimed_is t _ HT.out _).mono ?_
    rintro e w1 ⟨rfl, rfl⟩
    generalize w.alloc (.cells #[.int .i64 t, .slice A l.length c] 24) = w1 at *
    go_wp2_with fail
    go_loopw [3, 4] (fun v3 v4 w' => v3 = .bool false ∧ v4 = .int .i64 0 ∧ Aside0 (Below w.heap.size w w') ∧ Aside0 (w'.heap[w.heap.size]? = some (.cells #[.int .i64 t, .slice A l.length c] 24 (0, 0)))) (fun v3 _ _ => 0)
    case atStart => exact ⟨rfl, rfl, HB, HX⟩
    case round =>
      obtain ⟨rfl, rfl, HB2, HX2⟩ := hrel
      have x1 : wr.cell? ⟨w.heap.size, 1, none⟩ = some (.slice A l.length c) := (blk_cell HX2.out 1).trans rfl
      go_wp2_with fail
      all_goals
        go_ret
        exact ⟨ret_bool (by unfold rightC; rw [HT.out]; rfl), HB2.out⟩
  | true =>
    have HT := Aside0.mk hT
    clear hT
    go_enter Try.func30, Try.ntmps30
    go_wp2_with fail
    refine (refTimed_is t _ HT.out _).mono ?_
    rintro e w1 ⟨rfl, rfl⟩
    generalize w.alloc (.cells #[.int .i64 t, .slice A l.length c] 24) = w1 at *
    have x1 : w1.cell? ⟨w.heap.size, 1, none⟩ = some (.slice A l.length c) := (blk_cell HX.out 1).trans rfl
    go_wp2_with fail
    clear x1
    go_loopw [3, 4] (fun v3 v4 w' => ∃ (ok : Bool) (k : Nat), v3 = .bool ok ∧ v4 = .int .i64 k ∧ k ≤ l.length ∧ Aside0 (rightC t l = (ok && allFrom l k)) ∧ Aside0 (Below w.heap.size w w') ∧ Aside0 (w'.heap[w.heap.size]? = some (.cells #[.int .i64 t, .slice A l.length c] 24 (0, 0)))) (fun _ v4 _ => l.length - (intOf v4).toNat)
    case atStart => exact ⟨_, 0, rfl, rfl, Nat.zero_le _, ⟨by unfold rightC; rw [HT.out, Bool.true_and]; congr 1; rw [Bool.eq_iff_iff]; simp; omega⟩, HB, HX⟩
    case round =>
      obtain ⟨ok, k, rfl, rfl, hk, HE, HB2, HX2⟩ := hrel
      have x1 : wr.cell? ⟨w.heap.size, 1, none⟩ = some (.slice A l.length c) := (blk_cell HX2.out 1).trans rfl
      cases ok with
      | false =>
        go_wp2_with fail
        all_goals
          go_ret
          exact ⟨ret_bool (by rw [HE.out]; rfl), HB2.out⟩
      | true =>
        by_cases hlt : k < l.length
        · have r1 := Kd.C_below HR.out HB2.out
          obtain ⟨ad, rfl, _⟩ := r1.2.2 (by omega)
          obtain ⟨p0, p1, p2⟩ := k27_cells r1 k hlt
          have HN := Aside0.mk r1
          have HXa := Aside0.mk (blk_alloc HX2.out (.cells #[.string l[k].key, .string l[k].val, .bool l[k].gone] 27))
          have HYa := Aside0.mk (blk_new wr (.cells #[.string l[k].key, .string l[k].val, .bool l[k].gone] 27))
          have HBa := Aside0.mk (below_alloc HB2.out (.cells #[.string l[k].key, .string l[k].val, .bool l[k].gone] 27))
          have HNa := Aside0.mk (Kd.C_alloc HN.out (.cells #[.string l[k].key, .string l[k].val, .bool l[k].gone] 27))
          have HWK := Aside0.mk (fun e => wOk_no l k hlt e)
          clear r1
          go_wp2_with fail
          clear p0 p1 p2 x1
          generalize wr.alloc (.cells #[.string l[k].key, .string l[k].val, .bool l[k].gone] 27) = wa at *
          have HW0 := Aside0.mk (fun (h0 : k = 0) (e : (isKeyB l[k].key && isValB l[k].val && (!l[k].gone || l[k].val.size == 0)) = true) => (by subst h0; exact wOk_first l hlt true e : wOkAt l k = true))
          have HW1 := Aside0.mk (fun (m : Nat) (hm : k = m + 1) (e : (isKeyB l[k].key && isValB l[k].val && (!l[k].gone || l[k].val.size == 0)) = true) => (by subst hm; exact wOk_next l m hlt e : wOkAt l k = lessB (l[m]'(by omega)).key l[k].key))
          have y0 : wa.cell? ⟨wr.heap.size, 0, none⟩ = some (.string l[k].key) := (blk_cell HYa.out 0).trans rfl
          have y1 : wa.cell? ⟨wr.heap.size, 1, none⟩ = some (.string l[k].val) := (blk_cell HYa.out 1).trans rfl
          have y2 : wa.cell? ⟨wr.heap.size, 2, none⟩ = some (.bool l[k].gone) := (blk_cell HYa.out 2).trans rfl
          have z1 : wa.cell? ⟨w.heap.size, 1, none⟩ = some (.slice (some ad) l.length c) := (blk_cell HXa.out 1).trans rfl
          generalize l[k].key = key at *
          generalize l[k].val = val at *
          generalize l[k].gone = gone at *
          cases hk : isKeyB key with
          | false =>
            have HK := Aside0.mk hk
            have HV := Aside0.mk (rfl : isValB val = isValB val)
            clear hk
            have HWW := Aside0.mk (HWK.out (by rw [HK.out]; rfl))
            go_quiet ((first | (go_at_call 70; exact Calls.quiet_of_same (refIsKey_is _ _ HK.out _)) | (go_at_call 71; exact Calls.quiet_of_same (refIsVal_is _ _ HV.out _))))
            go_wp2_with fail
            exact ⟨⟨false, k + 1, rfl, by simp, by omega, ⟨by rw [HE.out, allFrom_step l (k) hlt, HWW.out]; simp⟩, ⟨pw_below_drewN HBa.out nq⟩, HXa⟩, by simp [intOf]; omega⟩
          | true =>
            have HK := Aside0.mk hk
            clear hk
            cases hv : isValB val with
            | false =>
              have HV := Aside0.mk hv
              clear hv
              have HWW := Aside0.mk (HWK.out (by rw [HK.out, HV.out]; rfl))
              go_quiet ((first | (go_at_call 70; exact Calls.quiet_of_same (refIsKey_is _ _ HK.out _)) | (go_at_call 71; exact Calls.quiet_of_same (refIsVal_is _ _ HV.out _))))
              go_wp2_with fail
              exact ⟨⟨false, k + 1, rfl, by simp, by omega, ⟨by rw [HE.out, allFrom_step l (k) hlt, HWW.out]; simp⟩, ⟨pw_below_drewN HBa.out nq⟩, HXa⟩, by simp [intOf]; omega⟩
            | true =>
              have HV := Aside0.mk hv
              clear hv
              cases he : val.toList.isEmpty with
              | false =>
                have HS := Aside0.mk (empty_size he)
                cases gone with
                | true =>
                  have HWW := Aside0.mk (HWK.out (by rw [HK.out, HV.out, HS.out]; rfl))
                  go_quiet ((first | (go_at_call 70; exact Calls.quiet_of_same (refIsKey_is _ _ HK.out _)) | (go_at_call 71; exact Calls.quiet_of_same (refIsVal_is _ _ HV.out _))))
                  go_wp2_with fail
                  exact ⟨⟨false, k + 1, rfl, by simp, by omega, ⟨by rw [HE.out, allFrom_step l (k) hlt, HWW.out]; simp⟩, ⟨pw_below_drewN HBa.out nq⟩, HXa⟩, by simp [intOf]; omega⟩
                | false =>
                  cases k with
                  | zero =>
                    have HWW := Aside0.mk (HW0.out rfl (by rw [HK.out, HV.out]; rfl))
                    go_quiet ((first | (go_at_call 70; exact Calls.quiet_of_same (refIsKey_is _ _ HK.out _)) | (go_at_call 71; exact Calls.quiet_of_same (refIsVal_is _ _ HV.out _))))
                    go_wp2_with fail
                    exact ⟨⟨true, 0 + 1, rfl, by simp, by omega, ⟨by rw [HE.out, allFrom_step l (0) hlt, HWW.out]; simp⟩, ⟨pw_below_drewN HBa.out nq⟩, HXa⟩, by simp [intOf]; omega⟩
                  | succ m =>
                    have hmn : m < l.length := by omega
                    have ez : ((m : Int) + 1 == 0) = false := by rw [beq_eq_false_iff_ne]; omega
                    have ew : IntKind.i64.wrap (m : Int) = m := by simp [IntKind.wrap, IntKind.bits, IntKind.signed]; omega
                    obtain ⟨u0, _, _⟩ := k27_cells HNa.out m (by omega)
                    have HWW := Aside0.mk (HW1.out m rfl (by rw [HK.out, HV.out]; rfl))
                    go_quiet ((first | (go_at_call 70; exact Calls.quiet_of_same (refIsKey_is _ _ HK.out _)) | (go_at_call 71; exact Calls.quiet_of_same (refIsVal_is _ _ HV.out _))))
                    go_wp2_with fail
                    exact ⟨⟨(lessB (l[m]'(by omega)).key key), m + 1 + 1, rfl, by simp, by omega, ⟨by rw [HE.out, allFrom_step l (m + 1) hlt, HWW.out]; simp⟩, ⟨pw_below_drewN HBa.out nq⟩, HXa⟩, by simp [intOf]; omega⟩
              | true =>
                have HS := Aside0.mk (empty_size he)
                cases gone with
                | true =>
                  cases k with
                  | zero =>
                    have HWW := Aside0.mk (HW0.out rfl (by rw [HK.out, HV.out, HS.out]; rfl))
                    go_quiet ((first | (go_at_call 70; exact Calls.quiet_of_same (refIsKey_is _ _ HK.out _)) | (go_at_call 71; exact Calls.quiet_of_same (refIsVal_is _ _ HV.out _))))
                    go_wp2_with fail
                    exact ⟨⟨true, 0 + 1, rfl, by simp, by omega, ⟨by rw [HE.out, allFrom_step l (0) hlt, HWW.out]; simp⟩, ⟨pw_below_drewN HBa.out nq⟩, HXa⟩, by simp [intOf]; omega⟩
                  | succ m =>
                    have hmn : m < l.length := by omega
                    have ez : ((m : Int) + 1 == 0) = false := by rw [beq_eq_false_iff_ne]; omega
                    have ew : IntKind.i64.wrap (m : Int) = m := by simp [IntKind.wrap, IntKind.bits, IntKind.signed]; omega
                    obtain ⟨u0, _, _⟩ := k27_cells HNa.out m (by omega)
                    have HWW := Aside0.mk (HW1.out m rfl (by rw [HK.out, HV.out, HS.out]; rfl))
                    go_quiet ((first | (go_at_call 70; exact Calls.quiet_of_same (refIsKey_is _ _ HK.out _)) | (go_at_call 71; exact Calls.quiet_of_same (refIsVal_is _ _ HV.out _))))
                    go_wp2_with fail
                    exact ⟨⟨(lessB (l[m]'(by omega)).key key), m + 1 + 1, rfl, by simp, by omega, ⟨by rw [HE.out, allFrom_step l (m + 1) hlt, HWW.out]; simp⟩, ⟨pw_below_drewN HBa.out nq⟩, HXa⟩, by simp [intOf]; omega⟩
                | false =>
                  cases k with
                  | zero =>
                    have HWW := Aside0.mk (HW0.out rfl (by rw [HK.out, HV.out]; rfl))
                    go_quiet ((first | (go_at_call 70; exact Calls.quiet_of_same (refIsKey_is _ _ HK.out _)) | (go_at_call 71; exact Calls.quiet_of_same (refIsVal_is _ _ HV.out _))))
                    go_wp2_with fail
                    exact ⟨⟨true, 0 + 1, rfl, by simp, by omega, ⟨by rw [HE.out, allFrom_step l (0) hlt, HWW.out]; simp⟩, ⟨pw_below_drewN HBa.out nq⟩, HXa⟩, by simp [intOf]; omega⟩
                  | succ m =>
                    have hmn : m < l.length := by omega
                    have ez : ((m : Int) + 1 == 0) = false := by rw [beq_eq_false_iff_ne]; omega
                    have ew : IntKind.i64.wrap (m : Int) = m := by simp [IntKind.wrap, IntKind.bits, IntKind.signed]; omega
                    obtain ⟨u0, _, _⟩ := k27_cells HNa.out m (by omega)
                    have HWW := Aside0.mk (HW1.out m rfl (by rw [HK.out, HV.out]; rfl))
                    go_quiet ((first | (go_at_call 70; exact Calls.quiet_of_same (refIsKey_is _ _ HK.out _)) | (go_at_call 71; exact Calls.quiet_of_same (refIsVal_is _ _ HV.out _))))
                    go_wp2_with fail
                    exact ⟨⟨(lessB (l[m]'(by omega)).key key), m + 1 + 1, rfl, by simp, by omega, ⟨by rw [HE.out, allFrom_step l (m + 1) hlt, HWW.out]; simp⟩, ⟨pw_below_drewN HBa.out nq⟩, HXa⟩, by simp [intOf]; omega⟩
        · go_wp2_with fail
          go_ret
          exact ⟨ret_bool (by rw [HE.out, show k = l.length by omega, allFrom_end]; rfl), HB2.out⟩
end Go.Proofs.Ytmemkmnnededgaa.H
