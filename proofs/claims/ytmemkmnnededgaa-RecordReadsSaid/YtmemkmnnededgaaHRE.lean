/- Contracts of the reference: RightManifest. -/
import Derived.Test.YtmemkmnnededgaaHRA
import Derived.Test.YtmemkmnnededgaaHL
namespace Go.Proofs.Ytmemkmnnededgaa.H
open Go.RowKit Go.Proofs.YtmemkmnnededgaaW.PrintWords Go.Proofs.YtmemkmnnededgaaW.PrintLast Go.Proofs.YtmemkmnnededgaaW.PrintMore
attribute [local go_sem] max2_int min2_int max_two min_two max_three min_three max_four min_four
set_option linter.unusedVariables false
set_option linter.unusedSimpArgs false

def numsUp (l : List P43) (i : Nat) : List Int := ((l.take i).map P43.num).reverse
theorem numsUp_succ (l : List P43) (i : Nat) (h : i < l.length) : numsUp l (i + 1) = l[i].num :: numsUp l i := by
  unfold numsUp
  rw [List.take_succ_eq_append_getElem h, List.map_append, List.reverse_append]
  rfl
theorem mem_numsUp (l : List P43) (i : Nat) (n : Int) (h : n ∈ numsUp l i) : ∃ j y, j < i ∧ l[j]? = some y ∧ y.num = n := by
  unfold numsUp at h
  rw [List.mem_reverse] at h
  obtain ⟨y, hy, e⟩ := List.mem_map.1 h
  obtain ⟨j, hj, rfl⟩ := List.getElem_of_mem hy
  rw [List.length_take] at hj
  exact ⟨j, _, by omega, by rw [List.getElem_take, List.getElem?_eq_getElem], e⟩
theorem numsUp_mem (l : List P43) (i j : Nat) (hj : j < i) (hl : j < l.length) : l[j].num ∈ numsUp l i := by
  unfold numsUp
  rw [List.mem_reverse]
  refine List.mem_map.2 ⟨l[j], ?_, rfl⟩
  have : j < (l.take i).length := by rw [List.length_take]; omega
  have e := List.getElem_take (xs := l) (h := this)
  rw [← e]
  exact List.getElem_mem this
theorem allPairs_at (l : List P43) (i : Nat) (a : Int) (h : i < l.length) : allPairs (l.drop i) (numsUp l i) a = if okP (numsUp l i) a l[i] = true then allPairs (l.drop (i + 1)) (numsUp l (i + 1)) l[i].to_ else none := by
  rw [List.drop_eq_getElem_cons h, numsUp_succ l i h]
  simp only [allPairs]
theorem rightM_rest (t g : Int) (l : List P43) (h1 : isTimeB t = true) (h2 : 1 ≤ g) (h3 : g ≤ 2147483647) (h4 : l.length ≤ 16) : rightM t g l = (match allPairs l [] 0 with | some a => a == t | none => false) := by
  unfold rightM
  have e : isNumB g = true := by unfold isNumB; rw [decide_eq_true_iff]; omega
  rw [h1, e, decide_eq_true h4]
  rfl
theorem rightM_num (t g : Int) (l : List P43) (h : g < 1 ∨ 2147483647 < g) : rightM t g l = false := by
  unfold rightM
  have e : isNumB g = false := by unfold isNumB; rw [decide_eq_false_iff_not]; omega
  rw [e]; simp
theorem rightM_len' (t g : Int) (l : List P43) (h : 16 < l.length) : rightM t g l = false := by
  unfold rightM
  rw [decide_eq_false (by omega : ¬ l.length ≤ 16)]; simp
theorem okP_no (S : List Int) (a : Int) (x : P43) (h : x.num < 1 ∨ 2147483647 < x.num ∨ x.from_ ≠ a ∨ x.to_ ≤ x.from_ ∨ x.num ∈ S) : okP S a x = false := by
  unfold okP isNumB
  rw [Bool.eq_false_iff]
  intro hh
  simp only [Bool.and_eq_true, decide_eq_true_eq, beq_iff_eq, Bool.not_eq_true', decide_eq_false_iff_not] at hh
  obtain ⟨⟨h1, h2⟩, h3, h4, h5⟩ := hh
  rcases h with h | h | h | h | h
  · omega
  · omega
  · exact h h4
  · omega
  · exact h3 h
theorem okP_yes (S : List Int) (a : Int) (x : P43) (h1 : 1 ≤ x.num) (h2 : x.num ≤ 2147483647) (h3 : x.from_ = a) (h4 : x.from_ < x.to_) (h5 : x.num ∉ S) : okP S a x = true := by
  unfold okP isNumB
  simp only [Bool.and_eq_true, decide_eq_true_eq, beq_iff_eq, Bool.not_eq_true', decide_eq_false_iff_not]
  exact ⟨⟨h1, h2⟩, h5, h3, h4⟩

set_option maxRecDepth 100000 in
set_option maxHeartbeats 6400000 in
theorem refRightManifest_any (t g : Int) (l : List P43) (A : Option Addr) (c : Nat) (w : World) (hr : k43.C w A l.length l) (hn : l.length < 9223372036854775807) :
    Calls Try.prog 51 #[.agg #[.int .i64 t, .int .i64 g, .slice A l.length c]] w fun e w' => e = .returned (.bool (rightM t g l)) ∧ Below w.heap.size w w' := by
  have HR := Aside0.mk hr
  have HB := Aside0.mk (below_alloc (Below.refl w.heap.size w) (.cells #[.int .i64 t, .int .i64 g, .slice A l.length c] 38))
  have HX := Aside0.mk (blk_new w (.cells #[.int .i64 t, .int .i64 g, .slice A l.length c] 38))
  clear hr
  cases hT : isTimeB t with
  | false =>
    have HT := Aside0.mk hT
    clear hT
    go_enter Try.func51, Try.ntmps51
    go_wp2_with fail
    refine (refTimed_is t _ HT.out _).mono ?_
    rintro e w1 ⟨rfl, rfl⟩
    go_wp2_with fail
    go_ret
    exact ⟨ret_bool (by unfold rightM; rw [HT.out]; rfl), HB.out⟩
  | true =>
    have HT := Aside0.mk hT
    clear hT
    by_cases g1 : g < 1
    · go_enter Try.func51, Try.ntmps51
      go_wp2_with fail
      refine (refTimed_is t _ HT.out _).mono ?_
      rintro e w1 ⟨rfl, rfl⟩
      go_wp2_with fail
      go_ret
      exact ⟨ret_bool (rightM_num t g l (Or.inl g1)).symm, HB.out⟩
    replace g1 : 1 ≤ g := by omega
    by_cases g2 : 2147483647 < g
    · go_enter Try.func51, Try.ntmps51
      go_wp2_with fail
      refine (refTimed_is t _ HT.out _).mono ?_
      rintro e w1 ⟨rfl, rfl⟩
      go_wp2_with fail
      go_ret
      exact ⟨ret_bool (rightM_num t g l (Or.inr g2)).symm, HB.out⟩
    replace g2 : g ≤ 2147483647 := by omega
    by_cases g3 : (16 : Int) < (l.length : Int)
    · go_enter Try.func51, Try.ntmps51
      go_wp2_with fail
      refine (refTimed_is t _ HT.out _).mono ?_
      rintro e w1 ⟨rfl, rfl⟩
      go_wp2_with fail
      go_ret
      exact ⟨ret_bool (rightM_len' t g l (by omega)).symm, HB.out⟩
    replace g3 : (l.length : Int) ≤ 16 := by omega
    have HRM := Aside0.mk (rightM_rest t g l HT.out g1 g2 (by omega))
    go_enter Try.func51, Try.ntmps51
    go_wp2_with fail
    refine (refTimed_is t _ HT.out _).mono ?_
    rintro e w1 ⟨rfl, rfl⟩
    generalize w.alloc (.cells #[.int .i64 t, .int .i64 g, .slice A l.length c] 38) = w1 at *
    have x1 : w1.cell? ⟨w.heap.size, 1, none⟩ = some (.int .i64 g) := (blk_cell HX.out 1).trans rfl
    have x2 : w1.cell? ⟨w.heap.size, 2, none⟩ = some (.slice A l.length c) := (blk_cell HX.out 2).trans rfl
    go_wp2_with fail
    clear x1 x2 g1 g2
    go_loopw [3, 4] (fun v3 v4 w' => ∃ (a : Int) (i : Nat), v3 = .int .i64 a ∧ v4 = .int .i64 i ∧ i ≤ l.length ∧ Aside0 (allPairs l [] 0 = allPairs (l.drop i) (numsUp l i) a) ∧ Aside0 (Below w.heap.size w w') ∧ Aside0 (w'.heap[w.heap.size]? = some (.cells #[.int .i64 t, .int .i64 g, .slice A l.length c] 38 (0, 0)))) (fun _ v4 _ => l.length - (intOf v4).toNat)
    case atStart => exact ⟨0, 0, rfl, rfl, Nat.zero_le _, ⟨rfl⟩, HB, HX⟩
    case round =>
      obtain ⟨a, i, rfl, rfl, hi, HE, HB2, HX2⟩ := hrel
      have x0 : wr.cell? ⟨w.heap.size, 0, none⟩ = some (.int .i64 t) := (blk_cell HX2.out 0).trans rfl
      have x2 : wr.cell? ⟨w.heap.size, 2, none⟩ = some (.slice A l.length c) := (blk_cell HX2.out 2).trans rfl
      by_cases hlt : i < l.length
      · have r1 := Kd.C_below HR.out HB2.out
        obtain ⟨ad, rfl, _⟩ := r1.2.2 (by omega)
        obtain ⟨p0, p1, p2⟩ := k43_cells r1 i hlt
        have HN := Aside0.mk r1
        have HAP := Aside0.mk (allPairs_at l i a hlt)
        have HNM := Aside0.mk (fun j (hj : j < i) (hl : j < l.length) => numsUp_mem l i j hj hl)
        clear r1
        generalize l[i] = x at *
        obtain ⟨num, fr, tt⟩ := x
        dsimp only at p0 p1 p2
        have HXa := Aside0.mk (blk_alloc HX2.out (.cells #[.int .i64 num, .int .i64 fr, .int .i64 tt] 43))
        have HYa := Aside0.mk (blk_new wr (.cells #[.int .i64 num, .int .i64 fr, .int .i64 tt] 43))
        have HBa := Aside0.mk (below_alloc HB2.out (.cells #[.int .i64 num, .int .i64 fr, .int .i64 tt] 43))
        have HRF := Aside0.mk (fun (ho : okP (numsUp l i) a ⟨num, fr, tt⟩ = false) => (by rw [HRM.out, HE.out, HAP.out, ho]; rfl : rightM t g l = false))
        by_cases b1 : num < 1
        · go_wp2_with fail
          go_ret
          exact ⟨ret_bool (HRF.out (okP_no _ _ _ (Or.inl b1))).symm, HBa.out⟩
        replace b1 : 1 ≤ num := by omega
        by_cases b2 : 2147483647 < num
        · go_wp2_with fail
          go_ret
          exact ⟨ret_bool (HRF.out (okP_no _ _ _ (Or.inr (Or.inl b2)))).symm, HBa.out⟩
        replace b2 : num ≤ 2147483647 := by omega
        by_cases b3 : fr = a
        · subst b3
          by_cases b4 : tt ≤ fr
          · go_wp2_with fail
            go_ret
            exact ⟨ret_bool (HRF.out (okP_no _ _ _ (Or.inr (Or.inr (Or.inr (Or.inl b4)))))).symm, HBa.out⟩
          replace b4 : fr < tt := by omega
          have HB1 := Aside0.mk b1
          have HB2' := Aside0.mk b2
          have HB4 := Aside0.mk b4
          go_wp2_with fail
          clear p0 p1 p2 x0 x2 b1 b2 b4
          generalize wr.alloc (.cells #[.int .i64 num, .int .i64 fr, .int .i64 tt] 43) = wa at *
          generalize wr.heap.size = pb at *
          go_loopw [6] (fun v6 w' => ∃ (k : Nat), v6 = .int .i64 k ∧ k ≤ i ∧ Aside0 (∀ j y, j < k → l[j]? = some y → y.num ≠ num) ∧ Aside0 (Below w.heap.size w w') ∧ Aside0 (w'.heap[w.heap.size]? = some (.cells #[.int .i64 t, .int .i64 g, .slice (some ad) l.length c] 38 (0, 0))) ∧ Aside0 (w'.heap[pb]? = some (.cells #[.int .i64 num, .int .i64 fr, .int .i64 tt] 43 (0, 0)))) (fun v6 _ => i - (intOf v6).toNat)
          case atStart => exact ⟨0, rfl, Nat.zero_le _, ⟨fun j y hj => absurd hj (Nat.not_lt_zero j)⟩, HBa, HXa, HYa⟩
          case round =>
            obtain ⟨k, rfl, hk, HF, HBk, HXk, HYk⟩ := hrel
            have z2 : wr.cell? ⟨w.heap.size, 2, none⟩ = some (.slice (some ad) l.length c) := (blk_cell HXk.out 2).trans rfl
            by_cases hki : k < i
            · have hkl : k < l.length := by omega
              obtain ⟨q0, q1, q2⟩ := k43_cells (Kd.C_below HR.out HBk.out) k hkl
              have y0 : wr.cell? ⟨pb, 0, none⟩ = some (.int .i64 num) := (blk_cell HYk.out 0).trans rfl
              have HMM := Aside0.mk (HNM.out k hki hkl)
              have HGE := Aside0.mk (List.getElem?_eq_getElem hkl)
              generalize l[k] = y at *
              obtain ⟨yn, yf, yt⟩ := y
              dsimp only at q0 q1 q2
              by_cases he : yn = num
              · have he' : (yn == num) = true := beq_iff_eq.mpr he
                have HEE := Aside0.mk he
                clear he
                go_wp2_with fail
                go_quiet (fail)
                go_wp2_with fail
                go_ret
                exact ⟨ret_bool (HRF.out (okP_no _ _ _ (Or.inr (Or.inr (Or.inr (Or.inr (by have := HMM.out; rw [HEE.out] at this; exact this))))))).symm, pw_below_drewN HBk.out nq⟩
              · have he' : (yn == num) = false := beq_eq_false_iff_ne.mpr he
                have HEE := Aside0.mk he
                clear he
                go_wp2_with fail
                go_quiet (fail)
                go_wp2_with fail
                refine ⟨⟨k + 1, by simp, by omega, ⟨fun j y hj hy => ?_⟩, ⟨pw_below_drewN HBk.out nq⟩, HXk, HYk⟩, by simp [intOf]; omega⟩
                rcases Nat.lt_or_ge j k with h1 | h1
                · exact HF.out j y h1 hy
                · have : j = k := by omega
                  subst this
                  rw [HGE.out] at hy
                  cases hy
                  exact HEE.out
            · have y2 : wr.cell? ⟨pb, 2, none⟩ = some (.int .i64 tt) := (blk_cell HYk.out 2).trans rfl
              have hki' : k = i := by omega
              have HNI := Aside0.mk (show num ∉ numsUp l i from fun hm => by
                obtain ⟨j, y, hj, hy, e⟩ := mem_numsUp l i num hm
                exact HF.out j y (by omega) hy e)
              subst hki'
              go_wp2_with fail
              exact ⟨⟨tt, k + 1, rfl, by simp, by omega, ⟨by rw [HE.out, HAP.out, if_pos (okP_yes (numsUp l k) fr ⟨num, fr, tt⟩ HB1.out HB2'.out rfl HB4.out HNI.out)]⟩, HBk, HXk⟩, by simp [intOf]; omega⟩
        · have b3' : (fr != a) = true := bne_iff_ne.mpr b3
          have HB3 := Aside0.mk b3
          clear b3
          go_wp2_with fail
          go_ret
          exact ⟨ret_bool (HRF.out (okP_no _ _ _ (Or.inr (Or.inr (Or.inl HB3.out))))).symm, HBa.out⟩
      · have HIL := Aside0.mk (show i = l.length by omega)
        go_wp2_with fail
        go_ret
        refine ⟨ret_bool ?_, HB2.out⟩
        rw [HRM.out, HE.out, HIL.out, List.drop_length]
        rfl
end Go.Proofs.Ytmemkmnnededgaa.H
