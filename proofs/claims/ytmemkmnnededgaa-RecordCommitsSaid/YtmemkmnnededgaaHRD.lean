/- The law RecordCommits, walked: it returns true at any commit whose writes take at most the form's own reach. -/
import Derived.Test.YtmemkmnnededgaaHRC
import Derived.Test.YtmemkmnnededgaaHZ
namespace Go.Proofs.Ytmemkmnnededgaa.H
open Go.RowKit Go.Proofs.YtmemkmnnededgaaW.PrintWords Go.Proofs.YtmemkmnnededgaaW.PrintLast Go.Proofs.YtmemkmnnededgaaW.PrintMore
attribute [local go_sem] max2_int min2_int max_two min_two max_three min_three max_four min_four
set_option linter.unusedVariables false
set_option linter.unusedSimpArgs false

def markW : W27 := ⟨⟨#[109, 97, 114, 107]⟩, ⟨#[]⟩, false⟩
theorem R_new27 (W : World) (base : Nat) (hb : base ≤ W.heap.size) : k27.R 27 (W.alloc (.cells #[] 27)) base (fun _ => True) (.slice (some ⟨W.heap.size, 0, none⟩) 0 0) [] := by
  have h2 := World.ownsRow_lit (base := base) (e := 27) (size := 3) W #[] 0 hb (by decide) rfl
  exact ⟨fun _ _ => trivial, [], h2, ⟨rfl, fun j p hj => by simp at hj⟩⟩
theorem C_mark {W : World} {g : Nat} {k v : ByteArray} {b : Bool} (h : W.heap[g]? = some (.cells #[.string k, .string v, .bool b] 27 (0, 0))) : k27.C W (some ⟨g, 0, none⟩) 1 [⟨k, v, b⟩] := by
  refine ⟨rfl, by decide, fun _ => ⟨_, rfl, fun j p hj => ?_⟩⟩
  match j, hj with
  | 0, hj =>
    cases hj
    refine ⟨[.string k, .string v, .bool b], rfl, ⟨[.string k], [.string v, .bool b], rfl, rfl, ⟨[.string v], [.bool b], rfl, rfl, rfl⟩⟩, fun i u hu => ?_⟩
    match i, hu with
    | 0, hu => cases hu; exact (blk_cell h 0).trans rfl
    | 1, hu => cases hu; exact (blk_cell h 1).trans rfl
    | 2, hu => cases hu; exact (blk_cell h 2).trans rfl

set_option maxRecDepth 100000 in
set_option maxHeartbeats 6400000 in
theorem recordCommits_any (t : Int) (l : List W27) (A : Option Addr) (c : Nat) (w : World) (hr : k27.C w A l.length l) (hby : l.length * 40 ≤ 140737488351232) :
    Calls Try.prog 3 #[.agg #[.int .i64 t, .slice A l.length c]] w fun e w' => e = .returned (.bool true) ∧ Below w.heap.size w w' := by
  have HR := Aside0.mk hr
  have HBY := Aside0.mk hby
  have HB := Aside0.mk (below_alloc (Below.refl w.heap.size w) (.cells #[.int .i64 t, .slice A l.length c] 24))
  have HX := Aside0.mk (blk_new w (.cells #[.int .i64 t, .slice A l.length c] 24))
  clear hr hby
  go_enter Try.func3, Try.ntmps3
  go_wp2_with fail
  generalize w.alloc (.cells #[.int .i64 t, .slice A l.length c] 24) = w1 at *
  refine (shown_any w1).mono ?_
  rintro e w2 ⟨rfl, hb⟩
  have HB2 := Aside0.mk (below_then HB.out HB.out.size hb)
  have HX2 := Aside0.mk (blk_below HX.out hb)
  clear hb HB HX
  go_upto_region 2 with fail
  go_cut [4] (fun v4 wc => ∃ (q : Nat) (A21 : Option Addr) (c21 : Nat), v4 = .pointer (some ⟨q, 0, none⟩) ∧ Aside0 (wc.heap[q]? = some (.cells #[.int .i64 t, .slice A21 (l.length + 1) c21] 24 (0, 0))) ∧ Aside0 (k27.R 27 wc w.heap.size (fun _ => True) (.slice A21 (l.length + 1) c21) (l ++ [markW])) ∧ Aside0 (Below w.heap.size w wc) ∧ Aside0 (w.heap.size < q) ∧ Aside0 (wc.heap[w.heap.size]? = some (.cells #[.int .i64 t, .slice A l.length c] 24 (0, 0))))
  case first =>
    refine start_ (n := 12) (S := fun w' => w'.cell? ⟨w.heap.size, 0, none⟩ = some (.int .i64 t) ∧ w'.cell? ⟨w.heap.size, 1, none⟩ = some (.slice A l.length c)) (ds := [11]) #[false, false, false, false, false, false, false, false, false, false, false, false] (by kernel_rfl) rfl rfl ⟨(blk_cell HX2.out 0).trans rfl, (blk_cell HX2.out 1).trans rfl⟩ (fun hHeld => ?_)
    have HB3 := Aside0.mk (below_drew HB2.out)
    have HX3 := Aside0.mk (blk_drew HX2.out)
    clear HB2 HX2
    generalize w2.drew = w3 at *
    refine pure_ (i := 0) (N := (some 13)) (v := ?_) (a' := ?_) #[true, false, false, false, false, false, false, false, false, false, false, false] rfl rfl (by kernel_rfl) (fun _ _ _ h => h) (Or.inl ⟨by rfl, ?_⟩) ?_ ?_
    rotate_left
    · intro w'
      go_simp
      with_reducible rfl
    rotate_left
    · simp only [Act.put, List.setIfInBounds_toArray, List.set_cons_zero, List.set_cons_succ, i64_w, i32_w]
      rfl
    refine take_ (i := 1) (N := (some 14)) (v := ?_) (a' := ?_) #[true, true, false, false, false, false, false, false, false, false, false, false] rfl rfl (by kernel_rfl) (fun _ _ _ h => h) (Or.inl ⟨by rfl, ?_⟩) hHeld ?_ ?_
    rotate_left
    · rintro w' ⟨s0, s1⟩
      go_simp
      with_reducible rfl
    rotate_left
    · simp only [Act.put, List.setIfInBounds_toArray, List.set_cons_zero, List.set_cons_succ, i64_w, i32_w]
      rfl
    refine pure_ (i := 3) (N := (some 16)) (v := ?_) (a' := ?_) #[true, true, false, true, false, false, false, false, false, false, false, false] rfl rfl (by kernel_rfl) (fun _ _ _ h => h) (Or.inl ⟨by rfl, ?_⟩) ?_ ?_
    rotate_left
    · intro w'
      go_simp
      with_reducible rfl
    rotate_left
    · simp only [Act.put, List.setIfInBounds_toArray, List.set_cons_zero, List.set_cons_succ, i64_w, i32_w]
      rfl
    refine take_ (i := 4) (N := (some 17)) (v := ?_) (a' := ?_) #[true, true, false, true, true, false, false, false, false, false, false, false] rfl rfl (by kernel_rfl) (fun _ _ _ h => h) (Or.inl ⟨by rfl, ?_⟩) hHeld ?_ ?_
    rotate_left
    · rintro w' ⟨s0, s1⟩
      go_simp
      with_reducible rfl
    rotate_left
    · simp only [Act.put, List.setIfInBounds_toArray, List.set_cons_zero, List.set_cons_succ, i64_w, i32_w]
      rfl
    refine pure_ (i := 6) (N := (some 19)) (v := ?_) (a' := ?_) #[true, true, false, true, true, false, true, false, false, false, false, false] rfl rfl (by kernel_rfl) (fun _ _ _ h => h) (Or.inl ⟨by rfl, ?_⟩) ?_ ?_
    rotate_left
    · intro w'
      go_simp
      with_reducible rfl
    rotate_left
    · simp only [Act.put, List.setIfInBounds_toArray, List.set_cons_zero, List.set_cons_succ, i64_w, i32_w]
      rfl
    refine three_ (i := 2) (j := 7) (k := 10) (Ni := (some 15)) (Nj := (some 20)) (Nk := (some 4)) #[true, true, true, true, true, false, true, false, false, false, false, false] #[true, true, false, true, true, false, true, true, false, false, false, false] #[true, true, false, true, true, false, true, false, false, false, true, false] rfl rfl rfl rfl rfl rfl (by kernel_rfl) (by decide) (by decide) (by decide) (fun K hK => ?_) (fun K hK => ?_) (fun K hK => ?_)
    · refine value_ (w1 := ?_) (v := ?_) (by rfl) rfl ?_ ?_
      rotate_left 2
      · go_simp
        constructor
        · rfl
        · rfl
      have B_1 := Aside0.mk (below_alloc HB3.out (.cells #[] 27))
      have X_1 := Aside0.mk (blk_alloc HX3.out (.cells #[] 27))
      have O15_1 := Aside0.mk (R_new27 w3 w.heap.size HB3.out.size)
      have LX_1 := Aside0.mk (show w3.heap.size < (w3.alloc (.cells #[] 27)).heap.size by rw [size_alloc]; omega)
      refine hK.out _ _ ⟨(blk_cell X_1.out 0).trans rfl, (blk_cell X_1.out 1).trans rfl⟩ (fun hHeld => ?_)
      clear hK K HB3 HX3
      refine norm_ (a' := ?_) ?_ ?_
      rotate_left
      · show Act.put _ (some 15) _ = _
        simp only [Act.put, List.setIfInBounds_toArray, List.set_cons_zero, List.set_cons_succ, i64_w, i32_w]
        rfl
      generalize w3.alloc (.cells #[] 27) = wn1 at *
      refine three_ (i := 5) (j := 7) (k := 10) (Ni := (some 18)) (Nj := (some 20)) (Nk := (some 4)) #[true, true, true, true, true, true, true, false, false, false, false, false] #[true, true, true, true, true, false, true, true, false, false, false, false] #[true, true, true, true, true, false, true, false, false, false, true, false] rfl rfl rfl rfl rfl rfl (by kernel_rfl) (by decide) (by decide) (by decide) (fun K hK => ?_) (fun K hK => ?_) (fun K hK => ?_)
      · refine Kd.R_append_rows_step k27 (w0 := w) w.heap.size (by rfl) (.tmp 15) (.tmp 17) 22 27 (.agg #[.string ⟨#[]⟩, .string ⟨#[]⟩, .bool false]) 40 rfl Try.underlying22 info27 rfl (by decide) (by decide) _ ([] : List W27) l A l.length c (fun _ => True) (fun _ => False) rfl rfl O15_1.out (Kd.C_below HR.out B_1.out) (fun _ _ h => h) (fun _ h => h.elim) (fun _ _ => trivial) B_1.out B_1.out.size (by have := HBY.out; simp; omega) ?_
        intro v18 wn2 ho hb hg hat
        have B_2 := Aside0.mk hb
        have X_2 := Aside0.mk (blk_grown X_1.out hg (Kd.R_ne O15_1.out X_1.out (by decide)))
        have O18_2 := Aside0.mk ho
        refine hK.out _ _ ⟨(blk_cell X_2.out 0).trans rfl, (blk_cell X_2.out 1).trans rfl⟩ (fun hHeld => ?_)
        clear hK K ho hb hg hat B_1 X_1 O15_1 LX_1
        refine norm_ (a' := ?_) ?_ ?_
        rotate_left
        · show Act.put _ (some 18) _ = _
          simp only [Act.put, List.setIfInBounds_toArray, List.set_cons_zero, List.set_cons_succ, i64_w, i32_w]
          rfl
        refine two_ (i := 7) (j := 10) (Ni := (some 20)) (Nj := (some 4)) #[true, true, true, true, true, true, true, true, false, false, false, false] #[true, true, true, true, true, true, true, false, false, false, true, false] rfl rfl rfl rfl (by kernel_rfl) (by decide) (by decide) (fun K hK => ?_) (fun K hK => ?_)
        · refine value_ (w1 := ?_) (v := ?_) (by rfl) rfl ?_ ?_
          rotate_left 2
          · go_simp
            constructor
            · rfl
            · rfl
          have B_3 := Aside0.mk (below_alloc B_2.out (.cells #[.string ⟨#[109, 97, 114, 107]⟩, .string ⟨#[]⟩, .bool false] 27))
          have X_3 := Aside0.mk (blk_alloc X_2.out (.cells #[.string ⟨#[109, 97, 114, 107]⟩, .string ⟨#[]⟩, .bool false] 27))
          have O18_3 := Aside0.mk (Kd.R_alloc O18_2.out (.cells #[.string ⟨#[109, 97, 114, 107]⟩, .string ⟨#[]⟩, .bool false] 27))
          have G_3 := Aside0.mk (blk_new wn2 (.cells #[.string ⟨#[109, 97, 114, 107]⟩, .string ⟨#[]⟩, .bool false] 27))
          have LG_3 := Aside0.mk (show wn2.heap.size < (wn2.alloc (.cells #[.string ⟨#[109, 97, 114, 107]⟩, .string ⟨#[]⟩, .bool false] 27)).heap.size by rw [size_alloc]; omega)
          refine hK.out _ _ ⟨(blk_cell X_3.out 0).trans rfl, (blk_cell X_3.out 1).trans rfl⟩ (fun hHeld => ?_)
          clear hK K B_2 X_2 O18_2
          refine norm_ (a' := ?_) ?_ ?_
          rotate_left
          · show Act.put _ (some 20) _ = _
            simp only [Act.put, List.setIfInBounds_toArray, List.set_cons_zero, List.set_cons_succ, i64_w, i32_w]
            rfl
          generalize wn2.alloc (.cells #[.string ⟨#[109, 97, 114, 107]⟩, .string ⟨#[]⟩, .bool false] 27) = wn3 at *
          refine two_ (i := 8) (j := 10) (Ni := (some 21)) (Nj := (some 4)) #[true, true, true, true, true, true, true, true, true, false, false, false] #[true, true, true, true, true, true, true, true, false, false, true, false] rfl rfl rfl rfl (by kernel_rfl) (by decide) (by decide) (fun K hK => ?_) (fun K hK => ?_)
          · refine Kd.R_append_rows_step k27 (w0 := w) w.heap.size (by rfl) (.tmp 18) (.tmp 20) 22 27 (.agg #[.string ⟨#[]⟩, .string ⟨#[]⟩, .bool false]) 40 rfl Try.underlying22 info27 rfl (by decide) (by decide) _ ([] ++ l) [markW] _ 1 1 (fun _ => True) (fun _ => False) rfl rfl O18_3.out (C_mark G_3.out) (fun _ _ h => h) (fun _ h => h.elim) (fun _ _ => trivial) B_3.out B_3.out.size (by have := HBY.out; simp; omega) ?_
            intro v21 wn4 ho hb hg hat
            have B_4 := Aside0.mk hb
            have X_4 := Aside0.mk (blk_grown X_3.out hg (Kd.R_ne O18_3.out X_3.out (by decide)))
            obtain ⟨A21, c21, rfl⟩ := Kd.R_slice ho
            have hL : ([] ++ l ++ [markW]).length = l.length + 1 := by simp
            rw [hL] at ho ⊢
            clear hL
            have O21_4 := Aside0.mk ho
            refine hK.out _ _ ⟨(blk_cell X_4.out 0).trans rfl, (blk_cell X_4.out 1).trans rfl⟩ (fun hHeld => ?_)
            clear hK K ho hb hg hat B_3 X_3 O18_3 G_3 LG_3
            refine norm_ (a' := ?_) ?_ ?_
            rotate_left
            · show Act.put _ (some 21) _ = _
              simp only [Act.put, List.setIfInBounds_toArray, List.set_cons_zero, List.set_cons_succ, i64_w, i32_w]
              rfl
            refine pure_ (i := 9) (N := (some 22)) (v := ?_) (a' := ?_) #[true, true, true, true, true, true, true, true, true, true, false, false] rfl rfl (by kernel_rfl) (fun _ _ _ h => h) (Or.inl ⟨by rfl, ?_⟩) ?_ ?_
            rotate_left
            · intro w'
              go_simp
              with_reducible rfl
            rotate_left
            · simp only [Act.put, List.setIfInBounds_toArray, List.set_cons_zero, List.set_cons_succ, i64_w, i32_w]
              rfl
            refine one_ (i := 10) (N := (some 4)) #[true, true, true, true, true, true, true, true, true, true, true, false] rfl rfl (by kernel_rfl) (by decide) (fun K hK => ?_)
            refine value_ (w1 := ?_) (v := ?_) (by rfl) rfl ?_ ?_
            rotate_left 2
            · go_simp
              constructor
              · rfl
              · rfl
            have B_5 := Aside0.mk (below_alloc B_4.out (.cells #[.int .i64 0, .slice none 0 0] 24))
            have X_5 := Aside0.mk (blk_alloc X_4.out (.cells #[.int .i64 0, .slice none 0 0] 24))
            have O21_5 := Aside0.mk (Kd.R_alloc O21_4.out (.cells #[.int .i64 0, .slice none 0 0] 24))
            have Q_5 := Aside0.mk (blk_new wn4 (.cells #[.int .i64 0, .slice none 0 0] 24))
            have QB_5 := Aside0.mk (blk_lt X_4.out)
            refine hK.out _ _ ⟨(blk_cell X_5.out 0).trans rfl, (blk_cell X_5.out 1).trans rfl⟩ (fun hHeld => ?_)
            clear hK K B_4 X_4 O21_4
            refine norm_ (a' := ?_) ?_ ?_
            rotate_left
            · show Act.put _ (some 4) _ = _
              simp only [Act.put, List.setIfInBounds_toArray, List.set_cons_zero, List.set_cons_succ, i64_w, i32_w]
              rfl
            generalize wn4.alloc (.cells #[.int .i64 0, .slice none 0 0] 24) = wn5 at *
            refine last_ (i := 11) (N := none) #[true, true, true, true, true, true, true, true, true, true, true, true] rfl rfl (by kernel_rfl) (by decide) (fun K hK => ?_)
            have f0 := blk_frozen Q_5.out 0
            have f1 := blk_frozen Q_5.out 1
            have c0 := (blk_cell Q_5.out 0).trans rfl
            have c1 := (blk_cell Q_5.out 1).trans rfl
            go_simp
            refine hK.out _ _ ?_
            clear hK K hHeld f0 f1 c0 c1
            refine done_ (by kernel_rfl) ?_
            have hx := blk_far (blk_far X_5.out (p := ⟨wn4.heap.size, 0, none⟩) (Nat.ne_of_lt QB_5.out) (.int .i64 t)) (p := ⟨wn4.heap.size, 1, none⟩) (Nat.ne_of_lt QB_5.out) (.slice A21 (l.length + 1) c21)
            have hq := blk_put (blk_put Q_5.out 0 (.int .i64 t) rfl) 1 (.slice A21 (l.length + 1) c21) rfl
            have ho := Kd.R_set (Kd.R_set O21_5.out Q_5.out (by simp [k27, Kd.iso, Kd.pair, Kd.string, Kd.bool, Kd.scalar]) 0 (.int .i64 t)) (blk_put Q_5.out 0 (.int .i64 t) rfl) (by simp [k27, Kd.iso, Kd.pair, Kd.string, Kd.bool, Kd.scalar]) 1 (.slice A21 (l.length + 1) c21)
            have hb := Below.setCell (Below.setCell B_5.out (p := ⟨wn4.heap.size, 0, none⟩) (Nat.le_of_lt QB_5.out) (.int .i64 t)) (p := ⟨wn4.heap.size, 1, none⟩) (Nat.le_of_lt QB_5.out) (.slice A21 (l.length + 1) c21)
            have HFIN := Aside0.mk (And.intro hx (And.intro hq (And.intro ho hb)))
            clear hx hq ho hb B_5 X_5 O21_5 Q_5
            go_wp2
            go_meet
            case rel => exact ⟨wn4.heap.size, A21, c21, rfl, ⟨HFIN.out.2.1⟩, ⟨HFIN.out.2.2.1⟩, ⟨HFIN.out.2.2.2⟩, QB_5, ⟨HFIN.out.1⟩⟩
          · refine value_ (w1 := ?_) (v := ?_) (by rfl) rfl ?_ ?_
            rotate_left 2
            · go_simp
              constructor
              · rfl
              · rfl
            have B_6 := Aside0.mk (below_alloc B_3.out (.cells #[.int .i64 0, .slice none 0 0] 24))
            have X_6 := Aside0.mk (blk_alloc X_3.out (.cells #[.int .i64 0, .slice none 0 0] 24))
            have O18_6 := Aside0.mk (Kd.R_alloc O18_3.out (.cells #[.int .i64 0, .slice none 0 0] 24))
            have G_6 := Aside0.mk (blk_alloc G_3.out (.cells #[.int .i64 0, .slice none 0 0] 24))
            have LG_6 := Aside0.mk (show wn2.heap.size < (wn3.alloc (.cells #[.int .i64 0, .slice none 0 0] 24)).heap.size by have := LG_3.out; rw [size_alloc]; omega)
            have Q_6 := Aside0.mk (blk_new wn3 (.cells #[.int .i64 0, .slice none 0 0] 24))
            have QB_6 := Aside0.mk (blk_lt X_3.out)
            refine hK.out _ _ ⟨(blk_cell X_6.out 0).trans rfl, (blk_cell X_6.out 1).trans rfl⟩ (fun hHeld => ?_)
            clear hK K B_3 X_3 O18_3 G_3 LG_3
            refine norm_ (a' := ?_) ?_ ?_
            rotate_left
            · show Act.put _ (some 4) _ = _
              simp only [Act.put, List.setIfInBounds_toArray, List.set_cons_zero, List.set_cons_succ, i64_w, i32_w]
              rfl
            generalize wn3.alloc (.cells #[.int .i64 0, .slice none 0 0] 24) = wn6 at *
            refine one_ (i := 8) (N := (some 21)) #[true, true, true, true, true, true, true, true, true, false, true, false] rfl rfl (by kernel_rfl) (by decide) (fun K hK => ?_)
            refine Kd.R_append_rows_step k27 (w0 := w) w.heap.size (by rfl) (.tmp 18) (.tmp 20) 22 27 (.agg #[.string ⟨#[]⟩, .string ⟨#[]⟩, .bool false]) 40 rfl Try.underlying22 info27 rfl (by decide) (by decide) _ ([] ++ l) [markW] _ 1 1 (fun _ => True) (fun _ => False) rfl rfl O18_6.out (C_mark G_6.out) (fun _ _ h => h) (fun _ h => h.elim) (fun _ _ => trivial) B_6.out B_6.out.size (by have := HBY.out; simp; omega) ?_
            intro v21 wn7 ho hb hg hat
            have B_7 := Aside0.mk hb
            have X_7 := Aside0.mk (blk_grown X_6.out hg (Kd.R_ne O18_6.out X_6.out (by decide)))
            have Q_7 := Aside0.mk (blk_grown Q_6.out hg (Kd.R_ne O18_6.out Q_6.out (by decide)))
            obtain ⟨A21, c21, rfl⟩ := Kd.R_slice ho
            have hL : ([] ++ l ++ [markW]).length = l.length + 1 := by simp
            rw [hL] at ho ⊢
            clear hL
            have O21_7 := Aside0.mk ho
            refine hK.out _ _ ⟨(blk_cell X_7.out 0).trans rfl, (blk_cell X_7.out 1).trans rfl⟩ (fun hHeld => ?_)
            clear hK K ho hb hg hat B_6 X_6 O18_6 G_6 LG_6 Q_6
            refine norm_ (a' := ?_) ?_ ?_
            rotate_left
            · show Act.put _ (some 21) _ = _
              simp only [Act.put, List.setIfInBounds_toArray, List.set_cons_zero, List.set_cons_succ, i64_w, i32_w]
              rfl
            refine pure_ (i := 9) (N := (some 22)) (v := ?_) (a' := ?_) #[true, true, true, true, true, true, true, true, true, true, true, false] rfl rfl (by kernel_rfl) (fun _ _ _ h => h) (Or.inl ⟨by rfl, ?_⟩) ?_ ?_
            rotate_left
            · intro w'
              go_simp
              with_reducible rfl
            rotate_left
            · simp only [Act.put, List.setIfInBounds_toArray, List.set_cons_zero, List.set_cons_succ, i64_w, i32_w]
              rfl
            refine last_ (i := 11) (N := none) #[true, true, true, true, true, true, true, true, true, true, true, true] rfl rfl (by kernel_rfl) (by decide) (fun K hK => ?_)
            have f0 := blk_frozen Q_7.out 0
            have f1 := blk_frozen Q_7.out 1
            have c0 := (blk_cell Q_7.out 0).trans rfl
            have c1 := (blk_cell Q_7.out 1).trans rfl
            go_simp
            refine hK.out _ _ ?_
            clear hK K hHeld f0 f1 c0 c1
            refine done_ (by kernel_rfl) ?_
            have hx := blk_far (blk_far X_7.out (p := ⟨wn3.heap.size, 0, none⟩) (Nat.ne_of_lt QB_6.out) (.int .i64 t)) (p := ⟨wn3.heap.size, 1, none⟩) (Nat.ne_of_lt QB_6.out) (.slice A21 (l.length + 1) c21)
            have hq := blk_put (blk_put Q_7.out 0 (.int .i64 t) rfl) 1 (.slice A21 (l.length + 1) c21) rfl
            have ho := Kd.R_set (Kd.R_set O21_7.out Q_7.out (by simp [k27, Kd.iso, Kd.pair, Kd.string, Kd.bool, Kd.scalar]) 0 (.int .i64 t)) (blk_put Q_7.out 0 (.int .i64 t) rfl) (by simp [k27, Kd.iso, Kd.pair, Kd.string, Kd.bool, Kd.scalar]) 1 (.slice A21 (l.length + 1) c21)
            have hb := Below.setCell (Below.setCell B_7.out (p := ⟨wn3.heap.size, 0, none⟩) (Nat.le_of_lt QB_6.out) (.int .i64 t)) (p := ⟨wn3.heap.size, 1, none⟩) (Nat.le_of_lt QB_6.out) (.slice A21 (l.length + 1) c21)
            have HFIN := Aside0.mk (And.intro hx (And.intro hq (And.intro ho hb)))
            clear hx hq ho hb B_7 X_7 Q_7 O21_7
            go_wp2
            go_meet
            case rel => exact ⟨wn3.heap.size, A21, c21, rfl, ⟨HFIN.out.2.1⟩, ⟨HFIN.out.2.2.1⟩, ⟨HFIN.out.2.2.2⟩, QB_6, ⟨HFIN.out.1⟩⟩
        · refine value_ (w1 := ?_) (v := ?_) (by rfl) rfl ?_ ?_
          rotate_left 2
          · go_simp
            constructor
            · rfl
            · rfl
          have B_8 := Aside0.mk (below_alloc B_2.out (.cells #[.int .i64 0, .slice none 0 0] 24))
          have X_8 := Aside0.mk (blk_alloc X_2.out (.cells #[.int .i64 0, .slice none 0 0] 24))
          have O18_8 := Aside0.mk (Kd.R_alloc O18_2.out (.cells #[.int .i64 0, .slice none 0 0] 24))
          have Q_8 := Aside0.mk (blk_new wn2 (.cells #[.int .i64 0, .slice none 0 0] 24))
          have QB_8 := Aside0.mk (blk_lt X_2.out)
          refine hK.out _ _ ⟨(blk_cell X_8.out 0).trans rfl, (blk_cell X_8.out 1).trans rfl⟩ (fun hHeld => ?_)
          clear hK K B_2 X_2 O18_2
          refine norm_ (a' := ?_) ?_ ?_
          rotate_left
          · show Act.put _ (some 4) _ = _
            simp only [Act.put, List.setIfInBounds_toArray, List.set_cons_zero, List.set_cons_succ, i64_w, i32_w]
            rfl
          generalize wn2.alloc (.cells #[.int .i64 0, .slice none 0 0] 24) = wn8 at *
          refine one_ (i := 7) (N := (some 20)) #[true, true, true, true, true, true, true, true, false, false, true, false] rfl rfl (by kernel_rfl) (by decide) (fun K hK => ?_)
          refine value_ (w1 := ?_) (v := ?_) (by rfl) rfl ?_ ?_
          rotate_left 2
          · go_simp
            constructor
            · rfl
            · rfl
          have B_9 := Aside0.mk (below_alloc B_8.out (.cells #[.string ⟨#[109, 97, 114, 107]⟩, .string ⟨#[]⟩, .bool false] 27))
          have X_9 := Aside0.mk (blk_alloc X_8.out (.cells #[.string ⟨#[109, 97, 114, 107]⟩, .string ⟨#[]⟩, .bool false] 27))
          have O18_9 := Aside0.mk (Kd.R_alloc O18_8.out (.cells #[.string ⟨#[109, 97, 114, 107]⟩, .string ⟨#[]⟩, .bool false] 27))
          have Q_9 := Aside0.mk (blk_alloc Q_8.out (.cells #[.string ⟨#[109, 97, 114, 107]⟩, .string ⟨#[]⟩, .bool false] 27))
          have G_9 := Aside0.mk (blk_new wn8 (.cells #[.string ⟨#[109, 97, 114, 107]⟩, .string ⟨#[]⟩, .bool false] 27))
          have LG_9 := Aside0.mk (show wn8.heap.size < (wn8.alloc (.cells #[.string ⟨#[109, 97, 114, 107]⟩, .string ⟨#[]⟩, .bool false] 27)).heap.size by rw [size_alloc]; omega)
          refine hK.out _ _ ⟨(blk_cell X_9.out 0).trans rfl, (blk_cell X_9.out 1).trans rfl⟩ (fun hHeld => ?_)
          clear hK K B_8 X_8 O18_8 Q_8
          refine norm_ (a' := ?_) ?_ ?_
          rotate_left
          · show Act.put _ (some 20) _ = _
            simp only [Act.put, List.setIfInBounds_toArray, List.set_cons_zero, List.set_cons_succ, i64_w, i32_w]
            rfl
          generalize wn8.alloc (.cells #[.string ⟨#[109, 97, 114, 107]⟩, .string ⟨#[]⟩, .bool false] 27) = wn9 at *
          refine one_ (i := 8) (N := (some 21)) #[true, true, true, true, true, true, true, true, true, false, true, false] rfl rfl (by kernel_rfl) (by decide) (fun K hK => ?_)
          refine Kd.R_append_rows_step k27 (w0 := w) w.heap.size (by rfl) (.tmp 18) (.tmp 20) 22 27 (.agg #[.string ⟨#[]⟩, .string ⟨#[]⟩, .bool false]) 40 rfl Try.underlying22 info27 rfl (by decide) (by decide) _ ([] ++ l) [markW] _ 1 1 (fun _ => True) (fun _ => False) rfl rfl O18_9.out (C_mark G_9.out) (fun _ _ h => h) (fun _ h => h.elim) (fun _ _ => trivial) B_9.out B_9.out.size (by have := HBY.out; simp; omega) ?_
          intro v21 wn10 ho hb hg hat
          have B_10 := Aside0.mk hb
          have X_10 := Aside0.mk (blk_grown X_9.out hg (Kd.R_ne O18_9.out X_9.out (by decide)))
          have Q_10 := Aside0.mk (blk_grown Q_9.out hg (Kd.R_ne O18_9.out Q_9.out (by decide)))
          obtain ⟨A21, c21, rfl⟩ := Kd.R_slice ho
          have hL : ([] ++ l ++ [markW]).length = l.length + 1 := by simp
          rw [hL] at ho ⊢
          clear hL
          have O21_10 := Aside0.mk ho
          refine hK.out _ _ ⟨(blk_cell X_10.out 0).trans rfl, (blk_cell X_10.out 1).trans rfl⟩ (fun hHeld => ?_)
          clear hK K ho hb hg hat B_9 X_9 O18_9 Q_9 G_9 LG_9
          refine norm_ (a' := ?_) ?_ ?_
          rotate_left
          · show Act.put _ (some 21) _ = _
            simp only [Act.put, List.setIfInBounds_toArray, List.set_cons_zero, List.set_cons_succ, i64_w, i32_w]
            rfl
          refine pure_ (i := 9) (N := (some 22)) (v := ?_) (a' := ?_) #[true, true, true, true, true, true, true, true, true, true, true, false] rfl rfl (by kernel_rfl) (fun _ _ _ h => h) (Or.inl ⟨by rfl, ?_⟩) ?_ ?_
          rotate_left
          · intro w'
            go_simp
            with_reducible rfl
          rotate_left
          · simp only [Act.put, List.setIfInBounds_toArray, List.set_cons_zero, List.set_cons_succ, i64_w, i32_w]
            rfl
          refine last_ (i := 11) (N := none) #[true, true, true, true, true, true, true, true, true, true, true, true] rfl rfl (by kernel_rfl) (by decide) (fun K hK => ?_)
          have f0 := blk_frozen Q_10.out 0
          have f1 := blk_frozen Q_10.out 1
          have c0 := (blk_cell Q_10.out 0).trans rfl
          have c1 := (blk_cell Q_10.out 1).trans rfl
          go_simp
          refine hK.out _ _ ?_
          clear hK K hHeld f0 f1 c0 c1
          refine done_ (by kernel_rfl) ?_
          have hx := blk_far (blk_far X_10.out (p := ⟨wn2.heap.size, 0, none⟩) (Nat.ne_of_lt QB_8.out) (.int .i64 t)) (p := ⟨wn2.heap.size, 1, none⟩) (Nat.ne_of_lt QB_8.out) (.slice A21 (l.length + 1) c21)
          have hq := blk_put (blk_put Q_10.out 0 (.int .i64 t) rfl) 1 (.slice A21 (l.length + 1) c21) rfl
          have ho := Kd.R_set (Kd.R_set O21_10.out Q_10.out (by simp [k27, Kd.iso, Kd.pair, Kd.string, Kd.bool, Kd.scalar]) 0 (.int .i64 t)) (blk_put Q_10.out 0 (.int .i64 t) rfl) (by simp [k27, Kd.iso, Kd.pair, Kd.string, Kd.bool, Kd.scalar]) 1 (.slice A21 (l.length + 1) c21)
          have hb := Below.setCell (Below.setCell B_10.out (p := ⟨wn2.heap.size, 0, none⟩) (Nat.le_of_lt QB_8.out) (.int .i64 t)) (p := ⟨wn2.heap.size, 1, none⟩) (Nat.le_of_lt QB_8.out) (.slice A21 (l.length + 1) c21)
          have HFIN := Aside0.mk (And.intro hx (And.intro hq (And.intro ho hb)))
          clear hx hq ho hb B_10 X_10 Q_10 O21_10
          go_wp2
          go_meet
          case rel => exact ⟨wn2.heap.size, A21, c21, rfl, ⟨HFIN.out.2.1⟩, ⟨HFIN.out.2.2.1⟩, ⟨HFIN.out.2.2.2⟩, QB_8, ⟨HFIN.out.1⟩⟩
      · refine value_ (w1 := ?_) (v := ?_) (by rfl) rfl ?_ ?_
        rotate_left 2
        · go_simp
          constructor
          · rfl
          · rfl
        have B_11 := Aside0.mk (below_alloc B_1.out (.cells #[.string ⟨#[109, 97, 114, 107]⟩, .string ⟨#[]⟩, .bool false] 27))
        have X_11 := Aside0.mk (blk_alloc X_1.out (.cells #[.string ⟨#[109, 97, 114, 107]⟩, .string ⟨#[]⟩, .bool false] 27))
        have O15_11 := Aside0.mk (Kd.R_alloc O15_1.out (.cells #[.string ⟨#[109, 97, 114, 107]⟩, .string ⟨#[]⟩, .bool false] 27))
        have LX_11 := Aside0.mk (show w3.heap.size < (wn1.alloc (.cells #[.string ⟨#[109, 97, 114, 107]⟩, .string ⟨#[]⟩, .bool false] 27)).heap.size by have := LX_1.out; rw [size_alloc]; omega)
        have G_11 := Aside0.mk (blk_new wn1 (.cells #[.string ⟨#[109, 97, 114, 107]⟩, .string ⟨#[]⟩, .bool false] 27))
        have NE_11 := Aside0.mk (Nat.ne_of_gt LX_1.out)
        refine hK.out _ _ ⟨(blk_cell X_11.out 0).trans rfl, (blk_cell X_11.out 1).trans rfl⟩ (fun hHeld => ?_)
        clear hK K B_1 X_1 O15_1 LX_1
        refine norm_ (a' := ?_) ?_ ?_
        rotate_left
        · show Act.put _ (some 20) _ = _
          simp only [Act.put, List.setIfInBounds_toArray, List.set_cons_zero, List.set_cons_succ, i64_w, i32_w]
          rfl
        generalize wn1.alloc (.cells #[.string ⟨#[109, 97, 114, 107]⟩, .string ⟨#[]⟩, .bool false] 27) = wn11 at *
        refine two_ (i := 5) (j := 10) (Ni := (some 18)) (Nj := (some 4)) #[true, true, true, true, true, true, true, true, false, false, false, false] #[true, true, true, true, true, false, true, true, false, false, true, false] rfl rfl rfl rfl (by kernel_rfl) (by decide) (by decide) (fun K hK => ?_) (fun K hK => ?_)
        · refine Kd.R_append_rows_step k27 (w0 := w) w.heap.size (by rfl) (.tmp 15) (.tmp 17) 22 27 (.agg #[.string ⟨#[]⟩, .string ⟨#[]⟩, .bool false]) 40 rfl Try.underlying22 info27 rfl (by decide) (by decide) _ ([] : List W27) l A l.length c (fun _ => True) (fun _ => False) rfl rfl O15_11.out (Kd.C_below HR.out B_11.out) (fun _ _ h => h) (fun _ h => h.elim) (fun _ _ => trivial) B_11.out B_11.out.size (by have := HBY.out; simp; omega) ?_
          intro v18 wn12 ho hb hg hat
          have B_12 := Aside0.mk hb
          have X_12 := Aside0.mk (blk_grown X_11.out hg (Kd.R_ne O15_11.out X_11.out (by decide)))
          have G_12 := Aside0.mk (blk_grown G_11.out hg (show some wn1.heap.size ≠ some w3.heap.size from fun e => NE_11.out (Option.some.inj e)))
          have O18_12 := Aside0.mk ho
          refine hK.out _ _ ⟨(blk_cell X_12.out 0).trans rfl, (blk_cell X_12.out 1).trans rfl⟩ (fun hHeld => ?_)
          clear hK K ho hb hg hat B_11 X_11 O15_11 LX_11 G_11
          refine norm_ (a' := ?_) ?_ ?_
          rotate_left
          · show Act.put _ (some 18) _ = _
            simp only [Act.put, List.setIfInBounds_toArray, List.set_cons_zero, List.set_cons_succ, i64_w, i32_w]
            rfl
          refine two_ (i := 8) (j := 10) (Ni := (some 21)) (Nj := (some 4)) #[true, true, true, true, true, true, true, true, true, false, false, false] #[true, true, true, true, true, true, true, true, false, false, true, false] rfl rfl rfl rfl (by kernel_rfl) (by decide) (by decide) (fun K hK => ?_) (fun K hK => ?_)
          · refine Kd.R_append_rows_step k27 (w0 := w) w.heap.size (by rfl) (.tmp 18) (.tmp 20) 22 27 (.agg #[.string ⟨#[]⟩, .string ⟨#[]⟩, .bool false]) 40 rfl Try.underlying22 info27 rfl (by decide) (by decide) _ ([] ++ l) [markW] _ 1 1 (fun _ => True) (fun _ => False) rfl rfl O18_12.out (C_mark G_12.out) (fun _ _ h => h) (fun _ h => h.elim) (fun _ _ => trivial) B_12.out B_12.out.size (by have := HBY.out; simp; omega) ?_
            intro v21 wn13 ho hb hg hat
            have B_13 := Aside0.mk hb
            have X_13 := Aside0.mk (blk_grown X_12.out hg (Kd.R_ne O18_12.out X_12.out (by decide)))
            obtain ⟨A21, c21, rfl⟩ := Kd.R_slice ho
            have hL : ([] ++ l ++ [markW]).length = l.length + 1 := by simp
            rw [hL] at ho ⊢
            clear hL
            have O21_13 := Aside0.mk ho
            refine hK.out _ _ ⟨(blk_cell X_13.out 0).trans rfl, (blk_cell X_13.out 1).trans rfl⟩ (fun hHeld => ?_)
            clear hK K ho hb hg hat B_12 X_12 G_12 O18_12
            refine norm_ (a' := ?_) ?_ ?_
            rotate_left
            · show Act.put _ (some 21) _ = _
              simp only [Act.put, List.setIfInBounds_toArray, List.set_cons_zero, List.set_cons_succ, i64_w, i32_w]
              rfl
            refine pure_ (i := 9) (N := (some 22)) (v := ?_) (a' := ?_) #[true, true, true, true, true, true, true, true, true, true, false, false] rfl rfl (by kernel_rfl) (fun _ _ _ h => h) (Or.inl ⟨by rfl, ?_⟩) ?_ ?_
            rotate_left
            · intro w'
              go_simp
              with_reducible rfl
            rotate_left
            · simp only [Act.put, List.setIfInBounds_toArray, List.set_cons_zero, List.set_cons_succ, i64_w, i32_w]
              rfl
            refine one_ (i := 10) (N := (some 4)) #[true, true, true, true, true, true, true, true, true, true, true, false] rfl rfl (by kernel_rfl) (by decide) (fun K hK => ?_)
            refine value_ (w1 := ?_) (v := ?_) (by rfl) rfl ?_ ?_
            rotate_left 2
            · go_simp
              constructor
              · rfl
              · rfl
            have B_14 := Aside0.mk (below_alloc B_13.out (.cells #[.int .i64 0, .slice none 0 0] 24))
            have X_14 := Aside0.mk (blk_alloc X_13.out (.cells #[.int .i64 0, .slice none 0 0] 24))
            have O21_14 := Aside0.mk (Kd.R_alloc O21_13.out (.cells #[.int .i64 0, .slice none 0 0] 24))
            have Q_14 := Aside0.mk (blk_new wn13 (.cells #[.int .i64 0, .slice none 0 0] 24))
            have QB_14 := Aside0.mk (blk_lt X_13.out)
            refine hK.out _ _ ⟨(blk_cell X_14.out 0).trans rfl, (blk_cell X_14.out 1).trans rfl⟩ (fun hHeld => ?_)
            clear hK K B_13 X_13 O21_13
            refine norm_ (a' := ?_) ?_ ?_
            rotate_left
            · show Act.put _ (some 4) _ = _
              simp only [Act.put, List.setIfInBounds_toArray, List.set_cons_zero, List.set_cons_succ, i64_w, i32_w]
              rfl
            generalize wn13.alloc (.cells #[.int .i64 0, .slice none 0 0] 24) = wn14 at *
            refine last_ (i := 11) (N := none) #[true, true, true, true, true, true, true, true, true, true, true, true] rfl rfl (by kernel_rfl) (by decide) (fun K hK => ?_)
            have f0 := blk_frozen Q_14.out 0
            have f1 := blk_frozen Q_14.out 1
            have c0 := (blk_cell Q_14.out 0).trans rfl
            have c1 := (blk_cell Q_14.out 1).trans rfl
            go_simp
            refine hK.out _ _ ?_
            clear hK K hHeld f0 f1 c0 c1
            refine done_ (by kernel_rfl) ?_
            have hx := blk_far (blk_far X_14.out (p := ⟨wn13.heap.size, 0, none⟩) (Nat.ne_of_lt QB_14.out) (.int .i64 t)) (p := ⟨wn13.heap.size, 1, none⟩) (Nat.ne_of_lt QB_14.out) (.slice A21 (l.length + 1) c21)
            have hq := blk_put (blk_put Q_14.out 0 (.int .i64 t) rfl) 1 (.slice A21 (l.length + 1) c21) rfl
            have ho := Kd.R_set (Kd.R_set O21_14.out Q_14.out (by simp [k27, Kd.iso, Kd.pair, Kd.string, Kd.bool, Kd.scalar]) 0 (.int .i64 t)) (blk_put Q_14.out 0 (.int .i64 t) rfl) (by simp [k27, Kd.iso, Kd.pair, Kd.string, Kd.bool, Kd.scalar]) 1 (.slice A21 (l.length + 1) c21)
            have hb := Below.setCell (Below.setCell B_14.out (p := ⟨wn13.heap.size, 0, none⟩) (Nat.le_of_lt QB_14.out) (.int .i64 t)) (p := ⟨wn13.heap.size, 1, none⟩) (Nat.le_of_lt QB_14.out) (.slice A21 (l.length + 1) c21)
            have HFIN := Aside0.mk (And.intro hx (And.intro hq (And.intro ho hb)))
            clear hx hq ho hb B_14 X_14 O21_14 Q_14
            go_wp2
            go_meet
            case rel => exact ⟨wn13.heap.size, A21, c21, rfl, ⟨HFIN.out.2.1⟩, ⟨HFIN.out.2.2.1⟩, ⟨HFIN.out.2.2.2⟩, QB_14, ⟨HFIN.out.1⟩⟩
          · refine value_ (w1 := ?_) (v := ?_) (by rfl) rfl ?_ ?_
            rotate_left 2
            · go_simp
              constructor
              · rfl
              · rfl
            have B_15 := Aside0.mk (below_alloc B_12.out (.cells #[.int .i64 0, .slice none 0 0] 24))
            have X_15 := Aside0.mk (blk_alloc X_12.out (.cells #[.int .i64 0, .slice none 0 0] 24))
            have G_15 := Aside0.mk (blk_alloc G_12.out (.cells #[.int .i64 0, .slice none 0 0] 24))
            have O18_15 := Aside0.mk (Kd.R_alloc O18_12.out (.cells #[.int .i64 0, .slice none 0 0] 24))
            have Q_15 := Aside0.mk (blk_new wn12 (.cells #[.int .i64 0, .slice none 0 0] 24))
            have QB_15 := Aside0.mk (blk_lt X_12.out)
            refine hK.out _ _ ⟨(blk_cell X_15.out 0).trans rfl, (blk_cell X_15.out 1).trans rfl⟩ (fun hHeld => ?_)
            clear hK K B_12 X_12 G_12 O18_12
            refine norm_ (a' := ?_) ?_ ?_
            rotate_left
            · show Act.put _ (some 4) _ = _
              simp only [Act.put, List.setIfInBounds_toArray, List.set_cons_zero, List.set_cons_succ, i64_w, i32_w]
              rfl
            generalize wn12.alloc (.cells #[.int .i64 0, .slice none 0 0] 24) = wn15 at *
            refine one_ (i := 8) (N := (some 21)) #[true, true, true, true, true, true, true, true, true, false, true, false] rfl rfl (by kernel_rfl) (by decide) (fun K hK => ?_)
            refine Kd.R_append_rows_step k27 (w0 := w) w.heap.size (by rfl) (.tmp 18) (.tmp 20) 22 27 (.agg #[.string ⟨#[]⟩, .string ⟨#[]⟩, .bool false]) 40 rfl Try.underlying22 info27 rfl (by decide) (by decide) _ ([] ++ l) [markW] _ 1 1 (fun _ => True) (fun _ => False) rfl rfl O18_15.out (C_mark G_15.out) (fun _ _ h => h) (fun _ h => h.elim) (fun _ _ => trivial) B_15.out B_15.out.size (by have := HBY.out; simp; omega) ?_
            intro v21 wn16 ho hb hg hat
            have B_16 := Aside0.mk hb
            have X_16 := Aside0.mk (blk_grown X_15.out hg (Kd.R_ne O18_15.out X_15.out (by decide)))
            have Q_16 := Aside0.mk (blk_grown Q_15.out hg (Kd.R_ne O18_15.out Q_15.out (by decide)))
            obtain ⟨A21, c21, rfl⟩ := Kd.R_slice ho
            have hL : ([] ++ l ++ [markW]).length = l.length + 1 := by simp
            rw [hL] at ho ⊢
            clear hL
            have O21_16 := Aside0.mk ho
            refine hK.out _ _ ⟨(blk_cell X_16.out 0).trans rfl, (blk_cell X_16.out 1).trans rfl⟩ (fun hHeld => ?_)
            clear hK K ho hb hg hat B_15 X_15 G_15 O18_15 Q_15
            refine norm_ (a' := ?_) ?_ ?_
            rotate_left
            · show Act.put _ (some 21) _ = _
              simp only [Act.put, List.setIfInBounds_toArray, List.set_cons_zero, List.set_cons_succ, i64_w, i32_w]
              rfl
            refine pure_ (i := 9) (N := (some 22)) (v := ?_) (a' := ?_) #[true, true, true, true, true, true, true, true, true, true, true, false] rfl rfl (by kernel_rfl) (fun _ _ _ h => h) (Or.inl ⟨by rfl, ?_⟩) ?_ ?_
            rotate_left
            · intro w'
              go_simp
              with_reducible rfl
            rotate_left
            · simp only [Act.put, List.setIfInBounds_toArray, List.set_cons_zero, List.set_cons_succ, i64_w, i32_w]
              rfl
            refine last_ (i := 11) (N := none) #[true, true, true, true, true, true, true, true, true, true, true, true] rfl rfl (by kernel_rfl) (by decide) (fun K hK => ?_)
            have f0 := blk_frozen Q_16.out 0
            have f1 := blk_frozen Q_16.out 1
            have c0 := (blk_cell Q_16.out 0).trans rfl
            have c1 := (blk_cell Q_16.out 1).trans rfl
            go_simp
            refine hK.out _ _ ?_
            clear hK K hHeld f0 f1 c0 c1
            refine done_ (by kernel_rfl) ?_
            have hx := blk_far (blk_far X_16.out (p := ⟨wn12.heap.size, 0, none⟩) (Nat.ne_of_lt QB_15.out) (.int .i64 t)) (p := ⟨wn12.heap.size, 1, none⟩) (Nat.ne_of_lt QB_15.out) (.slice A21 (l.length + 1) c21)
            have hq := blk_put (blk_put Q_16.out 0 (.int .i64 t) rfl) 1 (.slice A21 (l.length + 1) c21) rfl
            have ho := Kd.R_set (Kd.R_set O21_16.out Q_16.out (by simp [k27, Kd.iso, Kd.pair, Kd.string, Kd.bool, Kd.scalar]) 0 (.int .i64 t)) (blk_put Q_16.out 0 (.int .i64 t) rfl) (by simp [k27, Kd.iso, Kd.pair, Kd.string, Kd.bool, Kd.scalar]) 1 (.slice A21 (l.length + 1) c21)
            have hb := Below.setCell (Below.setCell B_16.out (p := ⟨wn12.heap.size, 0, none⟩) (Nat.le_of_lt QB_15.out) (.int .i64 t)) (p := ⟨wn12.heap.size, 1, none⟩) (Nat.le_of_lt QB_15.out) (.slice A21 (l.length + 1) c21)
            have HFIN := Aside0.mk (And.intro hx (And.intro hq (And.intro ho hb)))
            clear hx hq ho hb B_16 X_16 Q_16 O21_16
            go_wp2
            go_meet
            case rel => exact ⟨wn12.heap.size, A21, c21, rfl, ⟨HFIN.out.2.1⟩, ⟨HFIN.out.2.2.1⟩, ⟨HFIN.out.2.2.2⟩, QB_15, ⟨HFIN.out.1⟩⟩
        · refine value_ (w1 := ?_) (v := ?_) (by rfl) rfl ?_ ?_
          rotate_left 2
          · go_simp
            constructor
            · rfl
            · rfl
          have B_17 := Aside0.mk (below_alloc B_11.out (.cells #[.int .i64 0, .slice none 0 0] 24))
          have X_17 := Aside0.mk (blk_alloc X_11.out (.cells #[.int .i64 0, .slice none 0 0] 24))
          have O15_17 := Aside0.mk (Kd.R_alloc O15_11.out (.cells #[.int .i64 0, .slice none 0 0] 24))
          have LX_17 := Aside0.mk (show w3.heap.size < (wn11.alloc (.cells #[.int .i64 0, .slice none 0 0] 24)).heap.size by have := LX_11.out; rw [size_alloc]; omega)
          have G_17 := Aside0.mk (blk_alloc G_11.out (.cells #[.int .i64 0, .slice none 0 0] 24))
          have Q_17 := Aside0.mk (blk_new wn11 (.cells #[.int .i64 0, .slice none 0 0] 24))
          have QB_17 := Aside0.mk (blk_lt X_11.out)
          refine hK.out _ _ ⟨(blk_cell X_17.out 0).trans rfl, (blk_cell X_17.out 1).trans rfl⟩ (fun hHeld => ?_)
          clear hK K B_11 X_11 O15_11 LX_11 G_11
          refine norm_ (a' := ?_) ?_ ?_
          rotate_left
          · show Act.put _ (some 4) _ = _
            simp only [Act.put, List.setIfInBounds_toArray, List.set_cons_zero, List.set_cons_succ, i64_w, i32_w]
            rfl
          generalize wn11.alloc (.cells #[.int .i64 0, .slice none 0 0] 24) = wn17 at *
          refine one_ (i := 5) (N := (some 18)) #[true, true, true, true, true, true, true, true, false, false, true, false] rfl rfl (by kernel_rfl) (by decide) (fun K hK => ?_)
          refine Kd.R_append_rows_step k27 (w0 := w) w.heap.size (by rfl) (.tmp 15) (.tmp 17) 22 27 (.agg #[.string ⟨#[]⟩, .string ⟨#[]⟩, .bool false]) 40 rfl Try.underlying22 info27 rfl (by decide) (by decide) _ ([] : List W27) l A l.length c (fun _ => True) (fun _ => False) rfl rfl O15_17.out (Kd.C_below HR.out B_17.out) (fun _ _ h => h) (fun _ h => h.elim) (fun _ _ => trivial) B_17.out B_17.out.size (by have := HBY.out; simp; omega) ?_
          intro v18 wn18 ho hb hg hat
          have B_18 := Aside0.mk hb
          have X_18 := Aside0.mk (blk_grown X_17.out hg (Kd.R_ne O15_17.out X_17.out (by decide)))
          have G_18 := Aside0.mk (blk_grown G_17.out hg (show some wn1.heap.size ≠ some w3.heap.size from fun e => NE_11.out (Option.some.inj e)))
          have Q_18 := Aside0.mk (blk_grown Q_17.out hg (Kd.R_ne O15_17.out Q_17.out (by decide)))
          have O18_18 := Aside0.mk ho
          refine hK.out _ _ ⟨(blk_cell X_18.out 0).trans rfl, (blk_cell X_18.out 1).trans rfl⟩ (fun hHeld => ?_)
          clear hK K ho hb hg hat B_17 X_17 O15_17 LX_17 G_17 Q_17
          refine norm_ (a' := ?_) ?_ ?_
          rotate_left
          · show Act.put _ (some 18) _ = _
            simp only [Act.put, List.setIfInBounds_toArray, List.set_cons_zero, List.set_cons_succ, i64_w, i32_w]
            rfl
          refine one_ (i := 8) (N := (some 21)) #[true, true, true, true, true, true, true, true, true, false, true, false] rfl rfl (by kernel_rfl) (by decide) (fun K hK => ?_)
          refine Kd.R_append_rows_step k27 (w0 := w) w.heap.size (by rfl) (.tmp 18) (.tmp 20) 22 27 (.agg #[.string ⟨#[]⟩, .string ⟨#[]⟩, .bool false]) 40 rfl Try.underlying22 info27 rfl (by decide) (by decide) _ ([] ++ l) [markW] _ 1 1 (fun _ => True) (fun _ => False) rfl rfl O18_18.out (C_mark G_18.out) (fun _ _ h => h) (fun _ h => h.elim) (fun _ _ => trivial) B_18.out B_18.out.size (by have := HBY.out; simp; omega) ?_
          intro v21 wn19 ho hb hg hat
          have B_19 := Aside0.mk hb
          have X_19 := Aside0.mk (blk_grown X_18.out hg (Kd.R_ne O18_18.out X_18.out (by decide)))
          have Q_19 := Aside0.mk (blk_grown Q_18.out hg (Kd.R_ne O18_18.out Q_18.out (by decide)))
          obtain ⟨A21, c21, rfl⟩ := Kd.R_slice ho
          have hL : ([] ++ l ++ [markW]).length = l.length + 1 := by simp
          rw [hL] at ho ⊢
          clear hL
          have O21_19 := Aside0.mk ho
          refine hK.out _ _ ⟨(blk_cell X_19.out 0).trans rfl, (blk_cell X_19.out 1).trans rfl⟩ (fun hHeld => ?_)
          clear hK K ho hb hg hat B_18 X_18 G_18 Q_18 O18_18
          refine norm_ (a' := ?_) ?_ ?_
          rotate_left
          · show Act.put _ (some 21) _ = _
            simp only [Act.put, List.setIfInBounds_toArray, List.set_cons_zero, List.set_cons_succ, i64_w, i32_w]
            rfl
          refine pure_ (i := 9) (N := (some 22)) (v := ?_) (a' := ?_) #[true, true, true, true, true, true, true, true, true, true, true, false] rfl rfl (by kernel_rfl) (fun _ _ _ h => h) (Or.inl ⟨by rfl, ?_⟩) ?_ ?_
          rotate_left
          · intro w'
            go_simp
            with_reducible rfl
          rotate_left
          · simp only [Act.put, List.setIfInBounds_toArray, List.set_cons_zero, List.set_cons_succ, i64_w, i32_w]
            rfl
          refine last_ (i := 11) (N := none) #[true, true, true, true, true, true, true, true, true, true, true, true] rfl rfl (by kernel_rfl) (by decide) (fun K hK => ?_)
          have f0 := blk_frozen Q_19.out 0
          have f1 := blk_frozen Q_19.out 1
          have c0 := (blk_cell Q_19.out 0).trans rfl
          have c1 := (blk_cell Q_19.out 1).trans rfl
          go_simp
          refine hK.out _ _ ?_
          clear hK K hHeld f0 f1 c0 c1
          refine done_ (by kernel_rfl) ?_
          have hx := blk_far (blk_far X_19.out (p := ⟨wn11.heap.size, 0, none⟩) (Nat.ne_of_lt QB_17.out) (.int .i64 t)) (p := ⟨wn11.heap.size, 1, none⟩) (Nat.ne_of_lt QB_17.out) (.slice A21 (l.length + 1) c21)
          have hq := blk_put (blk_put Q_19.out 0 (.int .i64 t) rfl) 1 (.slice A21 (l.length + 1) c21) rfl
          have ho := Kd.R_set (Kd.R_set O21_19.out Q_19.out (by simp [k27, Kd.iso, Kd.pair, Kd.string, Kd.bool, Kd.scalar]) 0 (.int .i64 t)) (blk_put Q_19.out 0 (.int .i64 t) rfl) (by simp [k27, Kd.iso, Kd.pair, Kd.string, Kd.bool, Kd.scalar]) 1 (.slice A21 (l.length + 1) c21)
          have hb := Below.setCell (Below.setCell B_19.out (p := ⟨wn11.heap.size, 0, none⟩) (Nat.le_of_lt QB_17.out) (.int .i64 t)) (p := ⟨wn11.heap.size, 1, none⟩) (Nat.le_of_lt QB_17.out) (.slice A21 (l.length + 1) c21)
          have HFIN := Aside0.mk (And.intro hx (And.intro hq (And.intro ho hb)))
          clear hx hq ho hb B_19 X_19 Q_19 O21_19
          go_wp2
          go_meet
          case rel => exact ⟨wn11.heap.size, A21, c21, rfl, ⟨HFIN.out.2.1⟩, ⟨HFIN.out.2.2.1⟩, ⟨HFIN.out.2.2.2⟩, QB_17, ⟨HFIN.out.1⟩⟩
      · refine value_ (w1 := ?_) (v := ?_) (by rfl) rfl ?_ ?_
        rotate_left 2
        · go_simp
          constructor
          · rfl
          · rfl
        have B_20 := Aside0.mk (below_alloc B_1.out (.cells #[.int .i64 0, .slice none 0 0] 24))
        have X_20 := Aside0.mk (blk_alloc X_1.out (.cells #[.int .i64 0, .slice none 0 0] 24))
        have O15_20 := Aside0.mk (Kd.R_alloc O15_1.out (.cells #[.int .i64 0, .slice none 0 0] 24))
        have LX_20 := Aside0.mk (show w3.heap.size < (wn1.alloc (.cells #[.int .i64 0, .slice none 0 0] 24)).heap.size by have := LX_1.out; rw [size_alloc]; omega)
        have Q_20 := Aside0.mk (blk_new wn1 (.cells #[.int .i64 0, .slice none 0 0] 24))
        have QB_20 := Aside0.mk (blk_lt X_1.out)
        refine hK.out _ _ ⟨(blk_cell X_20.out 0).trans rfl, (blk_cell X_20.out 1).trans rfl⟩ (fun hHeld => ?_)
        clear hK K B_1 X_1 O15_1 LX_1
        refine norm_ (a' := ?_) ?_ ?_
        rotate_left
        · show Act.put _ (some 4) _ = _
          simp only [Act.put, List.setIfInBounds_toArray, List.set_cons_zero, List.set_cons_succ, i64_w, i32_w]
          rfl
        generalize wn1.alloc (.cells #[.int .i64 0, .slice none 0 0] 24) = wn20 at *
        refine two_ (i := 5) (j := 7) (Ni := (some 18)) (Nj := (some 20)) #[true, true, true, true, true, true, true, false, false, false, true, false] #[true, true, true, true, true, false, true, true, false, false, true, false] rfl rfl rfl rfl (by kernel_rfl) (by decide) (by decide) (fun K hK => ?_) (fun K hK => ?_)
        · refine Kd.R_append_rows_step k27 (w0 := w) w.heap.size (by rfl) (.tmp 15) (.tmp 17) 22 27 (.agg #[.string ⟨#[]⟩, .string ⟨#[]⟩, .bool false]) 40 rfl Try.underlying22 info27 rfl (by decide) (by decide) _ ([] : List W27) l A l.length c (fun _ => True) (fun _ => False) rfl rfl O15_20.out (Kd.C_below HR.out B_20.out) (fun _ _ h => h) (fun _ h => h.elim) (fun _ _ => trivial) B_20.out B_20.out.size (by have := HBY.out; simp; omega) ?_
          intro v18 wn21 ho hb hg hat
          have B_21 := Aside0.mk hb
          have X_21 := Aside0.mk (blk_grown X_20.out hg (Kd.R_ne O15_20.out X_20.out (by decide)))
          have Q_21 := Aside0.mk (blk_grown Q_20.out hg (Kd.R_ne O15_20.out Q_20.out (by decide)))
          have O18_21 := Aside0.mk ho
          refine hK.out _ _ ⟨(blk_cell X_21.out 0).trans rfl, (blk_cell X_21.out 1).trans rfl⟩ (fun hHeld => ?_)
          clear hK K ho hb hg hat B_20 X_20 O15_20 LX_20 Q_20
          refine norm_ (a' := ?_) ?_ ?_
          rotate_left
          · show Act.put _ (some 18) _ = _
            simp only [Act.put, List.setIfInBounds_toArray, List.set_cons_zero, List.set_cons_succ, i64_w, i32_w]
            rfl
          refine one_ (i := 7) (N := (some 20)) #[true, true, true, true, true, true, true, true, false, false, true, false] rfl rfl (by kernel_rfl) (by decide) (fun K hK => ?_)
          refine value_ (w1 := ?_) (v := ?_) (by rfl) rfl ?_ ?_
          rotate_left 2
          · go_simp
            constructor
            · rfl
            · rfl
          have B_22 := Aside0.mk (below_alloc B_21.out (.cells #[.string ⟨#[109, 97, 114, 107]⟩, .string ⟨#[]⟩, .bool false] 27))
          have X_22 := Aside0.mk (blk_alloc X_21.out (.cells #[.string ⟨#[109, 97, 114, 107]⟩, .string ⟨#[]⟩, .bool false] 27))
          have Q_22 := Aside0.mk (blk_alloc Q_21.out (.cells #[.string ⟨#[109, 97, 114, 107]⟩, .string ⟨#[]⟩, .bool false] 27))
          have O18_22 := Aside0.mk (Kd.R_alloc O18_21.out (.cells #[.string ⟨#[109, 97, 114, 107]⟩, .string ⟨#[]⟩, .bool false] 27))
          have G_22 := Aside0.mk (blk_new wn21 (.cells #[.string ⟨#[109, 97, 114, 107]⟩, .string ⟨#[]⟩, .bool false] 27))
          have LG_22 := Aside0.mk (show wn21.heap.size < (wn21.alloc (.cells #[.string ⟨#[109, 97, 114, 107]⟩, .string ⟨#[]⟩, .bool false] 27)).heap.size by rw [size_alloc]; omega)
          refine hK.out _ _ ⟨(blk_cell X_22.out 0).trans rfl, (blk_cell X_22.out 1).trans rfl⟩ (fun hHeld => ?_)
          clear hK K B_21 X_21 Q_21 O18_21
          refine norm_ (a' := ?_) ?_ ?_
          rotate_left
          · show Act.put _ (some 20) _ = _
            simp only [Act.put, List.setIfInBounds_toArray, List.set_cons_zero, List.set_cons_succ, i64_w, i32_w]
            rfl
          generalize wn21.alloc (.cells #[.string ⟨#[109, 97, 114, 107]⟩, .string ⟨#[]⟩, .bool false] 27) = wn22 at *
          refine one_ (i := 8) (N := (some 21)) #[true, true, true, true, true, true, true, true, true, false, true, false] rfl rfl (by kernel_rfl) (by decide) (fun K hK => ?_)
          refine Kd.R_append_rows_step k27 (w0 := w) w.heap.size (by rfl) (.tmp 18) (.tmp 20) 22 27 (.agg #[.string ⟨#[]⟩, .string ⟨#[]⟩, .bool false]) 40 rfl Try.underlying22 info27 rfl (by decide) (by decide) _ ([] ++ l) [markW] _ 1 1 (fun _ => True) (fun _ => False) rfl rfl O18_22.out (C_mark G_22.out) (fun _ _ h => h) (fun _ h => h.elim) (fun _ _ => trivial) B_22.out B_22.out.size (by have := HBY.out; simp; omega) ?_
          intro v21 wn23 ho hb hg hat
          have B_23 := Aside0.mk hb
          have X_23 := Aside0.mk (blk_grown X_22.out hg (Kd.R_ne O18_22.out X_22.out (by decide)))
          have Q_23 := Aside0.mk (blk_grown Q_22.out hg (Kd.R_ne O18_22.out Q_22.out (by decide)))
          obtain ⟨A21, c21, rfl⟩ := Kd.R_slice ho
          have hL : ([] ++ l ++ [markW]).length = l.length + 1 := by simp
          rw [hL] at ho ⊢
          clear hL
          have O21_23 := Aside0.mk ho
          refine hK.out _ _ ⟨(blk_cell X_23.out 0).trans rfl, (blk_cell X_23.out 1).trans rfl⟩ (fun hHeld => ?_)
          clear hK K ho hb hg hat B_22 X_22 Q_22 O18_22 G_22 LG_22
          refine norm_ (a' := ?_) ?_ ?_
          rotate_left
          · show Act.put _ (some 21) _ = _
            simp only [Act.put, List.setIfInBounds_toArray, List.set_cons_zero, List.set_cons_succ, i64_w, i32_w]
            rfl
          refine pure_ (i := 9) (N := (some 22)) (v := ?_) (a' := ?_) #[true, true, true, true, true, true, true, true, true, true, true, false] rfl rfl (by kernel_rfl) (fun _ _ _ h => h) (Or.inl ⟨by rfl, ?_⟩) ?_ ?_
          rotate_left
          · intro w'
            go_simp
            with_reducible rfl
          rotate_left
          · simp only [Act.put, List.setIfInBounds_toArray, List.set_cons_zero, List.set_cons_succ, i64_w, i32_w]
            rfl
          refine last_ (i := 11) (N := none) #[true, true, true, true, true, true, true, true, true, true, true, true] rfl rfl (by kernel_rfl) (by decide) (fun K hK => ?_)
          have f0 := blk_frozen Q_23.out 0
          have f1 := blk_frozen Q_23.out 1
          have c0 := (blk_cell Q_23.out 0).trans rfl
          have c1 := (blk_cell Q_23.out 1).trans rfl
          go_simp
          refine hK.out _ _ ?_
          clear hK K hHeld f0 f1 c0 c1
          refine done_ (by kernel_rfl) ?_
          have hx := blk_far (blk_far X_23.out (p := ⟨wn1.heap.size, 0, none⟩) (Nat.ne_of_lt QB_20.out) (.int .i64 t)) (p := ⟨wn1.heap.size, 1, none⟩) (Nat.ne_of_lt QB_20.out) (.slice A21 (l.length + 1) c21)
          have hq := blk_put (blk_put Q_23.out 0 (.int .i64 t) rfl) 1 (.slice A21 (l.length + 1) c21) rfl
          have ho := Kd.R_set (Kd.R_set O21_23.out Q_23.out (by simp [k27, Kd.iso, Kd.pair, Kd.string, Kd.bool, Kd.scalar]) 0 (.int .i64 t)) (blk_put Q_23.out 0 (.int .i64 t) rfl) (by simp [k27, Kd.iso, Kd.pair, Kd.string, Kd.bool, Kd.scalar]) 1 (.slice A21 (l.length + 1) c21)
          have hb := Below.setCell (Below.setCell B_23.out (p := ⟨wn1.heap.size, 0, none⟩) (Nat.le_of_lt QB_20.out) (.int .i64 t)) (p := ⟨wn1.heap.size, 1, none⟩) (Nat.le_of_lt QB_20.out) (.slice A21 (l.length + 1) c21)
          have HFIN := Aside0.mk (And.intro hx (And.intro hq (And.intro ho hb)))
          clear hx hq ho hb B_23 X_23 Q_23 O21_23
          go_wp2
          go_meet
          case rel => exact ⟨wn1.heap.size, A21, c21, rfl, ⟨HFIN.out.2.1⟩, ⟨HFIN.out.2.2.1⟩, ⟨HFIN.out.2.2.2⟩, QB_20, ⟨HFIN.out.1⟩⟩
        · refine value_ (w1 := ?_) (v := ?_) (by rfl) rfl ?_ ?_
          rotate_left 2
          · go_simp
            constructor
            · rfl
            · rfl
          have B_24 := Aside0.mk (below_alloc B_20.out (.cells #[.string ⟨#[109, 97, 114, 107]⟩, .string ⟨#[]⟩, .bool false] 27))
          have X_24 := Aside0.mk (blk_alloc X_20.out (.cells #[.string ⟨#[109, 97, 114, 107]⟩, .string ⟨#[]⟩, .bool false] 27))
          have O15_24 := Aside0.mk (Kd.R_alloc O15_20.out (.cells #[.string ⟨#[109, 97, 114, 107]⟩, .string ⟨#[]⟩, .bool false] 27))
          have LX_24 := Aside0.mk (show w3.heap.size < (wn20.alloc (.cells #[.string ⟨#[109, 97, 114, 107]⟩, .string ⟨#[]⟩, .bool false] 27)).heap.size by have := LX_20.out; rw [size_alloc]; omega)
          have Q_24 := Aside0.mk (blk_alloc Q_20.out (.cells #[.string ⟨#[109, 97, 114, 107]⟩, .string ⟨#[]⟩, .bool false] 27))
          have G_24 := Aside0.mk (blk_new wn20 (.cells #[.string ⟨#[109, 97, 114, 107]⟩, .string ⟨#[]⟩, .bool false] 27))
          have NE_24 := Aside0.mk (Nat.ne_of_gt LX_20.out)
          refine hK.out _ _ ⟨(blk_cell X_24.out 0).trans rfl, (blk_cell X_24.out 1).trans rfl⟩ (fun hHeld => ?_)
          clear hK K B_20 X_20 O15_20 LX_20 Q_20
          refine norm_ (a' := ?_) ?_ ?_
          rotate_left
          · show Act.put _ (some 20) _ = _
            simp only [Act.put, List.setIfInBounds_toArray, List.set_cons_zero, List.set_cons_succ, i64_w, i32_w]
            rfl
          generalize wn20.alloc (.cells #[.string ⟨#[109, 97, 114, 107]⟩, .string ⟨#[]⟩, .bool false] 27) = wn24 at *
          refine one_ (i := 5) (N := (some 18)) #[true, true, true, true, true, true, true, true, false, false, true, false] rfl rfl (by kernel_rfl) (by decide) (fun K hK => ?_)
          refine Kd.R_append_rows_step k27 (w0 := w) w.heap.size (by rfl) (.tmp 15) (.tmp 17) 22 27 (.agg #[.string ⟨#[]⟩, .string ⟨#[]⟩, .bool false]) 40 rfl Try.underlying22 info27 rfl (by decide) (by decide) _ ([] : List W27) l A l.length c (fun _ => True) (fun _ => False) rfl rfl O15_24.out (Kd.C_below HR.out B_24.out) (fun _ _ h => h) (fun _ h => h.elim) (fun _ _ => trivial) B_24.out B_24.out.size (by have := HBY.out; simp; omega) ?_
          intro v18 wn25 ho hb hg hat
          have B_25 := Aside0.mk hb
          have X_25 := Aside0.mk (blk_grown X_24.out hg (Kd.R_ne O15_24.out X_24.out (by decide)))
          have Q_25 := Aside0.mk (blk_grown Q_24.out hg (Kd.R_ne O15_24.out Q_24.out (by decide)))
          have G_25 := Aside0.mk (blk_grown G_24.out hg (show some wn20.heap.size ≠ some w3.heap.size from fun e => NE_24.out (Option.some.inj e)))
          have O18_25 := Aside0.mk ho
          refine hK.out _ _ ⟨(blk_cell X_25.out 0).trans rfl, (blk_cell X_25.out 1).trans rfl⟩ (fun hHeld => ?_)
          clear hK K ho hb hg hat B_24 X_24 O15_24 LX_24 Q_24 G_24
          refine norm_ (a' := ?_) ?_ ?_
          rotate_left
          · show Act.put _ (some 18) _ = _
            simp only [Act.put, List.setIfInBounds_toArray, List.set_cons_zero, List.set_cons_succ, i64_w, i32_w]
            rfl
          refine one_ (i := 8) (N := (some 21)) #[true, true, true, true, true, true, true, true, true, false, true, false] rfl rfl (by kernel_rfl) (by decide) (fun K hK => ?_)
          refine Kd.R_append_rows_step k27 (w0 := w) w.heap.size (by rfl) (.tmp 18) (.tmp 20) 22 27 (.agg #[.string ⟨#[]⟩, .string ⟨#[]⟩, .bool false]) 40 rfl Try.underlying22 info27 rfl (by decide) (by decide) _ ([] ++ l) [markW] _ 1 1 (fun _ => True) (fun _ => False) rfl rfl O18_25.out (C_mark G_25.out) (fun _ _ h => h) (fun _ h => h.elim) (fun _ _ => trivial) B_25.out B_25.out.size (by have := HBY.out; simp; omega) ?_
          intro v21 wn26 ho hb hg hat
          have B_26 := Aside0.mk hb
          have X_26 := Aside0.mk (blk_grown X_25.out hg (Kd.R_ne O18_25.out X_25.out (by decide)))
          have Q_26 := Aside0.mk (blk_grown Q_25.out hg (Kd.R_ne O18_25.out Q_25.out (by decide)))
          obtain ⟨A21, c21, rfl⟩ := Kd.R_slice ho
          have hL : ([] ++ l ++ [markW]).length = l.length + 1 := by simp
          rw [hL] at ho ⊢
          clear hL
          have O21_26 := Aside0.mk ho
          refine hK.out _ _ ⟨(blk_cell X_26.out 0).trans rfl, (blk_cell X_26.out 1).trans rfl⟩ (fun hHeld => ?_)
          clear hK K ho hb hg hat B_25 X_25 Q_25 G_25 O18_25
          refine norm_ (a' := ?_) ?_ ?_
          rotate_left
          · show Act.put _ (some 21) _ = _
            simp only [Act.put, List.setIfInBounds_toArray, List.set_cons_zero, List.set_cons_succ, i64_w, i32_w]
            rfl
          refine pure_ (i := 9) (N := (some 22)) (v := ?_) (a' := ?_) #[true, true, true, true, true, true, true, true, true, true, true, false] rfl rfl (by kernel_rfl) (fun _ _ _ h => h) (Or.inl ⟨by rfl, ?_⟩) ?_ ?_
          rotate_left
          · intro w'
            go_simp
            with_reducible rfl
          rotate_left
          · simp only [Act.put, List.setIfInBounds_toArray, List.set_cons_zero, List.set_cons_succ, i64_w, i32_w]
            rfl
          refine last_ (i := 11) (N := none) #[true, true, true, true, true, true, true, true, true, true, true, true] rfl rfl (by kernel_rfl) (by decide) (fun K hK => ?_)
          have f0 := blk_frozen Q_26.out 0
          have f1 := blk_frozen Q_26.out 1
          have c0 := (blk_cell Q_26.out 0).trans rfl
          have c1 := (blk_cell Q_26.out 1).trans rfl
          go_simp
          refine hK.out _ _ ?_
          clear hK K hHeld f0 f1 c0 c1
          refine done_ (by kernel_rfl) ?_
          have hx := blk_far (blk_far X_26.out (p := ⟨wn1.heap.size, 0, none⟩) (Nat.ne_of_lt QB_20.out) (.int .i64 t)) (p := ⟨wn1.heap.size, 1, none⟩) (Nat.ne_of_lt QB_20.out) (.slice A21 (l.length + 1) c21)
          have hq := blk_put (blk_put Q_26.out 0 (.int .i64 t) rfl) 1 (.slice A21 (l.length + 1) c21) rfl
          have ho := Kd.R_set (Kd.R_set O21_26.out Q_26.out (by simp [k27, Kd.iso, Kd.pair, Kd.string, Kd.bool, Kd.scalar]) 0 (.int .i64 t)) (blk_put Q_26.out 0 (.int .i64 t) rfl) (by simp [k27, Kd.iso, Kd.pair, Kd.string, Kd.bool, Kd.scalar]) 1 (.slice A21 (l.length + 1) c21)
          have hb := Below.setCell (Below.setCell B_26.out (p := ⟨wn1.heap.size, 0, none⟩) (Nat.le_of_lt QB_20.out) (.int .i64 t)) (p := ⟨wn1.heap.size, 1, none⟩) (Nat.le_of_lt QB_20.out) (.slice A21 (l.length + 1) c21)
          have HFIN := Aside0.mk (And.intro hx (And.intro hq (And.intro ho hb)))
          clear hx hq ho hb B_26 X_26 Q_26 O21_26
          go_wp2
          go_meet
          case rel => exact ⟨wn1.heap.size, A21, c21, rfl, ⟨HFIN.out.2.1⟩, ⟨HFIN.out.2.2.1⟩, ⟨HFIN.out.2.2.2⟩, QB_20, ⟨HFIN.out.1⟩⟩
    · refine value_ (w1 := ?_) (v := ?_) (by rfl) rfl ?_ ?_
      rotate_left 2
      · go_simp
        constructor
        · rfl
        · rfl
      have B_27 := Aside0.mk (below_alloc HB3.out (.cells #[.string ⟨#[109, 97, 114, 107]⟩, .string ⟨#[]⟩, .bool false] 27))
      have X_27 := Aside0.mk (blk_alloc HX3.out (.cells #[.string ⟨#[109, 97, 114, 107]⟩, .string ⟨#[]⟩, .bool false] 27))
      have G_27 := Aside0.mk (blk_new w3 (.cells #[.string ⟨#[109, 97, 114, 107]⟩, .string ⟨#[]⟩, .bool false] 27))
      have LG_27 := Aside0.mk (show w3.heap.size < (w3.alloc (.cells #[.string ⟨#[109, 97, 114, 107]⟩, .string ⟨#[]⟩, .bool false] 27)).heap.size by rw [size_alloc]; omega)
      refine hK.out _ _ ⟨(blk_cell X_27.out 0).trans rfl, (blk_cell X_27.out 1).trans rfl⟩ (fun hHeld => ?_)
      clear hK K HB3 HX3
      refine norm_ (a' := ?_) ?_ ?_
      rotate_left
      · show Act.put _ (some 20) _ = _
        simp only [Act.put, List.setIfInBounds_toArray, List.set_cons_zero, List.set_cons_succ, i64_w, i32_w]
        rfl
      generalize w3.alloc (.cells #[.string ⟨#[109, 97, 114, 107]⟩, .string ⟨#[]⟩, .bool false] 27) = wn27 at *
      refine two_ (i := 2) (j := 10) (Ni := (some 15)) (Nj := (some 4)) #[true, true, true, true, true, false, true, true, false, false, false, false] #[true, true, false, true, true, false, true, true, false, false, true, false] rfl rfl rfl rfl (by kernel_rfl) (by decide) (by decide) (fun K hK => ?_) (fun K hK => ?_)
      · refine value_ (w1 := ?_) (v := ?_) (by rfl) rfl ?_ ?_
        rotate_left 2
        · go_simp
          constructor
          · rfl
          · rfl
        have B_28 := Aside0.mk (below_alloc B_27.out (.cells #[] 27))
        have X_28 := Aside0.mk (blk_alloc X_27.out (.cells #[] 27))
        have G_28 := Aside0.mk (blk_alloc G_27.out (.cells #[] 27))
        have LG_28 := Aside0.mk (show w3.heap.size < (wn27.alloc (.cells #[] 27)).heap.size by have := LG_27.out; rw [size_alloc]; omega)
        have O15_28 := Aside0.mk (R_new27 wn27 w.heap.size B_27.out.size)
        have LX_28 := Aside0.mk (show wn27.heap.size < (wn27.alloc (.cells #[] 27)).heap.size by rw [size_alloc]; omega)
        have NE_28 := Aside0.mk (Nat.ne_of_lt LG_27.out)
        refine hK.out _ _ ⟨(blk_cell X_28.out 0).trans rfl, (blk_cell X_28.out 1).trans rfl⟩ (fun hHeld => ?_)
        clear hK K B_27 X_27 G_27 LG_27
        refine norm_ (a' := ?_) ?_ ?_
        rotate_left
        · show Act.put _ (some 15) _ = _
          simp only [Act.put, List.setIfInBounds_toArray, List.set_cons_zero, List.set_cons_succ, i64_w, i32_w]
          rfl
        generalize wn27.alloc (.cells #[] 27) = wn28 at *
        refine two_ (i := 5) (j := 10) (Ni := (some 18)) (Nj := (some 4)) #[true, true, true, true, true, true, true, true, false, false, false, false] #[true, true, true, true, true, false, true, true, false, false, true, false] rfl rfl rfl rfl (by kernel_rfl) (by decide) (by decide) (fun K hK => ?_) (fun K hK => ?_)
        · refine Kd.R_append_rows_step k27 (w0 := w) w.heap.size (by rfl) (.tmp 15) (.tmp 17) 22 27 (.agg #[.string ⟨#[]⟩, .string ⟨#[]⟩, .bool false]) 40 rfl Try.underlying22 info27 rfl (by decide) (by decide) _ ([] : List W27) l A l.length c (fun _ => True) (fun _ => False) rfl rfl O15_28.out (Kd.C_below HR.out B_28.out) (fun _ _ h => h) (fun _ h => h.elim) (fun _ _ => trivial) B_28.out B_28.out.size (by have := HBY.out; simp; omega) ?_
          intro v18 wn29 ho hb hg hat
          have B_29 := Aside0.mk hb
          have X_29 := Aside0.mk (blk_grown X_28.out hg (Kd.R_ne O15_28.out X_28.out (by decide)))
          have G_29 := Aside0.mk (blk_grown G_28.out hg (show some w3.heap.size ≠ some wn27.heap.size from fun e => NE_28.out (Option.some.inj e)))
          have O18_29 := Aside0.mk ho
          refine hK.out _ _ ⟨(blk_cell X_29.out 0).trans rfl, (blk_cell X_29.out 1).trans rfl⟩ (fun hHeld => ?_)
          clear hK K ho hb hg hat B_28 X_28 G_28 LG_28 O15_28 LX_28
          refine norm_ (a' := ?_) ?_ ?_
          rotate_left
          · show Act.put _ (some 18) _ = _
            simp only [Act.put, List.setIfInBounds_toArray, List.set_cons_zero, List.set_cons_succ, i64_w, i32_w]
            rfl
          refine two_ (i := 8) (j := 10) (Ni := (some 21)) (Nj := (some 4)) #[true, true, true, true, true, true, true, true, true, false, false, false] #[true, true, true, true, true, true, true, true, false, false, true, false] rfl rfl rfl rfl (by kernel_rfl) (by decide) (by decide) (fun K hK => ?_) (fun K hK => ?_)
          · refine Kd.R_append_rows_step k27 (w0 := w) w.heap.size (by rfl) (.tmp 18) (.tmp 20) 22 27 (.agg #[.string ⟨#[]⟩, .string ⟨#[]⟩, .bool false]) 40 rfl Try.underlying22 info27 rfl (by decide) (by decide) _ ([] ++ l) [markW] _ 1 1 (fun _ => True) (fun _ => False) rfl rfl O18_29.out (C_mark G_29.out) (fun _ _ h => h) (fun _ h => h.elim) (fun _ _ => trivial) B_29.out B_29.out.size (by have := HBY.out; simp; omega) ?_
            intro v21 wn30 ho hb hg hat
            have B_30 := Aside0.mk hb
            have X_30 := Aside0.mk (blk_grown X_29.out hg (Kd.R_ne O18_29.out X_29.out (by decide)))
            obtain ⟨A21, c21, rfl⟩ := Kd.R_slice ho
            have hL : ([] ++ l ++ [markW]).length = l.length + 1 := by simp
            rw [hL] at ho ⊢
            clear hL
            have O21_30 := Aside0.mk ho
            refine hK.out _ _ ⟨(blk_cell X_30.out 0).trans rfl, (blk_cell X_30.out 1).trans rfl⟩ (fun hHeld => ?_)
            clear hK K ho hb hg hat B_29 X_29 G_29 O18_29
            refine norm_ (a' := ?_) ?_ ?_
            rotate_left
            · show Act.put _ (some 21) _ = _
              simp only [Act.put, List.setIfInBounds_toArray, List.set_cons_zero, List.set_cons_succ, i64_w, i32_w]
              rfl
            refine pure_ (i := 9) (N := (some 22)) (v := ?_) (a' := ?_) #[true, true, true, true, true, true, true, true, true, true, false, false] rfl rfl (by kernel_rfl) (fun _ _ _ h => h) (Or.inl ⟨by rfl, ?_⟩) ?_ ?_
            rotate_left
            · intro w'
              go_simp
              with_reducible rfl
            rotate_left
            · simp only [Act.put, List.setIfInBounds_toArray, List.set_cons_zero, List.set_cons_succ, i64_w, i32_w]
              rfl
            refine one_ (i := 10) (N := (some 4)) #[true, true, true, true, true, true, true, true, true, true, true, false] rfl rfl (by kernel_rfl) (by decide) (fun K hK => ?_)
            refine value_ (w1 := ?_) (v := ?_) (by rfl) rfl ?_ ?_
            rotate_left 2
            · go_simp
              constructor
              · rfl
              · rfl
            have B_31 := Aside0.mk (below_alloc B_30.out (.cells #[.int .i64 0, .slice none 0 0] 24))
            have X_31 := Aside0.mk (blk_alloc X_30.out (.cells #[.int .i64 0, .slice none 0 0] 24))
            have O21_31 := Aside0.mk (Kd.R_alloc O21_30.out (.cells #[.int .i64 0, .slice none 0 0] 24))
            have Q_31 := Aside0.mk (blk_new wn30 (.cells #[.int .i64 0, .slice none 0 0] 24))
            have QB_31 := Aside0.mk (blk_lt X_30.out)
            refine hK.out _ _ ⟨(blk_cell X_31.out 0).trans rfl, (blk_cell X_31.out 1).trans rfl⟩ (fun hHeld => ?_)
            clear hK K B_30 X_30 O21_30
            refine norm_ (a' := ?_) ?_ ?_
            rotate_left
            · show Act.put _ (some 4) _ = _
              simp only [Act.put, List.setIfInBounds_toArray, List.set_cons_zero, List.set_cons_succ, i64_w, i32_w]
              rfl
            generalize wn30.alloc (.cells #[.int .i64 0, .slice none 0 0] 24) = wn31 at *
            refine last_ (i := 11) (N := none) #[true, true, true, true, true, true, true, true, true, true, true, true] rfl rfl (by kernel_rfl) (by decide) (fun K hK => ?_)
            have f0 := blk_frozen Q_31.out 0
            have f1 := blk_frozen Q_31.out 1
            have c0 := (blk_cell Q_31.out 0).trans rfl
            have c1 := (blk_cell Q_31.out 1).trans rfl
            go_simp
            refine hK.out _ _ ?_
            clear hK K hHeld f0 f1 c0 c1
            refine done_ (by kernel_rfl) ?_
            have hx := blk_far (blk_far X_31.out (p := ⟨wn30.heap.size, 0, none⟩) (Nat.ne_of_lt QB_31.out) (.int .i64 t)) (p := ⟨wn30.heap.size, 1, none⟩) (Nat.ne_of_lt QB_31.out) (.slice A21 (l.length + 1) c21)
            have hq := blk_put (blk_put Q_31.out 0 (.int .i64 t) rfl) 1 (.slice A21 (l.length + 1) c21) rfl
            have ho := Kd.R_set (Kd.R_set O21_31.out Q_31.out (by simp [k27, Kd.iso, Kd.pair, Kd.string, Kd.bool, Kd.scalar]) 0 (.int .i64 t)) (blk_put Q_31.out 0 (.int .i64 t) rfl) (by simp [k27, Kd.iso, Kd.pair, Kd.string, Kd.bool, Kd.scalar]) 1 (.slice A21 (l.length + 1) c21)
            have hb := Below.setCell (Below.setCell B_31.out (p := ⟨wn30.heap.size, 0, none⟩) (Nat.le_of_lt QB_31.out) (.int .i64 t)) (p := ⟨wn30.heap.size, 1, none⟩) (Nat.le_of_lt QB_31.out) (.slice A21 (l.length + 1) c21)
            have HFIN := Aside0.mk (And.intro hx (And.intro hq (And.intro ho hb)))
            clear hx hq ho hb B_31 X_31 O21_31 Q_31
            go_wp2
            go_meet
            case rel => exact ⟨wn30.heap.size, A21, c21, rfl, ⟨HFIN.out.2.1⟩, ⟨HFIN.out.2.2.1⟩, ⟨HFIN.out.2.2.2⟩, QB_31, ⟨HFIN.out.1⟩⟩
          · refine value_ (w1 := ?_) (v := ?_) (by rfl) rfl ?_ ?_
            rotate_left 2
            · go_simp
              constructor
              · rfl
              · rfl
            have B_32 := Aside0.mk (below_alloc B_29.out (.cells #[.int .i64 0, .slice none 0 0] 24))
            have X_32 := Aside0.mk (blk_alloc X_29.out (.cells #[.int .i64 0, .slice none 0 0] 24))
            have G_32 := Aside0.mk (blk_alloc G_29.out (.cells #[.int .i64 0, .slice none 0 0] 24))
            have O18_32 := Aside0.mk (Kd.R_alloc O18_29.out (.cells #[.int .i64 0, .slice none 0 0] 24))
            have Q_32 := Aside0.mk (blk_new wn29 (.cells #[.int .i64 0, .slice none 0 0] 24))
            have QB_32 := Aside0.mk (blk_lt X_29.out)
            refine hK.out _ _ ⟨(blk_cell X_32.out 0).trans rfl, (blk_cell X_32.out 1).trans rfl⟩ (fun hHeld => ?_)
            clear hK K B_29 X_29 G_29 O18_29
            refine norm_ (a' := ?_) ?_ ?_
            rotate_left
            · show Act.put _ (some 4) _ = _
              simp only [Act.put, List.setIfInBounds_toArray, List.set_cons_zero, List.set_cons_succ, i64_w, i32_w]
              rfl
            generalize wn29.alloc (.cells #[.int .i64 0, .slice none 0 0] 24) = wn32 at *
            refine one_ (i := 8) (N := (some 21)) #[true, true, true, true, true, true, true, true, true, false, true, false] rfl rfl (by kernel_rfl) (by decide) (fun K hK => ?_)
            refine Kd.R_append_rows_step k27 (w0 := w) w.heap.size (by rfl) (.tmp 18) (.tmp 20) 22 27 (.agg #[.string ⟨#[]⟩, .string ⟨#[]⟩, .bool false]) 40 rfl Try.underlying22 info27 rfl (by decide) (by decide) _ ([] ++ l) [markW] _ 1 1 (fun _ => True) (fun _ => False) rfl rfl O18_32.out (C_mark G_32.out) (fun _ _ h => h) (fun _ h => h.elim) (fun _ _ => trivial) B_32.out B_32.out.size (by have := HBY.out; simp; omega) ?_
            intro v21 wn33 ho hb hg hat
            have B_33 := Aside0.mk hb
            have X_33 := Aside0.mk (blk_grown X_32.out hg (Kd.R_ne O18_32.out X_32.out (by decide)))
            have Q_33 := Aside0.mk (blk_grown Q_32.out hg (Kd.R_ne O18_32.out Q_32.out (by decide)))
            obtain ⟨A21, c21, rfl⟩ := Kd.R_slice ho
            have hL : ([] ++ l ++ [markW]).length = l.length + 1 := by simp
            rw [hL] at ho ⊢
            clear hL
            have O21_33 := Aside0.mk ho
            refine hK.out _ _ ⟨(blk_cell X_33.out 0).trans rfl, (blk_cell X_33.out 1).trans rfl⟩ (fun hHeld => ?_)
            clear hK K ho hb hg hat B_32 X_32 G_32 O18_32 Q_32
            refine norm_ (a' := ?_) ?_ ?_
            rotate_left
            · show Act.put _ (some 21) _ = _
              simp only [Act.put, List.setIfInBounds_toArray, List.set_cons_zero, List.set_cons_succ, i64_w, i32_w]
              rfl
            refine pure_ (i := 9) (N := (some 22)) (v := ?_) (a' := ?_) #[true, true, true, true, true, true, true, true, true, true, true, false] rfl rfl (by kernel_rfl) (fun _ _ _ h => h) (Or.inl ⟨by rfl, ?_⟩) ?_ ?_
            rotate_left
            · intro w'
              go_simp
              with_reducible rfl
            rotate_left
            · simp only [Act.put, List.setIfInBounds_toArray, List.set_cons_zero, List.set_cons_succ, i64_w, i32_w]
              rfl
            refine last_ (i := 11) (N := none) #[true, true, true, true, true, true, true, true, true, true, true, true] rfl rfl (by kernel_rfl) (by decide) (fun K hK => ?_)
            have f0 := blk_frozen Q_33.out 0
            have f1 := blk_frozen Q_33.out 1
            have c0 := (blk_cell Q_33.out 0).trans rfl
            have c1 := (blk_cell Q_33.out 1).trans rfl
            go_simp
            refine hK.out _ _ ?_
            clear hK K hHeld f0 f1 c0 c1
            refine done_ (by kernel_rfl) ?_
            have hx := blk_far (blk_far X_33.out (p := ⟨wn29.heap.size, 0, none⟩) (Nat.ne_of_lt QB_32.out) (.int .i64 t)) (p := ⟨wn29.heap.size, 1, none⟩) (Nat.ne_of_lt QB_32.out) (.slice A21 (l.length + 1) c21)
            have hq := blk_put (blk_put Q_33.out 0 (.int .i64 t) rfl) 1 (.slice A21 (l.length + 1) c21) rfl
            have ho := Kd.R_set (Kd.R_set O21_33.out Q_33.out (by simp [k27, Kd.iso, Kd.pair, Kd.string, Kd.bool, Kd.scalar]) 0 (.int .i64 t)) (blk_put Q_33.out 0 (.int .i64 t) rfl) (by simp [k27, Kd.iso, Kd.pair, Kd.string, Kd.bool, Kd.scalar]) 1 (.slice A21 (l.length + 1) c21)
            have hb := Below.setCell (Below.setCell B_33.out (p := ⟨wn29.heap.size, 0, none⟩) (Nat.le_of_lt QB_32.out) (.int .i64 t)) (p := ⟨wn29.heap.size, 1, none⟩) (Nat.le_of_lt QB_32.out) (.slice A21 (l.length + 1) c21)
            have HFIN := Aside0.mk (And.intro hx (And.intro hq (And.intro ho hb)))
            clear hx hq ho hb B_33 X_33 Q_33 O21_33
            go_wp2
            go_meet
            case rel => exact ⟨wn29.heap.size, A21, c21, rfl, ⟨HFIN.out.2.1⟩, ⟨HFIN.out.2.2.1⟩, ⟨HFIN.out.2.2.2⟩, QB_32, ⟨HFIN.out.1⟩⟩
        · refine value_ (w1 := ?_) (v := ?_) (by rfl) rfl ?_ ?_
          rotate_left 2
          · go_simp
            constructor
            · rfl
            · rfl
          have B_34 := Aside0.mk (below_alloc B_28.out (.cells #[.int .i64 0, .slice none 0 0] 24))
          have X_34 := Aside0.mk (blk_alloc X_28.out (.cells #[.int .i64 0, .slice none 0 0] 24))
          have G_34 := Aside0.mk (blk_alloc G_28.out (.cells #[.int .i64 0, .slice none 0 0] 24))
          have LG_34 := Aside0.mk (show w3.heap.size < (wn28.alloc (.cells #[.int .i64 0, .slice none 0 0] 24)).heap.size by have := LG_28.out; rw [size_alloc]; omega)
          have O15_34 := Aside0.mk (Kd.R_alloc O15_28.out (.cells #[.int .i64 0, .slice none 0 0] 24))
          have LX_34 := Aside0.mk (show wn27.heap.size < (wn28.alloc (.cells #[.int .i64 0, .slice none 0 0] 24)).heap.size by have := LX_28.out; rw [size_alloc]; omega)
          have Q_34 := Aside0.mk (blk_new wn28 (.cells #[.int .i64 0, .slice none 0 0] 24))
          have QB_34 := Aside0.mk (blk_lt X_28.out)
          refine hK.out _ _ ⟨(blk_cell X_34.out 0).trans rfl, (blk_cell X_34.out 1).trans rfl⟩ (fun hHeld => ?_)
          clear hK K B_28 X_28 G_28 LG_28 O15_28 LX_28
          refine norm_ (a' := ?_) ?_ ?_
          rotate_left
          · show Act.put _ (some 4) _ = _
            simp only [Act.put, List.setIfInBounds_toArray, List.set_cons_zero, List.set_cons_succ, i64_w, i32_w]
            rfl
          generalize wn28.alloc (.cells #[.int .i64 0, .slice none 0 0] 24) = wn34 at *
          refine one_ (i := 5) (N := (some 18)) #[true, true, true, true, true, true, true, true, false, false, true, false] rfl rfl (by kernel_rfl) (by decide) (fun K hK => ?_)
          refine Kd.R_append_rows_step k27 (w0 := w) w.heap.size (by rfl) (.tmp 15) (.tmp 17) 22 27 (.agg #[.string ⟨#[]⟩, .string ⟨#[]⟩, .bool false]) 40 rfl Try.underlying22 info27 rfl (by decide) (by decide) _ ([] : List W27) l A l.length c (fun _ => True) (fun _ => False) rfl rfl O15_34.out (Kd.C_below HR.out B_34.out) (fun _ _ h => h) (fun _ h => h.elim) (fun _ _ => trivial) B_34.out B_34.out.size (by have := HBY.out; simp; omega) ?_
          intro v18 wn35 ho hb hg hat
          have B_35 := Aside0.mk hb
          have X_35 := Aside0.mk (blk_grown X_34.out hg (Kd.R_ne O15_34.out X_34.out (by decide)))
          have G_35 := Aside0.mk (blk_grown G_34.out hg (show some w3.heap.size ≠ some wn27.heap.size from fun e => NE_28.out (Option.some.inj e)))
          have Q_35 := Aside0.mk (blk_grown Q_34.out hg (Kd.R_ne O15_34.out Q_34.out (by decide)))
          have O18_35 := Aside0.mk ho
          refine hK.out _ _ ⟨(blk_cell X_35.out 0).trans rfl, (blk_cell X_35.out 1).trans rfl⟩ (fun hHeld => ?_)
          clear hK K ho hb hg hat B_34 X_34 G_34 LG_34 O15_34 LX_34 Q_34
          refine norm_ (a' := ?_) ?_ ?_
          rotate_left
          · show Act.put _ (some 18) _ = _
            simp only [Act.put, List.setIfInBounds_toArray, List.set_cons_zero, List.set_cons_succ, i64_w, i32_w]
            rfl
          refine one_ (i := 8) (N := (some 21)) #[true, true, true, true, true, true, true, true, true, false, true, false] rfl rfl (by kernel_rfl) (by decide) (fun K hK => ?_)
          refine Kd.R_append_rows_step k27 (w0 := w) w.heap.size (by rfl) (.tmp 18) (.tmp 20) 22 27 (.agg #[.string ⟨#[]⟩, .string ⟨#[]⟩, .bool false]) 40 rfl Try.underlying22 info27 rfl (by decide) (by decide) _ ([] ++ l) [markW] _ 1 1 (fun _ => True) (fun _ => False) rfl rfl O18_35.out (C_mark G_35.out) (fun _ _ h => h) (fun _ h => h.elim) (fun _ _ => trivial) B_35.out B_35.out.size (by have := HBY.out; simp; omega) ?_
          intro v21 wn36 ho hb hg hat
          have B_36 := Aside0.mk hb
          have X_36 := Aside0.mk (blk_grown X_35.out hg (Kd.R_ne O18_35.out X_35.out (by decide)))
          have Q_36 := Aside0.mk (blk_grown Q_35.out hg (Kd.R_ne O18_35.out Q_35.out (by decide)))
          obtain ⟨A21, c21, rfl⟩ := Kd.R_slice ho
          have hL : ([] ++ l ++ [markW]).length = l.length + 1 := by simp
          rw [hL] at ho ⊢
          clear hL
          have O21_36 := Aside0.mk ho
          refine hK.out _ _ ⟨(blk_cell X_36.out 0).trans rfl, (blk_cell X_36.out 1).trans rfl⟩ (fun hHeld => ?_)
          clear hK K ho hb hg hat B_35 X_35 G_35 Q_35 O18_35
          refine norm_ (a' := ?_) ?_ ?_
          rotate_left
          · show Act.put _ (some 21) _ = _
            simp only [Act.put, List.setIfInBounds_toArray, List.set_cons_zero, List.set_cons_succ, i64_w, i32_w]
            rfl
          refine pure_ (i := 9) (N := (some 22)) (v := ?_) (a' := ?_) #[true, true, true, true, true, true, true, true, true, true, true, false] rfl rfl (by kernel_rfl) (fun _ _ _ h => h) (Or.inl ⟨by rfl, ?_⟩) ?_ ?_
          rotate_left
          · intro w'
            go_simp
            with_reducible rfl
          rotate_left
          · simp only [Act.put, List.setIfInBounds_toArray, List.set_cons_zero, List.set_cons_succ, i64_w, i32_w]
            rfl
          refine last_ (i := 11) (N := none) #[true, true, true, true, true, true, true, true, true, true, true, true] rfl rfl (by kernel_rfl) (by decide) (fun K hK => ?_)
          have f0 := blk_frozen Q_36.out 0
          have f1 := blk_frozen Q_36.out 1
          have c0 := (blk_cell Q_36.out 0).trans rfl
          have c1 := (blk_cell Q_36.out 1).trans rfl
          go_simp
          refine hK.out _ _ ?_
          clear hK K hHeld f0 f1 c0 c1
          refine done_ (by kernel_rfl) ?_
          have hx := blk_far (blk_far X_36.out (p := ⟨wn28.heap.size, 0, none⟩) (Nat.ne_of_lt QB_34.out) (.int .i64 t)) (p := ⟨wn28.heap.size, 1, none⟩) (Nat.ne_of_lt QB_34.out) (.slice A21 (l.length + 1) c21)
          have hq := blk_put (blk_put Q_36.out 0 (.int .i64 t) rfl) 1 (.slice A21 (l.length + 1) c21) rfl
          have ho := Kd.R_set (Kd.R_set O21_36.out Q_36.out (by simp [k27, Kd.iso, Kd.pair, Kd.string, Kd.bool, Kd.scalar]) 0 (.int .i64 t)) (blk_put Q_36.out 0 (.int .i64 t) rfl) (by simp [k27, Kd.iso, Kd.pair, Kd.string, Kd.bool, Kd.scalar]) 1 (.slice A21 (l.length + 1) c21)
          have hb := Below.setCell (Below.setCell B_36.out (p := ⟨wn28.heap.size, 0, none⟩) (Nat.le_of_lt QB_34.out) (.int .i64 t)) (p := ⟨wn28.heap.size, 1, none⟩) (Nat.le_of_lt QB_34.out) (.slice A21 (l.length + 1) c21)
          have HFIN := Aside0.mk (And.intro hx (And.intro hq (And.intro ho hb)))
          clear hx hq ho hb B_36 X_36 Q_36 O21_36
          go_wp2
          go_meet
          case rel => exact ⟨wn28.heap.size, A21, c21, rfl, ⟨HFIN.out.2.1⟩, ⟨HFIN.out.2.2.1⟩, ⟨HFIN.out.2.2.2⟩, QB_34, ⟨HFIN.out.1⟩⟩
      · refine value_ (w1 := ?_) (v := ?_) (by rfl) rfl ?_ ?_
        rotate_left 2
        · go_simp
          constructor
          · rfl
          · rfl
        have B_37 := Aside0.mk (below_alloc B_27.out (.cells #[.int .i64 0, .slice none 0 0] 24))
        have X_37 := Aside0.mk (blk_alloc X_27.out (.cells #[.int .i64 0, .slice none 0 0] 24))
        have G_37 := Aside0.mk (blk_alloc G_27.out (.cells #[.int .i64 0, .slice none 0 0] 24))
        have LG_37 := Aside0.mk (show w3.heap.size < (wn27.alloc (.cells #[.int .i64 0, .slice none 0 0] 24)).heap.size by have := LG_27.out; rw [size_alloc]; omega)
        have Q_37 := Aside0.mk (blk_new wn27 (.cells #[.int .i64 0, .slice none 0 0] 24))
        have QB_37 := Aside0.mk (blk_lt X_27.out)
        refine hK.out _ _ ⟨(blk_cell X_37.out 0).trans rfl, (blk_cell X_37.out 1).trans rfl⟩ (fun hHeld => ?_)
        clear hK K B_27 X_27 G_27 LG_27
        refine norm_ (a' := ?_) ?_ ?_
        rotate_left
        · show Act.put _ (some 4) _ = _
          simp only [Act.put, List.setIfInBounds_toArray, List.set_cons_zero, List.set_cons_succ, i64_w, i32_w]
          rfl
        generalize wn27.alloc (.cells #[.int .i64 0, .slice none 0 0] 24) = wn37 at *
        refine one_ (i := 2) (N := (some 15)) #[true, true, true, true, true, false, true, true, false, false, true, false] rfl rfl (by kernel_rfl) (by decide) (fun K hK => ?_)
        refine value_ (w1 := ?_) (v := ?_) (by rfl) rfl ?_ ?_
        rotate_left 2
        · go_simp
          constructor
          · rfl
          · rfl
        have B_38 := Aside0.mk (below_alloc B_37.out (.cells #[] 27))
        have X_38 := Aside0.mk (blk_alloc X_37.out (.cells #[] 27))
        have G_38 := Aside0.mk (blk_alloc G_37.out (.cells #[] 27))
        have LG_38 := Aside0.mk (show w3.heap.size < (wn37.alloc (.cells #[] 27)).heap.size by have := LG_37.out; rw [size_alloc]; omega)
        have Q_38 := Aside0.mk (blk_alloc Q_37.out (.cells #[] 27))
        have O15_38 := Aside0.mk (R_new27 wn37 w.heap.size B_37.out.size)
        have LX_38 := Aside0.mk (show wn37.heap.size < (wn37.alloc (.cells #[] 27)).heap.size by rw [size_alloc]; omega)
        have NE_38 := Aside0.mk (Nat.ne_of_lt LG_37.out)
        refine hK.out _ _ ⟨(blk_cell X_38.out 0).trans rfl, (blk_cell X_38.out 1).trans rfl⟩ (fun hHeld => ?_)
        clear hK K B_37 X_37 G_37 LG_37 Q_37
        refine norm_ (a' := ?_) ?_ ?_
        rotate_left
        · show Act.put _ (some 15) _ = _
          simp only [Act.put, List.setIfInBounds_toArray, List.set_cons_zero, List.set_cons_succ, i64_w, i32_w]
          rfl
        generalize wn37.alloc (.cells #[] 27) = wn38 at *
        refine one_ (i := 5) (N := (some 18)) #[true, true, true, true, true, true, true, true, false, false, true, false] rfl rfl (by kernel_rfl) (by decide) (fun K hK => ?_)
        refine Kd.R_append_rows_step k27 (w0 := w) w.heap.size (by rfl) (.tmp 15) (.tmp 17) 22 27 (.agg #[.string ⟨#[]⟩, .string ⟨#[]⟩, .bool false]) 40 rfl Try.underlying22 info27 rfl (by decide) (by decide) _ ([] : List W27) l A l.length c (fun _ => True) (fun _ => False) rfl rfl O15_38.out (Kd.C_below HR.out B_38.out) (fun _ _ h => h) (fun _ h => h.elim) (fun _ _ => trivial) B_38.out B_38.out.size (by have := HBY.out; simp; omega) ?_
        intro v18 wn39 ho hb hg hat
        have B_39 := Aside0.mk hb
        have X_39 := Aside0.mk (blk_grown X_38.out hg (Kd.R_ne O15_38.out X_38.out (by decide)))
        have G_39 := Aside0.mk (blk_grown G_38.out hg (show some w3.heap.size ≠ some wn37.heap.size from fun e => NE_38.out (Option.some.inj e)))
        have Q_39 := Aside0.mk (blk_grown Q_38.out hg (Kd.R_ne O15_38.out Q_38.out (by decide)))
        have O18_39 := Aside0.mk ho
        refine hK.out _ _ ⟨(blk_cell X_39.out 0).trans rfl, (blk_cell X_39.out 1).trans rfl⟩ (fun hHeld => ?_)
        clear hK K ho hb hg hat B_38 X_38 G_38 LG_38 Q_38 O15_38 LX_38
        refine norm_ (a' := ?_) ?_ ?_
        rotate_left
        · show Act.put _ (some 18) _ = _
          simp only [Act.put, List.setIfInBounds_toArray, List.set_cons_zero, List.set_cons_succ, i64_w, i32_w]
          rfl
        refine one_ (i := 8) (N := (some 21)) #[true, true, true, true, true, true, true, true, true, false, true, false] rfl rfl (by kernel_rfl) (by decide) (fun K hK => ?_)
        refine Kd.R_append_rows_step k27 (w0 := w) w.heap.size (by rfl) (.tmp 18) (.tmp 20) 22 27 (.agg #[.string ⟨#[]⟩, .string ⟨#[]⟩, .bool false]) 40 rfl Try.underlying22 info27 rfl (by decide) (by decide) _ ([] ++ l) [markW] _ 1 1 (fun _ => True) (fun _ => False) rfl rfl O18_39.out (C_mark G_39.out) (fun _ _ h => h) (fun _ h => h.elim) (fun _ _ => trivial) B_39.out B_39.out.size (by have := HBY.out; simp; omega) ?_
        intro v21 wn40 ho hb hg hat
        have B_40 := Aside0.mk hb
        have X_40 := Aside0.mk (blk_grown X_39.out hg (Kd.R_ne O18_39.out X_39.out (by decide)))
        have Q_40 := Aside0.mk (blk_grown Q_39.out hg (Kd.R_ne O18_39.out Q_39.out (by decide)))
        obtain ⟨A21, c21, rfl⟩ := Kd.R_slice ho
        have hL : ([] ++ l ++ [markW]).length = l.length + 1 := by simp
        rw [hL] at ho ⊢
        clear hL
        have O21_40 := Aside0.mk ho
        refine hK.out _ _ ⟨(blk_cell X_40.out 0).trans rfl, (blk_cell X_40.out 1).trans rfl⟩ (fun hHeld => ?_)
        clear hK K ho hb hg hat B_39 X_39 G_39 Q_39 O18_39
        refine norm_ (a' := ?_) ?_ ?_
        rotate_left
        · show Act.put _ (some 21) _ = _
          simp only [Act.put, List.setIfInBounds_toArray, List.set_cons_zero, List.set_cons_succ, i64_w, i32_w]
          rfl
        refine pure_ (i := 9) (N := (some 22)) (v := ?_) (a' := ?_) #[true, true, true, true, true, true, true, true, true, true, true, false] rfl rfl (by kernel_rfl) (fun _ _ _ h => h) (Or.inl ⟨by rfl, ?_⟩) ?_ ?_
        rotate_left
        · intro w'
          go_simp
          with_reducible rfl
        rotate_left
        · simp only [Act.put, List.setIfInBounds_toArray, List.set_cons_zero, List.set_cons_succ, i64_w, i32_w]
          rfl
        refine last_ (i := 11) (N := none) #[true, true, true, true, true, true, true, true, true, true, true, true] rfl rfl (by kernel_rfl) (by decide) (fun K hK => ?_)
        have f0 := blk_frozen Q_40.out 0
        have f1 := blk_frozen Q_40.out 1
        have c0 := (blk_cell Q_40.out 0).trans rfl
        have c1 := (blk_cell Q_40.out 1).trans rfl
        go_simp
        refine hK.out _ _ ?_
        clear hK K hHeld f0 f1 c0 c1
        refine done_ (by kernel_rfl) ?_
        have hx := blk_far (blk_far X_40.out (p := ⟨wn27.heap.size, 0, none⟩) (Nat.ne_of_lt QB_37.out) (.int .i64 t)) (p := ⟨wn27.heap.size, 1, none⟩) (Nat.ne_of_lt QB_37.out) (.slice A21 (l.length + 1) c21)
        have hq := blk_put (blk_put Q_40.out 0 (.int .i64 t) rfl) 1 (.slice A21 (l.length + 1) c21) rfl
        have ho := Kd.R_set (Kd.R_set O21_40.out Q_40.out (by simp [k27, Kd.iso, Kd.pair, Kd.string, Kd.bool, Kd.scalar]) 0 (.int .i64 t)) (blk_put Q_40.out 0 (.int .i64 t) rfl) (by simp [k27, Kd.iso, Kd.pair, Kd.string, Kd.bool, Kd.scalar]) 1 (.slice A21 (l.length + 1) c21)
        have hb := Below.setCell (Below.setCell B_40.out (p := ⟨wn27.heap.size, 0, none⟩) (Nat.le_of_lt QB_37.out) (.int .i64 t)) (p := ⟨wn27.heap.size, 1, none⟩) (Nat.le_of_lt QB_37.out) (.slice A21 (l.length + 1) c21)
        have HFIN := Aside0.mk (And.intro hx (And.intro hq (And.intro ho hb)))
        clear hx hq ho hb B_40 X_40 Q_40 O21_40
        go_wp2
        go_meet
        case rel => exact ⟨wn27.heap.size, A21, c21, rfl, ⟨HFIN.out.2.1⟩, ⟨HFIN.out.2.2.1⟩, ⟨HFIN.out.2.2.2⟩, QB_37, ⟨HFIN.out.1⟩⟩
    · refine value_ (w1 := ?_) (v := ?_) (by rfl) rfl ?_ ?_
      rotate_left 2
      · go_simp
        constructor
        · rfl
        · rfl
      have B_41 := Aside0.mk (below_alloc HB3.out (.cells #[.int .i64 0, .slice none 0 0] 24))
      have X_41 := Aside0.mk (blk_alloc HX3.out (.cells #[.int .i64 0, .slice none 0 0] 24))
      have Q_41 := Aside0.mk (blk_new w3 (.cells #[.int .i64 0, .slice none 0 0] 24))
      have QB_41 := Aside0.mk (blk_lt HX3.out)
      refine hK.out _ _ ⟨(blk_cell X_41.out 0).trans rfl, (blk_cell X_41.out 1).trans rfl⟩ (fun hHeld => ?_)
      clear hK K HB3 HX3
      refine norm_ (a' := ?_) ?_ ?_
      rotate_left
      · show Act.put _ (some 4) _ = _
        simp only [Act.put, List.setIfInBounds_toArray, List.set_cons_zero, List.set_cons_succ, i64_w, i32_w]
        rfl
      generalize w3.alloc (.cells #[.int .i64 0, .slice none 0 0] 24) = wn41 at *
      refine two_ (i := 2) (j := 7) (Ni := (some 15)) (Nj := (some 20)) #[true, true, true, true, true, false, true, false, false, false, true, false] #[true, true, false, true, true, false, true, true, false, false, true, false] rfl rfl rfl rfl (by kernel_rfl) (by decide) (by decide) (fun K hK => ?_) (fun K hK => ?_)
      · refine value_ (w1 := ?_) (v := ?_) (by rfl) rfl ?_ ?_
        rotate_left 2
        · go_simp
          constructor
          · rfl
          · rfl
        have B_42 := Aside0.mk (below_alloc B_41.out (.cells #[] 27))
        have X_42 := Aside0.mk (blk_alloc X_41.out (.cells #[] 27))
        have Q_42 := Aside0.mk (blk_alloc Q_41.out (.cells #[] 27))
        have O15_42 := Aside0.mk (R_new27 wn41 w.heap.size B_41.out.size)
        have LX_42 := Aside0.mk (show wn41.heap.size < (wn41.alloc (.cells #[] 27)).heap.size by rw [size_alloc]; omega)
        refine hK.out _ _ ⟨(blk_cell X_42.out 0).trans rfl, (blk_cell X_42.out 1).trans rfl⟩ (fun hHeld => ?_)
        clear hK K B_41 X_41 Q_41
        refine norm_ (a' := ?_) ?_ ?_
        rotate_left
        · show Act.put _ (some 15) _ = _
          simp only [Act.put, List.setIfInBounds_toArray, List.set_cons_zero, List.set_cons_succ, i64_w, i32_w]
          rfl
        generalize wn41.alloc (.cells #[] 27) = wn42 at *
        refine two_ (i := 5) (j := 7) (Ni := (some 18)) (Nj := (some 20)) #[true, true, true, true, true, true, true, false, false, false, true, false] #[true, true, true, true, true, false, true, true, false, false, true, false] rfl rfl rfl rfl (by kernel_rfl) (by decide) (by decide) (fun K hK => ?_) (fun K hK => ?_)
        · refine Kd.R_append_rows_step k27 (w0 := w) w.heap.size (by rfl) (.tmp 15) (.tmp 17) 22 27 (.agg #[.string ⟨#[]⟩, .string ⟨#[]⟩, .bool false]) 40 rfl Try.underlying22 info27 rfl (by decide) (by decide) _ ([] : List W27) l A l.length c (fun _ => True) (fun _ => False) rfl rfl O15_42.out (Kd.C_below HR.out B_42.out) (fun _ _ h => h) (fun _ h => h.elim) (fun _ _ => trivial) B_42.out B_42.out.size (by have := HBY.out; simp; omega) ?_
          intro v18 wn43 ho hb hg hat
          have B_43 := Aside0.mk hb
          have X_43 := Aside0.mk (blk_grown X_42.out hg (Kd.R_ne O15_42.out X_42.out (by decide)))
          have Q_43 := Aside0.mk (blk_grown Q_42.out hg (Kd.R_ne O15_42.out Q_42.out (by decide)))
          have O18_43 := Aside0.mk ho
          refine hK.out _ _ ⟨(blk_cell X_43.out 0).trans rfl, (blk_cell X_43.out 1).trans rfl⟩ (fun hHeld => ?_)
          clear hK K ho hb hg hat B_42 X_42 Q_42 O15_42 LX_42
          refine norm_ (a' := ?_) ?_ ?_
          rotate_left
          · show Act.put _ (some 18) _ = _
            simp only [Act.put, List.setIfInBounds_toArray, List.set_cons_zero, List.set_cons_succ, i64_w, i32_w]
            rfl
          refine one_ (i := 7) (N := (some 20)) #[true, true, true, true, true, true, true, true, false, false, true, false] rfl rfl (by kernel_rfl) (by decide) (fun K hK => ?_)
          refine value_ (w1 := ?_) (v := ?_) (by rfl) rfl ?_ ?_
          rotate_left 2
          · go_simp
            constructor
            · rfl
            · rfl
          have B_44 := Aside0.mk (below_alloc B_43.out (.cells #[.string ⟨#[109, 97, 114, 107]⟩, .string ⟨#[]⟩, .bool false] 27))
          have X_44 := Aside0.mk (blk_alloc X_43.out (.cells #[.string ⟨#[109, 97, 114, 107]⟩, .string ⟨#[]⟩, .bool false] 27))
          have Q_44 := Aside0.mk (blk_alloc Q_43.out (.cells #[.string ⟨#[109, 97, 114, 107]⟩, .string ⟨#[]⟩, .bool false] 27))
          have O18_44 := Aside0.mk (Kd.R_alloc O18_43.out (.cells #[.string ⟨#[109, 97, 114, 107]⟩, .string ⟨#[]⟩, .bool false] 27))
          have G_44 := Aside0.mk (blk_new wn43 (.cells #[.string ⟨#[109, 97, 114, 107]⟩, .string ⟨#[]⟩, .bool false] 27))
          have LG_44 := Aside0.mk (show wn43.heap.size < (wn43.alloc (.cells #[.string ⟨#[109, 97, 114, 107]⟩, .string ⟨#[]⟩, .bool false] 27)).heap.size by rw [size_alloc]; omega)
          refine hK.out _ _ ⟨(blk_cell X_44.out 0).trans rfl, (blk_cell X_44.out 1).trans rfl⟩ (fun hHeld => ?_)
          clear hK K B_43 X_43 Q_43 O18_43
          refine norm_ (a' := ?_) ?_ ?_
          rotate_left
          · show Act.put _ (some 20) _ = _
            simp only [Act.put, List.setIfInBounds_toArray, List.set_cons_zero, List.set_cons_succ, i64_w, i32_w]
            rfl
          generalize wn43.alloc (.cells #[.string ⟨#[109, 97, 114, 107]⟩, .string ⟨#[]⟩, .bool false] 27) = wn44 at *
          refine one_ (i := 8) (N := (some 21)) #[true, true, true, true, true, true, true, true, true, false, true, false] rfl rfl (by kernel_rfl) (by decide) (fun K hK => ?_)
          refine Kd.R_append_rows_step k27 (w0 := w) w.heap.size (by rfl) (.tmp 18) (.tmp 20) 22 27 (.agg #[.string ⟨#[]⟩, .string ⟨#[]⟩, .bool false]) 40 rfl Try.underlying22 info27 rfl (by decide) (by decide) _ ([] ++ l) [markW] _ 1 1 (fun _ => True) (fun _ => False) rfl rfl O18_44.out (C_mark G_44.out) (fun _ _ h => h) (fun _ h => h.elim) (fun _ _ => trivial) B_44.out B_44.out.size (by have := HBY.out; simp; omega) ?_
          intro v21 wn45 ho hb hg hat
          have B_45 := Aside0.mk hb
          have X_45 := Aside0.mk (blk_grown X_44.out hg (Kd.R_ne O18_44.out X_44.out (by decide)))
          have Q_45 := Aside0.mk (blk_grown Q_44.out hg (Kd.R_ne O18_44.out Q_44.out (by decide)))
          obtain ⟨A21, c21, rfl⟩ := Kd.R_slice ho
          have hL : ([] ++ l ++ [markW]).length = l.length + 1 := by simp
          rw [hL] at ho ⊢
          clear hL
          have O21_45 := Aside0.mk ho
          refine hK.out _ _ ⟨(blk_cell X_45.out 0).trans rfl, (blk_cell X_45.out 1).trans rfl⟩ (fun hHeld => ?_)
          clear hK K ho hb hg hat B_44 X_44 Q_44 O18_44 G_44 LG_44
          refine norm_ (a' := ?_) ?_ ?_
          rotate_left
          · show Act.put _ (some 21) _ = _
            simp only [Act.put, List.setIfInBounds_toArray, List.set_cons_zero, List.set_cons_succ, i64_w, i32_w]
            rfl
          refine pure_ (i := 9) (N := (some 22)) (v := ?_) (a' := ?_) #[true, true, true, true, true, true, true, true, true, true, true, false] rfl rfl (by kernel_rfl) (fun _ _ _ h => h) (Or.inl ⟨by rfl, ?_⟩) ?_ ?_
          rotate_left
          · intro w'
            go_simp
            with_reducible rfl
          rotate_left
          · simp only [Act.put, List.setIfInBounds_toArray, List.set_cons_zero, List.set_cons_succ, i64_w, i32_w]
            rfl
          refine last_ (i := 11) (N := none) #[true, true, true, true, true, true, true, true, true, true, true, true] rfl rfl (by kernel_rfl) (by decide) (fun K hK => ?_)
          have f0 := blk_frozen Q_45.out 0
          have f1 := blk_frozen Q_45.out 1
          have c0 := (blk_cell Q_45.out 0).trans rfl
          have c1 := (blk_cell Q_45.out 1).trans rfl
          go_simp
          refine hK.out _ _ ?_
          clear hK K hHeld f0 f1 c0 c1
          refine done_ (by kernel_rfl) ?_
          have hx := blk_far (blk_far X_45.out (p := ⟨w3.heap.size, 0, none⟩) (Nat.ne_of_lt QB_41.out) (.int .i64 t)) (p := ⟨w3.heap.size, 1, none⟩) (Nat.ne_of_lt QB_41.out) (.slice A21 (l.length + 1) c21)
          have hq := blk_put (blk_put Q_45.out 0 (.int .i64 t) rfl) 1 (.slice A21 (l.length + 1) c21) rfl
          have ho := Kd.R_set (Kd.R_set O21_45.out Q_45.out (by simp [k27, Kd.iso, Kd.pair, Kd.string, Kd.bool, Kd.scalar]) 0 (.int .i64 t)) (blk_put Q_45.out 0 (.int .i64 t) rfl) (by simp [k27, Kd.iso, Kd.pair, Kd.string, Kd.bool, Kd.scalar]) 1 (.slice A21 (l.length + 1) c21)
          have hb := Below.setCell (Below.setCell B_45.out (p := ⟨w3.heap.size, 0, none⟩) (Nat.le_of_lt QB_41.out) (.int .i64 t)) (p := ⟨w3.heap.size, 1, none⟩) (Nat.le_of_lt QB_41.out) (.slice A21 (l.length + 1) c21)
          have HFIN := Aside0.mk (And.intro hx (And.intro hq (And.intro ho hb)))
          clear hx hq ho hb B_45 X_45 Q_45 O21_45
          go_wp2
          go_meet
          case rel => exact ⟨w3.heap.size, A21, c21, rfl, ⟨HFIN.out.2.1⟩, ⟨HFIN.out.2.2.1⟩, ⟨HFIN.out.2.2.2⟩, QB_41, ⟨HFIN.out.1⟩⟩
        · refine value_ (w1 := ?_) (v := ?_) (by rfl) rfl ?_ ?_
          rotate_left 2
          · go_simp
            constructor
            · rfl
            · rfl
          have B_46 := Aside0.mk (below_alloc B_42.out (.cells #[.string ⟨#[109, 97, 114, 107]⟩, .string ⟨#[]⟩, .bool false] 27))
          have X_46 := Aside0.mk (blk_alloc X_42.out (.cells #[.string ⟨#[109, 97, 114, 107]⟩, .string ⟨#[]⟩, .bool false] 27))
          have Q_46 := Aside0.mk (blk_alloc Q_42.out (.cells #[.string ⟨#[109, 97, 114, 107]⟩, .string ⟨#[]⟩, .bool false] 27))
          have O15_46 := Aside0.mk (Kd.R_alloc O15_42.out (.cells #[.string ⟨#[109, 97, 114, 107]⟩, .string ⟨#[]⟩, .bool false] 27))
          have LX_46 := Aside0.mk (show wn41.heap.size < (wn42.alloc (.cells #[.string ⟨#[109, 97, 114, 107]⟩, .string ⟨#[]⟩, .bool false] 27)).heap.size by have := LX_42.out; rw [size_alloc]; omega)
          have G_46 := Aside0.mk (blk_new wn42 (.cells #[.string ⟨#[109, 97, 114, 107]⟩, .string ⟨#[]⟩, .bool false] 27))
          have NE_46 := Aside0.mk (Nat.ne_of_gt LX_42.out)
          refine hK.out _ _ ⟨(blk_cell X_46.out 0).trans rfl, (blk_cell X_46.out 1).trans rfl⟩ (fun hHeld => ?_)
          clear hK K B_42 X_42 Q_42 O15_42 LX_42
          refine norm_ (a' := ?_) ?_ ?_
          rotate_left
          · show Act.put _ (some 20) _ = _
            simp only [Act.put, List.setIfInBounds_toArray, List.set_cons_zero, List.set_cons_succ, i64_w, i32_w]
            rfl
          generalize wn42.alloc (.cells #[.string ⟨#[109, 97, 114, 107]⟩, .string ⟨#[]⟩, .bool false] 27) = wn46 at *
          refine one_ (i := 5) (N := (some 18)) #[true, true, true, true, true, true, true, true, false, false, true, false] rfl rfl (by kernel_rfl) (by decide) (fun K hK => ?_)
          refine Kd.R_append_rows_step k27 (w0 := w) w.heap.size (by rfl) (.tmp 15) (.tmp 17) 22 27 (.agg #[.string ⟨#[]⟩, .string ⟨#[]⟩, .bool false]) 40 rfl Try.underlying22 info27 rfl (by decide) (by decide) _ ([] : List W27) l A l.length c (fun _ => True) (fun _ => False) rfl rfl O15_46.out (Kd.C_below HR.out B_46.out) (fun _ _ h => h) (fun _ h => h.elim) (fun _ _ => trivial) B_46.out B_46.out.size (by have := HBY.out; simp; omega) ?_
          intro v18 wn47 ho hb hg hat
          have B_47 := Aside0.mk hb
          have X_47 := Aside0.mk (blk_grown X_46.out hg (Kd.R_ne O15_46.out X_46.out (by decide)))
          have Q_47 := Aside0.mk (blk_grown Q_46.out hg (Kd.R_ne O15_46.out Q_46.out (by decide)))
          have G_47 := Aside0.mk (blk_grown G_46.out hg (show some wn42.heap.size ≠ some wn41.heap.size from fun e => NE_46.out (Option.some.inj e)))
          have O18_47 := Aside0.mk ho
          refine hK.out _ _ ⟨(blk_cell X_47.out 0).trans rfl, (blk_cell X_47.out 1).trans rfl⟩ (fun hHeld => ?_)
          clear hK K ho hb hg hat B_46 X_46 Q_46 O15_46 LX_46 G_46
          refine norm_ (a' := ?_) ?_ ?_
          rotate_left
          · show Act.put _ (some 18) _ = _
            simp only [Act.put, List.setIfInBounds_toArray, List.set_cons_zero, List.set_cons_succ, i64_w, i32_w]
            rfl
          refine one_ (i := 8) (N := (some 21)) #[true, true, true, true, true, true, true, true, true, false, true, false] rfl rfl (by kernel_rfl) (by decide) (fun K hK => ?_)
          refine Kd.R_append_rows_step k27 (w0 := w) w.heap.size (by rfl) (.tmp 18) (.tmp 20) 22 27 (.agg #[.string ⟨#[]⟩, .string ⟨#[]⟩, .bool false]) 40 rfl Try.underlying22 info27 rfl (by decide) (by decide) _ ([] ++ l) [markW] _ 1 1 (fun _ => True) (fun _ => False) rfl rfl O18_47.out (C_mark G_47.out) (fun _ _ h => h) (fun _ h => h.elim) (fun _ _ => trivial) B_47.out B_47.out.size (by have := HBY.out; simp; omega) ?_
          intro v21 wn48 ho hb hg hat
          have B_48 := Aside0.mk hb
          have X_48 := Aside0.mk (blk_grown X_47.out hg (Kd.R_ne O18_47.out X_47.out (by decide)))
          have Q_48 := Aside0.mk (blk_grown Q_47.out hg (Kd.R_ne O18_47.out Q_47.out (by decide)))
          obtain ⟨A21, c21, rfl⟩ := Kd.R_slice ho
          have hL : ([] ++ l ++ [markW]).length = l.length + 1 := by simp
          rw [hL] at ho ⊢
          clear hL
          have O21_48 := Aside0.mk ho
          refine hK.out _ _ ⟨(blk_cell X_48.out 0).trans rfl, (blk_cell X_48.out 1).trans rfl⟩ (fun hHeld => ?_)
          clear hK K ho hb hg hat B_47 X_47 Q_47 G_47 O18_47
          refine norm_ (a' := ?_) ?_ ?_
          rotate_left
          · show Act.put _ (some 21) _ = _
            simp only [Act.put, List.setIfInBounds_toArray, List.set_cons_zero, List.set_cons_succ, i64_w, i32_w]
            rfl
          refine pure_ (i := 9) (N := (some 22)) (v := ?_) (a' := ?_) #[true, true, true, true, true, true, true, true, true, true, true, false] rfl rfl (by kernel_rfl) (fun _ _ _ h => h) (Or.inl ⟨by rfl, ?_⟩) ?_ ?_
          rotate_left
          · intro w'
            go_simp
            with_reducible rfl
          rotate_left
          · simp only [Act.put, List.setIfInBounds_toArray, List.set_cons_zero, List.set_cons_succ, i64_w, i32_w]
            rfl
          refine last_ (i := 11) (N := none) #[true, true, true, true, true, true, true, true, true, true, true, true] rfl rfl (by kernel_rfl) (by decide) (fun K hK => ?_)
          have f0 := blk_frozen Q_48.out 0
          have f1 := blk_frozen Q_48.out 1
          have c0 := (blk_cell Q_48.out 0).trans rfl
          have c1 := (blk_cell Q_48.out 1).trans rfl
          go_simp
          refine hK.out _ _ ?_
          clear hK K hHeld f0 f1 c0 c1
          refine done_ (by kernel_rfl) ?_
          have hx := blk_far (blk_far X_48.out (p := ⟨w3.heap.size, 0, none⟩) (Nat.ne_of_lt QB_41.out) (.int .i64 t)) (p := ⟨w3.heap.size, 1, none⟩) (Nat.ne_of_lt QB_41.out) (.slice A21 (l.length + 1) c21)
          have hq := blk_put (blk_put Q_48.out 0 (.int .i64 t) rfl) 1 (.slice A21 (l.length + 1) c21) rfl
          have ho := Kd.R_set (Kd.R_set O21_48.out Q_48.out (by simp [k27, Kd.iso, Kd.pair, Kd.string, Kd.bool, Kd.scalar]) 0 (.int .i64 t)) (blk_put Q_48.out 0 (.int .i64 t) rfl) (by simp [k27, Kd.iso, Kd.pair, Kd.string, Kd.bool, Kd.scalar]) 1 (.slice A21 (l.length + 1) c21)
          have hb := Below.setCell (Below.setCell B_48.out (p := ⟨w3.heap.size, 0, none⟩) (Nat.le_of_lt QB_41.out) (.int .i64 t)) (p := ⟨w3.heap.size, 1, none⟩) (Nat.le_of_lt QB_41.out) (.slice A21 (l.length + 1) c21)
          have HFIN := Aside0.mk (And.intro hx (And.intro hq (And.intro ho hb)))
          clear hx hq ho hb B_48 X_48 Q_48 O21_48
          go_wp2
          go_meet
          case rel => exact ⟨w3.heap.size, A21, c21, rfl, ⟨HFIN.out.2.1⟩, ⟨HFIN.out.2.2.1⟩, ⟨HFIN.out.2.2.2⟩, QB_41, ⟨HFIN.out.1⟩⟩
      · refine value_ (w1 := ?_) (v := ?_) (by rfl) rfl ?_ ?_
        rotate_left 2
        · go_simp
          constructor
          · rfl
          · rfl
        have B_49 := Aside0.mk (below_alloc B_41.out (.cells #[.string ⟨#[109, 97, 114, 107]⟩, .string ⟨#[]⟩, .bool false] 27))
        have X_49 := Aside0.mk (blk_alloc X_41.out (.cells #[.string ⟨#[109, 97, 114, 107]⟩, .string ⟨#[]⟩, .bool false] 27))
        have Q_49 := Aside0.mk (blk_alloc Q_41.out (.cells #[.string ⟨#[109, 97, 114, 107]⟩, .string ⟨#[]⟩, .bool false] 27))
        have G_49 := Aside0.mk (blk_new wn41 (.cells #[.string ⟨#[109, 97, 114, 107]⟩, .string ⟨#[]⟩, .bool false] 27))
        have LG_49 := Aside0.mk (show wn41.heap.size < (wn41.alloc (.cells #[.string ⟨#[109, 97, 114, 107]⟩, .string ⟨#[]⟩, .bool false] 27)).heap.size by rw [size_alloc]; omega)
        refine hK.out _ _ ⟨(blk_cell X_49.out 0).trans rfl, (blk_cell X_49.out 1).trans rfl⟩ (fun hHeld => ?_)
        clear hK K B_41 X_41 Q_41
        refine norm_ (a' := ?_) ?_ ?_
        rotate_left
        · show Act.put _ (some 20) _ = _
          simp only [Act.put, List.setIfInBounds_toArray, List.set_cons_zero, List.set_cons_succ, i64_w, i32_w]
          rfl
        generalize wn41.alloc (.cells #[.string ⟨#[109, 97, 114, 107]⟩, .string ⟨#[]⟩, .bool false] 27) = wn49 at *
        refine one_ (i := 2) (N := (some 15)) #[true, true, true, true, true, false, true, true, false, false, true, false] rfl rfl (by kernel_rfl) (by decide) (fun K hK => ?_)
        refine value_ (w1 := ?_) (v := ?_) (by rfl) rfl ?_ ?_
        rotate_left 2
        · go_simp
          constructor
          · rfl
          · rfl
        have B_50 := Aside0.mk (below_alloc B_49.out (.cells #[] 27))
        have X_50 := Aside0.mk (blk_alloc X_49.out (.cells #[] 27))
        have Q_50 := Aside0.mk (blk_alloc Q_49.out (.cells #[] 27))
        have G_50 := Aside0.mk (blk_alloc G_49.out (.cells #[] 27))
        have LG_50 := Aside0.mk (show wn41.heap.size < (wn49.alloc (.cells #[] 27)).heap.size by have := LG_49.out; rw [size_alloc]; omega)
        have O15_50 := Aside0.mk (R_new27 wn49 w.heap.size B_49.out.size)
        have LX_50 := Aside0.mk (show wn49.heap.size < (wn49.alloc (.cells #[] 27)).heap.size by rw [size_alloc]; omega)
        have NE_50 := Aside0.mk (Nat.ne_of_lt LG_49.out)
        refine hK.out _ _ ⟨(blk_cell X_50.out 0).trans rfl, (blk_cell X_50.out 1).trans rfl⟩ (fun hHeld => ?_)
        clear hK K B_49 X_49 Q_49 G_49 LG_49
        refine norm_ (a' := ?_) ?_ ?_
        rotate_left
        · show Act.put _ (some 15) _ = _
          simp only [Act.put, List.setIfInBounds_toArray, List.set_cons_zero, List.set_cons_succ, i64_w, i32_w]
          rfl
        generalize wn49.alloc (.cells #[] 27) = wn50 at *
        refine one_ (i := 5) (N := (some 18)) #[true, true, true, true, true, true, true, true, false, false, true, false] rfl rfl (by kernel_rfl) (by decide) (fun K hK => ?_)
        refine Kd.R_append_rows_step k27 (w0 := w) w.heap.size (by rfl) (.tmp 15) (.tmp 17) 22 27 (.agg #[.string ⟨#[]⟩, .string ⟨#[]⟩, .bool false]) 40 rfl Try.underlying22 info27 rfl (by decide) (by decide) _ ([] : List W27) l A l.length c (fun _ => True) (fun _ => False) rfl rfl O15_50.out (Kd.C_below HR.out B_50.out) (fun _ _ h => h) (fun _ h => h.elim) (fun _ _ => trivial) B_50.out B_50.out.size (by have := HBY.out; simp; omega) ?_
        intro v18 wn51 ho hb hg hat
        have B_51 := Aside0.mk hb
        have X_51 := Aside0.mk (blk_grown X_50.out hg (Kd.R_ne O15_50.out X_50.out (by decide)))
        have Q_51 := Aside0.mk (blk_grown Q_50.out hg (Kd.R_ne O15_50.out Q_50.out (by decide)))
        have G_51 := Aside0.mk (blk_grown G_50.out hg (show some wn41.heap.size ≠ some wn49.heap.size from fun e => NE_50.out (Option.some.inj e)))
        have O18_51 := Aside0.mk ho
        refine hK.out _ _ ⟨(blk_cell X_51.out 0).trans rfl, (blk_cell X_51.out 1).trans rfl⟩ (fun hHeld => ?_)
        clear hK K ho hb hg hat B_50 X_50 Q_50 G_50 LG_50 O15_50 LX_50
        refine norm_ (a' := ?_) ?_ ?_
        rotate_left
        · show Act.put _ (some 18) _ = _
          simp only [Act.put, List.setIfInBounds_toArray, List.set_cons_zero, List.set_cons_succ, i64_w, i32_w]
          rfl
        refine one_ (i := 8) (N := (some 21)) #[true, true, true, true, true, true, true, true, true, false, true, false] rfl rfl (by kernel_rfl) (by decide) (fun K hK => ?_)
        refine Kd.R_append_rows_step k27 (w0 := w) w.heap.size (by rfl) (.tmp 18) (.tmp 20) 22 27 (.agg #[.string ⟨#[]⟩, .string ⟨#[]⟩, .bool false]) 40 rfl Try.underlying22 info27 rfl (by decide) (by decide) _ ([] ++ l) [markW] _ 1 1 (fun _ => True) (fun _ => False) rfl rfl O18_51.out (C_mark G_51.out) (fun _ _ h => h) (fun _ h => h.elim) (fun _ _ => trivial) B_51.out B_51.out.size (by have := HBY.out; simp; omega) ?_
        intro v21 wn52 ho hb hg hat
        have B_52 := Aside0.mk hb
        have X_52 := Aside0.mk (blk_grown X_51.out hg (Kd.R_ne O18_51.out X_51.out (by decide)))
        have Q_52 := Aside0.mk (blk_grown Q_51.out hg (Kd.R_ne O18_51.out Q_51.out (by decide)))
        obtain ⟨A21, c21, rfl⟩ := Kd.R_slice ho
        have hL : ([] ++ l ++ [markW]).length = l.length + 1 := by simp
        rw [hL] at ho ⊢
        clear hL
        have O21_52 := Aside0.mk ho
        refine hK.out _ _ ⟨(blk_cell X_52.out 0).trans rfl, (blk_cell X_52.out 1).trans rfl⟩ (fun hHeld => ?_)
        clear hK K ho hb hg hat B_51 X_51 Q_51 G_51 O18_51
        refine norm_ (a' := ?_) ?_ ?_
        rotate_left
        · show Act.put _ (some 21) _ = _
          simp only [Act.put, List.setIfInBounds_toArray, List.set_cons_zero, List.set_cons_succ, i64_w, i32_w]
          rfl
        refine pure_ (i := 9) (N := (some 22)) (v := ?_) (a' := ?_) #[true, true, true, true, true, true, true, true, true, true, true, false] rfl rfl (by kernel_rfl) (fun _ _ _ h => h) (Or.inl ⟨by rfl, ?_⟩) ?_ ?_
        rotate_left
        · intro w'
          go_simp
          with_reducible rfl
        rotate_left
        · simp only [Act.put, List.setIfInBounds_toArray, List.set_cons_zero, List.set_cons_succ, i64_w, i32_w]
          rfl
        refine last_ (i := 11) (N := none) #[true, true, true, true, true, true, true, true, true, true, true, true] rfl rfl (by kernel_rfl) (by decide) (fun K hK => ?_)
        have f0 := blk_frozen Q_52.out 0
        have f1 := blk_frozen Q_52.out 1
        have c0 := (blk_cell Q_52.out 0).trans rfl
        have c1 := (blk_cell Q_52.out 1).trans rfl
        go_simp
        refine hK.out _ _ ?_
        clear hK K hHeld f0 f1 c0 c1
        refine done_ (by kernel_rfl) ?_
        have hx := blk_far (blk_far X_52.out (p := ⟨w3.heap.size, 0, none⟩) (Nat.ne_of_lt QB_41.out) (.int .i64 t)) (p := ⟨w3.heap.size, 1, none⟩) (Nat.ne_of_lt QB_41.out) (.slice A21 (l.length + 1) c21)
        have hq := blk_put (blk_put Q_52.out 0 (.int .i64 t) rfl) 1 (.slice A21 (l.length + 1) c21) rfl
        have ho := Kd.R_set (Kd.R_set O21_52.out Q_52.out (by simp [k27, Kd.iso, Kd.pair, Kd.string, Kd.bool, Kd.scalar]) 0 (.int .i64 t)) (blk_put Q_52.out 0 (.int .i64 t) rfl) (by simp [k27, Kd.iso, Kd.pair, Kd.string, Kd.bool, Kd.scalar]) 1 (.slice A21 (l.length + 1) c21)
        have hb := Below.setCell (Below.setCell B_52.out (p := ⟨w3.heap.size, 0, none⟩) (Nat.le_of_lt QB_41.out) (.int .i64 t)) (p := ⟨w3.heap.size, 1, none⟩) (Nat.le_of_lt QB_41.out) (.slice A21 (l.length + 1) c21)
        have HFIN := Aside0.mk (And.intro hx (And.intro hq (And.intro ho hb)))
        clear hx hq ho hb B_52 X_52 Q_52 O21_52
        go_wp2
        go_meet
        case rel => exact ⟨w3.heap.size, A21, c21, rfl, ⟨HFIN.out.2.1⟩, ⟨HFIN.out.2.2.1⟩, ⟨HFIN.out.2.2.2⟩, QB_41, ⟨HFIN.out.1⟩⟩
  case rest =>
    obtain ⟨q, A21, c21, rfl, HQ, HO, HB, HLQ, HX⟩ := hcut
    clear HB2 HX2
    have q0 : wc.cell? ⟨q, 0, none⟩ = some (.int .i64 t) := (blk_cell HQ.out 0).trans rfl
    have q1 : wc.cell? ⟨q, 1, none⟩ = some (.slice A21 (l.length + 1) c21) := (blk_cell HQ.out 1).trans rfl
    have qf : wc.frozen? ⟨q, 1, none⟩ = false := blk_frozen HQ.out 1
    have x1 : wc.cell? ⟨w.heap.size, 1, none⟩ = some (.slice A l.length c) := (blk_cell HX.out 1).trans rfl
    have hcc : l.length + 1 ≤ c21 := (Kd.R_reads' HO.out).2.1
    have HN := Aside0.mk (show l.length < 9223372036854775807 by have := HBY.out; omega)
    have hlq := HLQ.out
    have HQ3 := Aside0.mk (blk_put HQ.out 1 (.slice A21 l.length c21) rfl)
    have HX3 := Aside0.mk (blk_far HX.out (p := ⟨q, 1, none⟩) (Nat.ne_of_lt HLQ.out) (.slice A21 l.length c21))
    have HC3 := Aside0.mk (Kd.R_reads' (Kd.R_set HO.out HQ.out (by simp [k27, Kd.iso, Kd.pair, Kd.string, Kd.bool, Kd.scalar]) 1 (.slice A21 l.length c21))).2.2
    have HB3 := Aside0.mk (Below.setCell HB.out (p := ⟨q, 1, none⟩) (Nat.le_of_lt HLQ.out) (.slice A21 l.length c21))
    clear HQ HX HO HB
    go_wp2_with fail
    clear q0 q1 qf x1
    generalize wc.setCell ⟨q, 1, none⟩ (.slice A21 l.length c21) = w3 at *
    have hct := Kd.C_take (m := l.length) HC3.out (by simp)
    rw [List.take_left' rfl] at hct
    refine (putCommit_any t l A21 c21 w3 hct).mono ?_
    rintro e w4 ⟨v4, rfl, ho, hb⟩
    have HB4 := Aside0.mk (below_then HB3.out HB3.out.size hb)
    have HQ4 := Aside0.mk (blk_below HQ3.out hb)
    have HX4 := Aside0.mk (blk_below HX3.out hb)
    have HC4 := Aside0.mk (Kd.C_below HC3.out hb)
    obtain ⟨A4, c4, rfl⟩ := Kd.R_slice ho
    have HO4 := Aside0.mk (Kd.R_reads' ho).2.2
    generalize hpc : putC t l = pc at *
    have HPC := Aside0.mk hpc
    obtain ⟨pb, pe⟩ := pc
    dsimp only at HO4
    clear HB3 HQ3 HX3 HC3 hct ho hb hpc
    dsimp only
    have x0 : w4.cell? ⟨w.heap.size, 0, none⟩ = some (.int .i64 t) := (blk_cell HX4.out 0).trans rfl
    have x1 : w4.cell? ⟨w.heap.size, 1, none⟩ = some (.slice A l.length c) := (blk_cell HX4.out 1).trans rfl
    go_wp2_with fail
    refine (refPutCommit_any t l A c w4 (Kd.C_below HR.out HB4.out) HN.out).mono ?_
    rintro e w5 ⟨v5, rfl, ho, hb⟩
    rw [HPC.out] at ho ⊢
    have HB5 := Aside0.mk (below_then HB4.out HB4.out.size hb)
    have HQ5 := Aside0.mk (blk_below HQ4.out hb)
    have HX5 := Aside0.mk (blk_below HX4.out hb)
    have HC5 := Aside0.mk (Kd.C_below HC4.out hb)
    have HO5 := Aside0.mk (Kd.C_below HO4.out hb)
    obtain ⟨A5, c5, rfl⟩ := Kd.R_slice ho
    have s1 := Kd.C_string (dst := 9) Try.underlying28 Try.underlying5 Try.underlying9 (c := c4) HO5.out
    have s2 := Kd.C_string (dst := 9) Try.underlying28 Try.underlying5 Try.underlying9 (c := c5) (Kd.R_reads' ho).2.2
    clear ho hb x0 x1 HB4 HQ4 HX4 HC4 HO4
    dsimp only at s1 s2 ⊢
    have x0 : w5.cell? ⟨w.heap.size, 0, none⟩ = some (.int .i64 t) := (blk_cell HX5.out 0).trans rfl
    have x1 : w5.cell? ⟨w.heap.size, 1, none⟩ = some (.slice A l.length c) := (blk_cell HX5.out 1).trans rfl
    have q0 : w5.cell? ⟨q, 0, none⟩ = some (.int .i64 t) := (blk_cell HQ5.out 0).trans rfl
    have q1 : w5.cell? ⟨q, 1, none⟩ = some (.slice A21 l.length c21) := (blk_cell HQ5.out 1).trans rfl
    go_wp2_with fail
    clear x0 x1 q0 q1 s1 s2
    have hct := Kd.C_take (m := l.length) HC5.out (by simp)
    rw [List.take_left' rfl] at hct
    refine (same11_true t l A21 A c21 c w5 hct (Kd.C_below HR.out HB5.out) HN.out).mono ?_
    rintro e w6 ⟨rfl, hb⟩
    have HB6 := Aside0.mk (below_then HB5.out HB5.out.size hb)
    have HX6 := Aside0.mk (blk_below HX5.out hb)
    have hc6 := Kd.C_below HC5.out hb
    obtain ⟨ad, rfl, _⟩ := hc6.2.2 (by simp)
    obtain ⟨m0, _, _⟩ := k27_cells hc6 l.length (by simp)
    have em : (l ++ [markW])[l.length]'(by simp) = markW := by simp
    rw [em] at m0
    have m0' : w6.cell? (ad.add (l.length * 3)) = some (.string ⟨#[109, 97, 114, 107]⟩) := m0
    have x1 : w6.cell? ⟨w.heap.size, 1, none⟩ = some (.slice A l.length c) := (blk_cell HX6.out 1).trans rfl
    clear hb hc6 m0 hct em HB5 HQ5 HX5 HC5 HO5
    go_wp2_with fail
    go_ret
    exact ⟨rfl, HB6.out⟩
end Go.Proofs.Ytmemkmnnededgaa.H
