/- Contracts of the program's package record: rightManifest. -/
import Derived.Test.YtmemkmnnededgaaHJ
import Derived.Maps.OwnOps
import Derived.Maps.Views
namespace Go.Proofs.Ytmemkmnnededgaa.H
open Go.RowKit Go.Proofs.YtmemkmnnededgaaW.PrintWords Go.Proofs.YtmemkmnnededgaaW.PrintLast Go.Proofs.YtmemkmnnededgaaW.PrintMore
open Go.Maps
attribute [local go_sem] max2_int min2_int max_two min_two max_three min_three max_four min_four
set_option linter.unusedVariables false
set_option linter.unusedSimpArgs false

/-- Block b of w is a map that says 1 of the numbers of S, and nothing of others. -/
def Seen (w : World) (b : Nat) (S : List Int) : Prop :=
  ∃ D : DataW Unit, w.ownsMap Try.prog 3 (plainElem Try.prog 3) b S.length D ∧ IsMap D ∧ ∀ k : Int, (Lit.int .i64 k).wf = true → D.atKey (.int .i64 k) (.lit (.int .i64 0)) = .lit (.int .i64 (if k ∈ S then 1 else 0))
theorem zero3 (w : World) : (zeroValue 3).run Try.prog w = .ok (.int .i64 0) w := by kernel_rfl
theorem seen_made (w : World) : Seen (w.alloc (.map #[] 0)) w.heap.size [] :=
  ⟨.map [], World.ownsMap_made _ _ _ _, ⟨[], rfl⟩, fun k _ => by simp [DataW.atKey]⟩
theorem Seen.alloc {w : World} {b : Nat} {S : List Int} (h : Seen w b S) (o : Obj) : Seen (w.alloc o) b S := by
  obtain ⟨D, h1, h2⟩ := h
  exact ⟨D, h1.alloc o, h2⟩
theorem Seen.kept {w w' : World} {b : Nat} {S : List Int} (h : Seen w b S) (hb : w'.heap[b]? = w.heap[b]?) : Seen w' b S := by
  obtain ⟨D, ⟨es, clock, h1, h3⟩, h2⟩ := h
  exact ⟨D, ⟨es, clock, hb.trans h1, h3⟩, h2⟩
theorem Seen.lookup {w : World} {b : Nat} {S : List Int} (h : Seen w b S) (k : Int) (hk : (Lit.int .i64 k).wf = true) :
    (Instr.lookup 113 (.map (some b)) (.int .i64 k) false).run Try.prog w = .ok (.int .i64 (if k ∈ S then 1 else 0)) w := by
  obtain ⟨D, h1, _, h2⟩ := h
  obtain ⟨c, hrun, hat, _⟩ := h1.lookup_int (int_keyed Try.underlying3) Try.underlying113 Try.underlying3 (zero3 w) (keyOf_int_mk Try.underlying3 hk)
  have e := (h2 k hk).symm.trans hat
  simp only [DataW.lit.injEq, Lit.int.injEq, true_and] at e
  rw [hrun, e]
theorem Seen.update {w : World} {b : Nat} {S : List Int} (h : Seen w b S) (k : Int) (hk : (Lit.int .i64 k).wf = true) (hn : S.length < 1000000) :
    ∃ w', (Instr.mapUpdate 113 (.map (some b)) (.int .i64 k) (.int .i64 1)).run Try.prog w = .ok () w' ∧ Seen w' b (k :: S) ∧ w.grownBy w' (some b) := by
  obtain ⟨D, h1, hm, h2⟩ := h
  obtain ⟨w', hrun, ho, hg⟩ := h1.update (int_keyed Try.underlying3) Try.underlying113 (by simp only [maxLen]; omega) (keyOf_int_mk Try.underlying3 hk) (plainElem_int Try.underlying3 (a := 1) (by decide))
  refine ⟨w', hrun, ⟨_, ho, ?_, fun k' hk' => ?_⟩, hg⟩
  · obtain ⟨es, rfl⟩ := hm
    exact ⟨_, rfl⟩
  · by_cases e : k' = k
    · subst e
      rw [atKey_put_same hm (show WideAt.IsKeyLit (.int .i64 k') from trivial)]
      simp
    · rw [atKey_put_other (by intro h; injection h with _ h; exact e h), h2 k' hk']
      simp [e]
/-! ### The closure -/
theorem Seen.blk {w : World} {b : Nat} {S : List Int} (h : Seen w b S) : ∃ es clock, w.heap[b]? = some (.map es clock) := by
  obtain ⟨D, ⟨es, clock, h1, _⟩, _⟩ := h
  exact ⟨es, clock, h1⟩
theorem Seen.lt {w : World} {b : Nat} {S : List Int} (h : Seen w b S) : b < w.heap.size := by
  obtain ⟨es, clock, h1⟩ := h.blk
  exact (Array.getElem?_eq_some_iff.1 h1).1
/-- A store into a block of cells leaves it. -/
theorem Seen.far {w : World} {b : Nat} {S : List Int} (h : Seen w b S) {p : Addr} {cs : Array Value} {t : TypeId} {fr : Nat × Nat} (hp : w.heap[p.block]? = some (.cells cs t fr)) (u : Value) : Seen (w.setCell p u) b S := by
  refine h.kept (Below.heap_setCell _ _ _ _ ?_)
  rintro rfl
  obtain ⟨es, clock, h1⟩ := h.blk
  rw [h1] at hp
  cases hp
theorem isNum_is (t : Int) (b : Bool) (h : isNumB t = b) (w : World) : Calls Try.prog 79 #[.int .i64 t] w fun e w' => e = .returned (.bool b) ∧ w' = w := h ▸ isNum_any t w
structure SeenSt (B cs ca mb : Nat) (S : List Int) (a : Int) (w w' : World) : Prop where
  s : w'.heap[cs]? = some (.cells #[.map (some mb)] 113 (0, 0))
  a : w'.heap[ca]? = some (.cells #[.int .i64 a] 2 (0, 0))
  m : Seen w' mb S
  b : Below B w w'

set_option maxRecDepth 100000 in
set_option maxHeartbeats 1600000 in
theorem c81_nonum (B cs ca mb : Nat) (S : List Int) (a : Int) (i num from_ to_ : Int) (w : World) (hcs : w.heap[cs]? = some (.cells #[.map (some mb)] 113 (0, 0))) (hca : w.heap[ca]? = some (.cells #[.int .i64 a] 2 (0, 0))) (hm : Seen w mb S)
    (hBs : B ≤ cs) (hBa : B ≤ ca) (hBm : B ≤ mb) (hwf : (Lit.int .i64 num).wf = true) (hS : S.length < 1000000) (hn : isNumB num = false) :
    Calls Try.prog 81 #[.int .i64 i, .agg #[.int .i64 num, .int .i64 from_, .int .i64 to_], .pointer (some ⟨cs, 0, none⟩), .pointer (some ⟨ca, 0, none⟩)] w fun e w' => e = .returned (.bool false) ∧ SeenSt B cs ca mb (num :: S) to_ w w' := by
  have HSa := Aside0.mk (blk_alloc hcs (.cells #[.int .i64 num, .int .i64 from_, .int .i64 to_] 43))
  have HAa := Aside0.mk (blk_alloc hca (.cells #[.int .i64 num, .int .i64 from_, .int .i64 to_] 43))
  have HXa := Aside0.mk (blk_new w (.cells #[.int .i64 num, .int .i64 from_, .int .i64 to_] 43))
  have HMa := Aside0.mk (hm.alloc (.cells #[.int .i64 num, .int .i64 from_, .int .i64 to_] 43))
  have HMb := Aside0.mk HMa.out.blk
  have lm := hm.lt
  have HBa := Aside0.mk ((Below.refl B w).alloc (by omega) (.cells #[.int .i64 num, .int .i64 from_, .int .i64 to_] 43))
  have q1 : (w.alloc (.cells #[.int .i64 num, .int .i64 from_, .int .i64 to_] 43)).cell? ⟨cs, 0, none⟩ = some (.map (some mb)) := (blk_cell HSa.out 0).trans rfl
  have q2 : (w.alloc (.cells #[.int .i64 num, .int .i64 from_, .int .i64 to_] 43)).cell? ⟨ca, 0, none⟩ = some (.int .i64 a) := (blk_cell HAa.out 0).trans rfl
  have HL := Aside0.mk (HMa.out.lookup num hwf)
  have HWF := Aside0.mk hwf
  clear hcs hca hm hwf
  have HN := Aside0.mk hn
  clear hn
  go_enter Try.func81, Try.ntmps81
  go_wp2_with fail
  refine (isNum_is num _ HN.out _).mono ?_
  rintro e w1 ⟨rfl, rfl⟩
  go_wp2_with fail

  generalize hwa : (w.alloc (.cells #[.int .i64 num, .int .i64 from_, .int .i64 to_] 43)) = wa at *
  have HWA := Aside0.mk hwa
  clear hwa q1 q2
  have h1 : wa.cell? ⟨cs, 0, none⟩ = some (.map (some mb)) := (blk_cell HSa.out 0).trans rfl
  have h2 : wa.cell? ⟨w.heap.size, 0, none⟩ = some (.int .i64 num) := (blk_cell HXa.out 0).trans rfl
  have h3 : wa.cell? ⟨w.heap.size, 2, none⟩ = some (.int .i64 to_) := (blk_cell HXa.out 2).trans rfl
  have ls : cs < wa.heap.size := blk_lt HSa.out
  refine start_ (n := 7) (ds := [6]) (S := fun w' => w'.cell? ⟨cs, 0, none⟩ = some (.map (some mb)) ∧ w'.cell? ⟨w.heap.size, 0, none⟩ = some (.int .i64 num) ∧ w'.cell? ⟨w.heap.size, 2, none⟩ = some (.int .i64 to_)) #[false, false, false, false, false, false, false] (by kernel_rfl) rfl rfl ⟨h1, h2, h3⟩ (fun hHeld => ?_)
  refine take_ (i := 0) (N := (some 31)) (v := ?_) (a' := ?_) #[true, false, false, false, false, false, false] rfl rfl (by kernel_rfl) (fun _ _ _ h => h) (Or.inl ⟨by rfl, ?_⟩) hHeld ?_ ?_
  rotate_left
  · rintro w' ⟨s0, s1, s2⟩
    go_simp
    with_reducible rfl
  rotate_left
  · simp only [Act.put, List.setIfInBounds_toArray, List.set_cons_zero, List.set_cons_succ]
    rfl
  refine take_ (i := 1) (N := (some 32)) (v := ?_) (a' := ?_) #[true, true, false, false, false, false, false] rfl rfl (by kernel_rfl) (fun _ _ _ h => h) (Or.inl ⟨by rfl, ?_⟩) hHeld ?_ ?_
  rotate_left
  · rintro w' ⟨s0, s1, s2⟩
    go_simp
    with_reducible rfl
  rotate_left
  · simp only [Act.put, List.setIfInBounds_toArray, List.set_cons_zero, List.set_cons_succ]
    rfl
  refine take_ (i := 2) (N := (some 33)) (v := ?_) (a' := ?_) #[true, true, true, false, false, false, false] rfl rfl (by kernel_rfl) (fun _ _ _ h => h) (Or.inl ⟨by rfl, ?_⟩) hHeld ?_ ?_
  rotate_left
  · rintro w' ⟨s0, s1, s2⟩
    go_simp
    with_reducible rfl
  rotate_left
  · simp only [Act.put, List.setIfInBounds_toArray, List.set_cons_zero, List.set_cons_succ]
    rfl
  refine take_ (i := 3) (N := (some 34)) (v := ?_) (a' := ?_) #[true, true, true, true, false, false, false] rfl rfl (by kernel_rfl) (fun _ _ _ h => h) (Or.inl ⟨by rfl, ?_⟩) hHeld ?_ ?_
  rotate_left
  · rintro w' ⟨s0, s1, s2⟩
    go_simp
    with_reducible rfl
  rotate_left
  · simp only [Act.put, List.setIfInBounds_toArray, List.set_cons_zero, List.set_cons_succ]
    rfl
  refine take_ (i := 4) (N := (some 35)) (v := ?_) (a' := ?_) #[true, true, true, true, true, false, false] rfl rfl (by kernel_rfl) (fun _ _ _ h => h) (Or.inl ⟨by rfl, ?_⟩) hHeld ?_ ?_
  rotate_left
  · rintro w' ⟨s0, s1, s2⟩
    go_simp
    with_reducible rfl
  rotate_left
  · simp only [Act.put, List.setIfInBounds_toArray, List.set_cons_zero, List.set_cons_succ]
    rfl
  refine one_ (i := 5) (N := none) #[true, true, true, true, true, true, false] rfl rfl (by kernel_rfl) (by decide) (fun K hK => ?_)
  obtain ⟨w1, hrun, hs1, hg1⟩ := (show Seen wa.drew mb S from HMa.out).update num HWF.out hS
  have HS1 := Aside0.mk (blk_grown (blk_drew HSa.out) hg1 (fun e => by injection e with e; subst e; have := HSa.out; rw [HMb.out.choose_spec.choose_spec] at this; cases this))
  have HA1 := Aside0.mk (blk_grown (blk_drew HAa.out) hg1 (fun e => by injection e with e; subst e; have := HAa.out; rw [HMb.out.choose_spec.choose_spec] at this; cases this))
  have HX1 := Aside0.mk (blk_grown (blk_drew HXa.out) hg1 (fun e => by injection e with e; subst e; have := HXa.out; rw [HMb.out.choose_spec.choose_spec] at this; cases this))
  have HM1 := Aside0.mk hs1
  have HB1 := Aside0.mk ((below_drew HBa.out).grown hg1 (by simp; omega) (fun k e => by injection e with e; omega))
  have HMb1 := Aside0.mk (show mb < w1.heap.size from hs1.lt)
  clear hs1 hg1
  go_simp
  refine hK.out _ _ ⟨(blk_cell HS1.out 0).trans rfl, (blk_cell HX1.out 0).trans rfl, (blk_cell HX1.out 2).trans rfl⟩ (fun hHeld => ?_)
  clear hK K hrun
  refine last_ (i := 6) (N := none) #[true, true, true, true, true, true, true] rfl rfl (by kernel_rfl) (by decide) (fun K hK => ?_)
  have hf1 := blk_frozen HA1.out 0
  have hc1 := (blk_cell HA1.out 0).trans rfl
  go_simp
  refine hK.out _ _ ?_
  clear hK K hHeld hf1 hc1
  refine done_ (by kernel_rfl) ?_
  have HS2 := Aside0.mk (blk_far HS1.out (p := ⟨ca, 0, none⟩) (blk_ne HS1.out HA1.out (by decide)) (.int .i64 to_))
  have HM2 := Aside0.mk (HM1.out.far (p := ⟨ca, 0, none⟩) HA1.out (.int .i64 to_))
  have HA2 := Aside0.mk (blk_put HA1.out 0 (.int .i64 to_) rfl)
  have HB2 := Aside0.mk (HB1.out.setCell (p := ⟨ca, 0, none⟩) hBa (.int .i64 to_))
  clear h1 h2 h3
  go_wp2_with fail
  go_ret
  exact ⟨rfl, HS2.out, HA2.out, HM2.out, HB2.out⟩

set_option maxRecDepth 100000 in
set_option maxHeartbeats 1600000 in
theorem c81_seen (B cs ca mb : Nat) (S : List Int) (a : Int) (i num from_ to_ : Int) (w : World) (hcs : w.heap[cs]? = some (.cells #[.map (some mb)] 113 (0, 0))) (hca : w.heap[ca]? = some (.cells #[.int .i64 a] 2 (0, 0))) (hm : Seen w mb S)
    (hBs : B ≤ cs) (hBa : B ≤ ca) (hBm : B ≤ mb) (hwf : (Lit.int .i64 num).wf = true) (hS : S.length < 1000000) (hn : isNumB num = true) (hin : num ∈ S) :
    Calls Try.prog 81 #[.int .i64 i, .agg #[.int .i64 num, .int .i64 from_, .int .i64 to_], .pointer (some ⟨cs, 0, none⟩), .pointer (some ⟨ca, 0, none⟩)] w fun e w' => e = .returned (.bool false) ∧ SeenSt B cs ca mb (num :: S) to_ w w' := by
  have HSa := Aside0.mk (blk_alloc hcs (.cells #[.int .i64 num, .int .i64 from_, .int .i64 to_] 43))
  have HAa := Aside0.mk (blk_alloc hca (.cells #[.int .i64 num, .int .i64 from_, .int .i64 to_] 43))
  have HXa := Aside0.mk (blk_new w (.cells #[.int .i64 num, .int .i64 from_, .int .i64 to_] 43))
  have HMa := Aside0.mk (hm.alloc (.cells #[.int .i64 num, .int .i64 from_, .int .i64 to_] 43))
  have HMb := Aside0.mk HMa.out.blk
  have lm := hm.lt
  have HBa := Aside0.mk ((Below.refl B w).alloc (by omega) (.cells #[.int .i64 num, .int .i64 from_, .int .i64 to_] 43))
  have q1 : (w.alloc (.cells #[.int .i64 num, .int .i64 from_, .int .i64 to_] 43)).cell? ⟨cs, 0, none⟩ = some (.map (some mb)) := (blk_cell HSa.out 0).trans rfl
  have q2 : (w.alloc (.cells #[.int .i64 num, .int .i64 from_, .int .i64 to_] 43)).cell? ⟨ca, 0, none⟩ = some (.int .i64 a) := (blk_cell HAa.out 0).trans rfl
  have HL := Aside0.mk (HMa.out.lookup num hwf)
  have HWF := Aside0.mk hwf
  clear hcs hca hm hwf
  have HN := Aside0.mk hn
  have hL := HL.out
  rw [if_pos hin] at hL
  clear hn hin
  go_enter Try.func81, Try.ntmps81
  go_wp2_with fail
  refine (isNum_is num _ HN.out _).mono ?_
  rintro e w1 ⟨rfl, rfl⟩
  go_wp2_with fail
  clear hL
  generalize hwa : (w.alloc (.cells #[.int .i64 num, .int .i64 from_, .int .i64 to_] 43)) = wa at *
  have HWA := Aside0.mk hwa
  clear hwa q1 q2
  have h1 : wa.cell? ⟨cs, 0, none⟩ = some (.map (some mb)) := (blk_cell HSa.out 0).trans rfl
  have h2 : wa.cell? ⟨w.heap.size, 0, none⟩ = some (.int .i64 num) := (blk_cell HXa.out 0).trans rfl
  have h3 : wa.cell? ⟨w.heap.size, 2, none⟩ = some (.int .i64 to_) := (blk_cell HXa.out 2).trans rfl
  have ls : cs < wa.heap.size := blk_lt HSa.out
  refine start_ (n := 7) (ds := [6]) (S := fun w' => w'.cell? ⟨cs, 0, none⟩ = some (.map (some mb)) ∧ w'.cell? ⟨w.heap.size, 0, none⟩ = some (.int .i64 num) ∧ w'.cell? ⟨w.heap.size, 2, none⟩ = some (.int .i64 to_)) #[false, false, false, false, false, false, false] (by kernel_rfl) rfl rfl ⟨h1, h2, h3⟩ (fun hHeld => ?_)
  refine take_ (i := 0) (N := (some 31)) (v := ?_) (a' := ?_) #[true, false, false, false, false, false, false] rfl rfl (by kernel_rfl) (fun _ _ _ h => h) (Or.inl ⟨by rfl, ?_⟩) hHeld ?_ ?_
  rotate_left
  · rintro w' ⟨s0, s1, s2⟩
    go_simp
    with_reducible rfl
  rotate_left
  · simp only [Act.put, List.setIfInBounds_toArray, List.set_cons_zero, List.set_cons_succ]
    rfl
  refine take_ (i := 1) (N := (some 32)) (v := ?_) (a' := ?_) #[true, true, false, false, false, false, false] rfl rfl (by kernel_rfl) (fun _ _ _ h => h) (Or.inl ⟨by rfl, ?_⟩) hHeld ?_ ?_
  rotate_left
  · rintro w' ⟨s0, s1, s2⟩
    go_simp
    with_reducible rfl
  rotate_left
  · simp only [Act.put, List.setIfInBounds_toArray, List.set_cons_zero, List.set_cons_succ]
    rfl
  refine take_ (i := 2) (N := (some 33)) (v := ?_) (a' := ?_) #[true, true, true, false, false, false, false] rfl rfl (by kernel_rfl) (fun _ _ _ h => h) (Or.inl ⟨by rfl, ?_⟩) hHeld ?_ ?_
  rotate_left
  · rintro w' ⟨s0, s1, s2⟩
    go_simp
    with_reducible rfl
  rotate_left
  · simp only [Act.put, List.setIfInBounds_toArray, List.set_cons_zero, List.set_cons_succ]
    rfl
  refine take_ (i := 3) (N := (some 34)) (v := ?_) (a' := ?_) #[true, true, true, true, false, false, false] rfl rfl (by kernel_rfl) (fun _ _ _ h => h) (Or.inl ⟨by rfl, ?_⟩) hHeld ?_ ?_
  rotate_left
  · rintro w' ⟨s0, s1, s2⟩
    go_simp
    with_reducible rfl
  rotate_left
  · simp only [Act.put, List.setIfInBounds_toArray, List.set_cons_zero, List.set_cons_succ]
    rfl
  refine take_ (i := 4) (N := (some 35)) (v := ?_) (a' := ?_) #[true, true, true, true, true, false, false] rfl rfl (by kernel_rfl) (fun _ _ _ h => h) (Or.inl ⟨by rfl, ?_⟩) hHeld ?_ ?_
  rotate_left
  · rintro w' ⟨s0, s1, s2⟩
    go_simp
    with_reducible rfl
  rotate_left
  · simp only [Act.put, List.setIfInBounds_toArray, List.set_cons_zero, List.set_cons_succ]
    rfl
  refine one_ (i := 5) (N := none) #[true, true, true, true, true, true, false] rfl rfl (by kernel_rfl) (by decide) (fun K hK => ?_)
  obtain ⟨w1, hrun, hs1, hg1⟩ := (show Seen wa.drew mb S from HMa.out).update num HWF.out hS
  have HS1 := Aside0.mk (blk_grown (blk_drew HSa.out) hg1 (fun e => by injection e with e; subst e; have := HSa.out; rw [HMb.out.choose_spec.choose_spec] at this; cases this))
  have HA1 := Aside0.mk (blk_grown (blk_drew HAa.out) hg1 (fun e => by injection e with e; subst e; have := HAa.out; rw [HMb.out.choose_spec.choose_spec] at this; cases this))
  have HX1 := Aside0.mk (blk_grown (blk_drew HXa.out) hg1 (fun e => by injection e with e; subst e; have := HXa.out; rw [HMb.out.choose_spec.choose_spec] at this; cases this))
  have HM1 := Aside0.mk hs1
  have HB1 := Aside0.mk ((below_drew HBa.out).grown hg1 (by simp; omega) (fun k e => by injection e with e; omega))
  have HMb1 := Aside0.mk (show mb < w1.heap.size from hs1.lt)
  clear hs1 hg1
  go_simp
  refine hK.out _ _ ⟨(blk_cell HS1.out 0).trans rfl, (blk_cell HX1.out 0).trans rfl, (blk_cell HX1.out 2).trans rfl⟩ (fun hHeld => ?_)
  clear hK K hrun
  refine last_ (i := 6) (N := none) #[true, true, true, true, true, true, true] rfl rfl (by kernel_rfl) (by decide) (fun K hK => ?_)
  have hf1 := blk_frozen HA1.out 0
  have hc1 := (blk_cell HA1.out 0).trans rfl
  go_simp
  refine hK.out _ _ ?_
  clear hK K hHeld hf1 hc1
  refine done_ (by kernel_rfl) ?_
  have HS2 := Aside0.mk (blk_far HS1.out (p := ⟨ca, 0, none⟩) (blk_ne HS1.out HA1.out (by decide)) (.int .i64 to_))
  have HM2 := Aside0.mk (HM1.out.far (p := ⟨ca, 0, none⟩) HA1.out (.int .i64 to_))
  have HA2 := Aside0.mk (blk_put HA1.out 0 (.int .i64 to_) rfl)
  have HB2 := Aside0.mk (HB1.out.setCell (p := ⟨ca, 0, none⟩) hBa (.int .i64 to_))
  clear h1 h2 h3
  go_wp2_with fail
  go_ret
  exact ⟨rfl, HS2.out, HA2.out, HM2.out, HB2.out⟩

set_option maxRecDepth 100000 in
set_option maxHeartbeats 1600000 in
theorem c81_from (B cs ca mb : Nat) (S : List Int) (a : Int) (i num from_ to_ : Int) (w : World) (hcs : w.heap[cs]? = some (.cells #[.map (some mb)] 113 (0, 0))) (hca : w.heap[ca]? = some (.cells #[.int .i64 a] 2 (0, 0))) (hm : Seen w mb S)
    (hBs : B ≤ cs) (hBa : B ≤ ca) (hBm : B ≤ mb) (hwf : (Lit.int .i64 num).wf = true) (hS : S.length < 1000000) (hn : isNumB num = true) (hin : num ∉ S) (hf : (from_ == a) = false) :
    Calls Try.prog 81 #[.int .i64 i, .agg #[.int .i64 num, .int .i64 from_, .int .i64 to_], .pointer (some ⟨cs, 0, none⟩), .pointer (some ⟨ca, 0, none⟩)] w fun e w' => e = .returned (.bool false) ∧ SeenSt B cs ca mb (num :: S) to_ w w' := by
  have HSa := Aside0.mk (blk_alloc hcs (.cells #[.int .i64 num, .int .i64 from_, .int .i64 to_] 43))
  have HAa := Aside0.mk (blk_alloc hca (.cells #[.int .i64 num, .int .i64 from_, .int .i64 to_] 43))
  have HXa := Aside0.mk (blk_new w (.cells #[.int .i64 num, .int .i64 from_, .int .i64 to_] 43))
  have HMa := Aside0.mk (hm.alloc (.cells #[.int .i64 num, .int .i64 from_, .int .i64 to_] 43))
  have HMb := Aside0.mk HMa.out.blk
  have lm := hm.lt
  have HBa := Aside0.mk ((Below.refl B w).alloc (by omega) (.cells #[.int .i64 num, .int .i64 from_, .int .i64 to_] 43))
  have q1 : (w.alloc (.cells #[.int .i64 num, .int .i64 from_, .int .i64 to_] 43)).cell? ⟨cs, 0, none⟩ = some (.map (some mb)) := (blk_cell HSa.out 0).trans rfl
  have q2 : (w.alloc (.cells #[.int .i64 num, .int .i64 from_, .int .i64 to_] 43)).cell? ⟨ca, 0, none⟩ = some (.int .i64 a) := (blk_cell HAa.out 0).trans rfl
  have HL := Aside0.mk (HMa.out.lookup num hwf)
  have HWF := Aside0.mk hwf
  clear hcs hca hm hwf
  have HN := Aside0.mk hn
  have hL := HL.out
  rw [if_neg hin] at hL
  clear hn hin
  go_enter Try.func81, Try.ntmps81
  go_wp2_with fail
  refine (isNum_is num _ HN.out _).mono ?_
  rintro e w1 ⟨rfl, rfl⟩
  go_wp2_with fail
  clear hL
  generalize hwa : (w.alloc (.cells #[.int .i64 num, .int .i64 from_, .int .i64 to_] 43)) = wa at *
  have HWA := Aside0.mk hwa
  clear hwa q1 q2
  have h1 : wa.cell? ⟨cs, 0, none⟩ = some (.map (some mb)) := (blk_cell HSa.out 0).trans rfl
  have h2 : wa.cell? ⟨w.heap.size, 0, none⟩ = some (.int .i64 num) := (blk_cell HXa.out 0).trans rfl
  have h3 : wa.cell? ⟨w.heap.size, 2, none⟩ = some (.int .i64 to_) := (blk_cell HXa.out 2).trans rfl
  have ls : cs < wa.heap.size := blk_lt HSa.out
  refine start_ (n := 7) (ds := [6]) (S := fun w' => w'.cell? ⟨cs, 0, none⟩ = some (.map (some mb)) ∧ w'.cell? ⟨w.heap.size, 0, none⟩ = some (.int .i64 num) ∧ w'.cell? ⟨w.heap.size, 2, none⟩ = some (.int .i64 to_)) #[false, false, false, false, false, false, false] (by kernel_rfl) rfl rfl ⟨h1, h2, h3⟩ (fun hHeld => ?_)
  refine take_ (i := 0) (N := (some 31)) (v := ?_) (a' := ?_) #[true, false, false, false, false, false, false] rfl rfl (by kernel_rfl) (fun _ _ _ h => h) (Or.inl ⟨by rfl, ?_⟩) hHeld ?_ ?_
  rotate_left
  · rintro w' ⟨s0, s1, s2⟩
    go_simp
    with_reducible rfl
  rotate_left
  · simp only [Act.put, List.setIfInBounds_toArray, List.set_cons_zero, List.set_cons_succ]
    rfl
  refine take_ (i := 1) (N := (some 32)) (v := ?_) (a' := ?_) #[true, true, false, false, false, false, false] rfl rfl (by kernel_rfl) (fun _ _ _ h => h) (Or.inl ⟨by rfl, ?_⟩) hHeld ?_ ?_
  rotate_left
  · rintro w' ⟨s0, s1, s2⟩
    go_simp
    with_reducible rfl
  rotate_left
  · simp only [Act.put, List.setIfInBounds_toArray, List.set_cons_zero, List.set_cons_succ]
    rfl
  refine take_ (i := 2) (N := (some 33)) (v := ?_) (a' := ?_) #[true, true, true, false, false, false, false] rfl rfl (by kernel_rfl) (fun _ _ _ h => h) (Or.inl ⟨by rfl, ?_⟩) hHeld ?_ ?_
  rotate_left
  · rintro w' ⟨s0, s1, s2⟩
    go_simp
    with_reducible rfl
  rotate_left
  · simp only [Act.put, List.setIfInBounds_toArray, List.set_cons_zero, List.set_cons_succ]
    rfl
  refine take_ (i := 3) (N := (some 34)) (v := ?_) (a' := ?_) #[true, true, true, true, false, false, false] rfl rfl (by kernel_rfl) (fun _ _ _ h => h) (Or.inl ⟨by rfl, ?_⟩) hHeld ?_ ?_
  rotate_left
  · rintro w' ⟨s0, s1, s2⟩
    go_simp
    with_reducible rfl
  rotate_left
  · simp only [Act.put, List.setIfInBounds_toArray, List.set_cons_zero, List.set_cons_succ]
    rfl
  refine take_ (i := 4) (N := (some 35)) (v := ?_) (a' := ?_) #[true, true, true, true, true, false, false] rfl rfl (by kernel_rfl) (fun _ _ _ h => h) (Or.inl ⟨by rfl, ?_⟩) hHeld ?_ ?_
  rotate_left
  · rintro w' ⟨s0, s1, s2⟩
    go_simp
    with_reducible rfl
  rotate_left
  · simp only [Act.put, List.setIfInBounds_toArray, List.set_cons_zero, List.set_cons_succ]
    rfl
  refine one_ (i := 5) (N := none) #[true, true, true, true, true, true, false] rfl rfl (by kernel_rfl) (by decide) (fun K hK => ?_)
  obtain ⟨w1, hrun, hs1, hg1⟩ := (show Seen wa.drew mb S from HMa.out).update num HWF.out hS
  have HS1 := Aside0.mk (blk_grown (blk_drew HSa.out) hg1 (fun e => by injection e with e; subst e; have := HSa.out; rw [HMb.out.choose_spec.choose_spec] at this; cases this))
  have HA1 := Aside0.mk (blk_grown (blk_drew HAa.out) hg1 (fun e => by injection e with e; subst e; have := HAa.out; rw [HMb.out.choose_spec.choose_spec] at this; cases this))
  have HX1 := Aside0.mk (blk_grown (blk_drew HXa.out) hg1 (fun e => by injection e with e; subst e; have := HXa.out; rw [HMb.out.choose_spec.choose_spec] at this; cases this))
  have HM1 := Aside0.mk hs1
  have HB1 := Aside0.mk ((below_drew HBa.out).grown hg1 (by simp; omega) (fun k e => by injection e with e; omega))
  have HMb1 := Aside0.mk (show mb < w1.heap.size from hs1.lt)
  clear hs1 hg1
  go_simp
  refine hK.out _ _ ⟨(blk_cell HS1.out 0).trans rfl, (blk_cell HX1.out 0).trans rfl, (blk_cell HX1.out 2).trans rfl⟩ (fun hHeld => ?_)
  clear hK K hrun
  refine last_ (i := 6) (N := none) #[true, true, true, true, true, true, true] rfl rfl (by kernel_rfl) (by decide) (fun K hK => ?_)
  have hf1 := blk_frozen HA1.out 0
  have hc1 := (blk_cell HA1.out 0).trans rfl
  go_simp
  refine hK.out _ _ ?_
  clear hK K hHeld hf1 hc1
  refine done_ (by kernel_rfl) ?_
  have HS2 := Aside0.mk (blk_far HS1.out (p := ⟨ca, 0, none⟩) (blk_ne HS1.out HA1.out (by decide)) (.int .i64 to_))
  have HM2 := Aside0.mk (HM1.out.far (p := ⟨ca, 0, none⟩) HA1.out (.int .i64 to_))
  have HA2 := Aside0.mk (blk_put HA1.out 0 (.int .i64 to_) rfl)
  have HB2 := Aside0.mk (HB1.out.setCell (p := ⟨ca, 0, none⟩) hBa (.int .i64 to_))
  clear h1 h2 h3
  go_wp2_with fail
  go_ret
  exact ⟨rfl, HS2.out, HA2.out, HM2.out, HB2.out⟩

set_option maxRecDepth 100000 in
set_option maxHeartbeats 1600000 in
theorem c81_to (B cs ca mb : Nat) (S : List Int) (a : Int) (i num from_ to_ : Int) (w : World) (hcs : w.heap[cs]? = some (.cells #[.map (some mb)] 113 (0, 0))) (hca : w.heap[ca]? = some (.cells #[.int .i64 a] 2 (0, 0))) (hm : Seen w mb S)
    (hBs : B ≤ cs) (hBa : B ≤ ca) (hBm : B ≤ mb) (hwf : (Lit.int .i64 num).wf = true) (hS : S.length < 1000000) (hn : isNumB num = true) (hin : num ∉ S) (hf : (from_ == a) = true) :
    Calls Try.prog 81 #[.int .i64 i, .agg #[.int .i64 num, .int .i64 from_, .int .i64 to_], .pointer (some ⟨cs, 0, none⟩), .pointer (some ⟨ca, 0, none⟩)] w fun e w' => e = .returned (.bool (decide (from_ < to_))) ∧ SeenSt B cs ca mb (num :: S) to_ w w' := by
  have HSa := Aside0.mk (blk_alloc hcs (.cells #[.int .i64 num, .int .i64 from_, .int .i64 to_] 43))
  have HAa := Aside0.mk (blk_alloc hca (.cells #[.int .i64 num, .int .i64 from_, .int .i64 to_] 43))
  have HXa := Aside0.mk (blk_new w (.cells #[.int .i64 num, .int .i64 from_, .int .i64 to_] 43))
  have HMa := Aside0.mk (hm.alloc (.cells #[.int .i64 num, .int .i64 from_, .int .i64 to_] 43))
  have HMb := Aside0.mk HMa.out.blk
  have lm := hm.lt
  have HBa := Aside0.mk ((Below.refl B w).alloc (by omega) (.cells #[.int .i64 num, .int .i64 from_, .int .i64 to_] 43))
  have q1 : (w.alloc (.cells #[.int .i64 num, .int .i64 from_, .int .i64 to_] 43)).cell? ⟨cs, 0, none⟩ = some (.map (some mb)) := (blk_cell HSa.out 0).trans rfl
  have q2 : (w.alloc (.cells #[.int .i64 num, .int .i64 from_, .int .i64 to_] 43)).cell? ⟨ca, 0, none⟩ = some (.int .i64 a) := (blk_cell HAa.out 0).trans rfl
  have HL := Aside0.mk (HMa.out.lookup num hwf)
  have HWF := Aside0.mk hwf
  clear hcs hca hm hwf
  have HN := Aside0.mk hn
  have hL := HL.out
  rw [if_neg hin] at hL
  clear hn hin
  go_enter Try.func81, Try.ntmps81
  go_wp2_with fail
  refine (isNum_is num _ HN.out _).mono ?_
  rintro e w1 ⟨rfl, rfl⟩
  go_wp2_with fail
  clear hL
  generalize hwa : (w.alloc (.cells #[.int .i64 num, .int .i64 from_, .int .i64 to_] 43)) = wa at *
  have HWA := Aside0.mk hwa
  clear hwa q1 q2
  have h1 : wa.cell? ⟨cs, 0, none⟩ = some (.map (some mb)) := (blk_cell HSa.out 0).trans rfl
  have h2 : wa.cell? ⟨w.heap.size, 0, none⟩ = some (.int .i64 num) := (blk_cell HXa.out 0).trans rfl
  have h3 : wa.cell? ⟨w.heap.size, 2, none⟩ = some (.int .i64 to_) := (blk_cell HXa.out 2).trans rfl
  have ls : cs < wa.heap.size := blk_lt HSa.out
  refine start_ (n := 7) (ds := [6]) (S := fun w' => w'.cell? ⟨cs, 0, none⟩ = some (.map (some mb)) ∧ w'.cell? ⟨w.heap.size, 0, none⟩ = some (.int .i64 num) ∧ w'.cell? ⟨w.heap.size, 2, none⟩ = some (.int .i64 to_)) #[false, false, false, false, false, false, false] (by kernel_rfl) rfl rfl ⟨h1, h2, h3⟩ (fun hHeld => ?_)
  refine take_ (i := 0) (N := (some 31)) (v := ?_) (a' := ?_) #[true, false, false, false, false, false, false] rfl rfl (by kernel_rfl) (fun _ _ _ h => h) (Or.inl ⟨by rfl, ?_⟩) hHeld ?_ ?_
  rotate_left
  · rintro w' ⟨s0, s1, s2⟩
    go_simp
    with_reducible rfl
  rotate_left
  · simp only [Act.put, List.setIfInBounds_toArray, List.set_cons_zero, List.set_cons_succ]
    rfl
  refine take_ (i := 1) (N := (some 32)) (v := ?_) (a' := ?_) #[true, true, false, false, false, false, false] rfl rfl (by kernel_rfl) (fun _ _ _ h => h) (Or.inl ⟨by rfl, ?_⟩) hHeld ?_ ?_
  rotate_left
  · rintro w' ⟨s0, s1, s2⟩
    go_simp
    with_reducible rfl
  rotate_left
  · simp only [Act.put, List.setIfInBounds_toArray, List.set_cons_zero, List.set_cons_succ]
    rfl
  refine take_ (i := 2) (N := (some 33)) (v := ?_) (a' := ?_) #[true, true, true, false, false, false, false] rfl rfl (by kernel_rfl) (fun _ _ _ h => h) (Or.inl ⟨by rfl, ?_⟩) hHeld ?_ ?_
  rotate_left
  · rintro w' ⟨s0, s1, s2⟩
    go_simp
    with_reducible rfl
  rotate_left
  · simp only [Act.put, List.setIfInBounds_toArray, List.set_cons_zero, List.set_cons_succ]
    rfl
  refine take_ (i := 3) (N := (some 34)) (v := ?_) (a' := ?_) #[true, true, true, true, false, false, false] rfl rfl (by kernel_rfl) (fun _ _ _ h => h) (Or.inl ⟨by rfl, ?_⟩) hHeld ?_ ?_
  rotate_left
  · rintro w' ⟨s0, s1, s2⟩
    go_simp
    with_reducible rfl
  rotate_left
  · simp only [Act.put, List.setIfInBounds_toArray, List.set_cons_zero, List.set_cons_succ]
    rfl
  refine take_ (i := 4) (N := (some 35)) (v := ?_) (a' := ?_) #[true, true, true, true, true, false, false] rfl rfl (by kernel_rfl) (fun _ _ _ h => h) (Or.inl ⟨by rfl, ?_⟩) hHeld ?_ ?_
  rotate_left
  · rintro w' ⟨s0, s1, s2⟩
    go_simp
    with_reducible rfl
  rotate_left
  · simp only [Act.put, List.setIfInBounds_toArray, List.set_cons_zero, List.set_cons_succ]
    rfl
  refine one_ (i := 5) (N := none) #[true, true, true, true, true, true, false] rfl rfl (by kernel_rfl) (by decide) (fun K hK => ?_)
  obtain ⟨w1, hrun, hs1, hg1⟩ := (show Seen wa.drew mb S from HMa.out).update num HWF.out hS
  have HS1 := Aside0.mk (blk_grown (blk_drew HSa.out) hg1 (fun e => by injection e with e; subst e; have := HSa.out; rw [HMb.out.choose_spec.choose_spec] at this; cases this))
  have HA1 := Aside0.mk (blk_grown (blk_drew HAa.out) hg1 (fun e => by injection e with e; subst e; have := HAa.out; rw [HMb.out.choose_spec.choose_spec] at this; cases this))
  have HX1 := Aside0.mk (blk_grown (blk_drew HXa.out) hg1 (fun e => by injection e with e; subst e; have := HXa.out; rw [HMb.out.choose_spec.choose_spec] at this; cases this))
  have HM1 := Aside0.mk hs1
  have HB1 := Aside0.mk ((below_drew HBa.out).grown hg1 (by simp; omega) (fun k e => by injection e with e; omega))
  have HMb1 := Aside0.mk (show mb < w1.heap.size from hs1.lt)
  clear hs1 hg1
  go_simp
  refine hK.out _ _ ⟨(blk_cell HS1.out 0).trans rfl, (blk_cell HX1.out 0).trans rfl, (blk_cell HX1.out 2).trans rfl⟩ (fun hHeld => ?_)
  clear hK K hrun
  refine last_ (i := 6) (N := none) #[true, true, true, true, true, true, true] rfl rfl (by kernel_rfl) (by decide) (fun K hK => ?_)
  have hf1 := blk_frozen HA1.out 0
  have hc1 := (blk_cell HA1.out 0).trans rfl
  go_simp
  refine hK.out _ _ ?_
  clear hK K hHeld hf1 hc1
  refine done_ (by kernel_rfl) ?_
  have HS2 := Aside0.mk (blk_far HS1.out (p := ⟨ca, 0, none⟩) (blk_ne HS1.out HA1.out (by decide)) (.int .i64 to_))
  have HM2 := Aside0.mk (HM1.out.far (p := ⟨ca, 0, none⟩) HA1.out (.int .i64 to_))
  have HA2 := Aside0.mk (blk_put HA1.out 0 (.int .i64 to_) rfl)
  have HB2 := Aside0.mk (HB1.out.setCell (p := ⟨ca, 0, none⟩) hBa (.int .i64 to_))
  clear h1 h2 h3
  go_wp2_with fail
  go_ret
  exact ⟨rfl, HS2.out, HA2.out, HM2.out, HB2.out⟩

def okP (S : List Int) (a : Int) (x : P43) : Bool := isNumB x.num && (!decide (x.num ∈ S) && (x.from_ == a && decide (x.from_ < x.to_)))
theorem c81_any (B cs ca mb : Nat) (S : List Int) (a : Int) (i : Int) (x : P43) (w : World) (hcs : w.heap[cs]? = some (.cells #[.map (some mb)] 113 (0, 0))) (hca : w.heap[ca]? = some (.cells #[.int .i64 a] 2 (0, 0))) (hm : Seen w mb S)
    (hBs : B ≤ cs) (hBa : B ≤ ca) (hBm : B ≤ mb) (hwf : (Lit.int .i64 x.num).wf = true) (hS : S.length < 1000000) :
    Calls Try.prog 81 #[.int .i64 i, .agg #[.int .i64 x.num, .int .i64 x.from_, .int .i64 x.to_], .pointer (some ⟨cs, 0, none⟩), .pointer (some ⟨ca, 0, none⟩)] w fun e w' => e = .returned (.bool (okP S a x)) ∧ SeenSt B cs ca mb (x.num :: S) x.to_ w w' := by
  obtain ⟨num, from_, to_⟩ := x
  unfold okP
  simp only
  cases hn : isNumB num with
  | false => simpa using c81_nonum B cs ca mb S a i num from_ to_ w hcs hca hm hBs hBa hBm hwf hS hn
  | true =>
    by_cases hin : num ∈ S
    · have e : decide (num ∈ S) = true := decide_eq_true hin
      rw [e]
      simpa using c81_seen B cs ca mb S a i num from_ to_ w hcs hca hm hBs hBa hBm hwf hS hn hin
    · have e : decide (num ∈ S) = false := decide_eq_false hin
      rw [e]
      cases hf : from_ == a with
      | false => simpa using c81_from B cs ca mb S a i num from_ to_ w hcs hca hm hBs hBa hBm hwf hS hn hin hf
      | true => simpa using c81_to B cs ca mb S a i num from_ to_ w hcs hca hm hBs hBa hBm hwf hS hn hin hf

/-- The pairs, one behind the other: where they end, if they are right. -/
def allPairs : List P43 → List Int → Int → Option Int
  | [], _, a => some a
  | x :: r, S, a => if okP S a x = true then allPairs r (x.num :: S) x.to_ else none

set_option maxRecDepth 100000 in
set_option maxHeartbeats 1600000 in
theorem all43_any (B cs ca mb : Nat) (l : List P43) (A : Option Addr) (c : Nat) (w0 w : World) (hr : k43.C w0 A l.length l) (h0 : w0.heap.size ≤ B) (hb : Below w0.heap.size w0 w)
    (hcs : w.heap[cs]? = some (.cells #[.map (some mb)] 113 (0, 0))) (hca : w.heap[ca]? = some (.cells #[.int .i64 0] 2 (0, 0))) (hm : Seen w mb [])
    (hBs : B ≤ cs) (hBa : B ≤ ca) (hBm : B ≤ mb) (hwf : ∀ x ∈ l, (Lit.int .i64 x.num).wf = true) (hn : l.length ≤ 100000) :
    Calls Try.prog 80 #[.slice A l.length c, .func (.func 81) #[] #[.pointer (some ⟨cs, 0, none⟩), .pointer (some ⟨ca, 0, none⟩)]] w fun e w' =>
      e = .returned (.bool (allPairs l [] 0).isSome) ∧ Below B w w' ∧ ∀ a, allPairs l [] 0 = some a → w'.heap[ca]? = some (.cells #[.int .i64 a] 2 (0, 0)) := by
  have HR := Aside0.mk hr
  have H0 := Aside0.mk hb
  have HSt := Aside0.mk (show SeenSt B cs ca mb [] 0 w w from ⟨hcs, hca, hm, Below.refl _ _⟩)
  have HWF := Aside0.mk hwf
  clear hr hb hcs hca hm hwf
  go_enter Try.func80, Try.ntmps80
  go_wp2_with fail
  go_loopw [9] (fun v9 w' => ∃ (k : Nat) (S : List Int) (a : Int), k ≤ l.length ∧ v9 = .int .i64 k ∧ Aside0 (S.length = k) ∧ Aside0 (allPairs l [] 0 = allPairs (l.drop k) S a) ∧ Aside0 (SeenSt B cs ca mb S a w w')) (fun v9 _ => l.length - (intOf v9).toNat)
  case atStart => exact ⟨0, [], 0, Nat.zero_le _, rfl, ⟨rfl⟩, ⟨rfl⟩, HSt⟩
  case round =>
    obtain ⟨k, S, a, hk, rfl, HSL, HE, HS⟩ := hrel
    by_cases hlt : k < l.length
    · have hr2 := heap_k43.C (w1 := wr) (fun j hj => (HS.out.b.block j (Nat.lt_of_lt_of_le hj h0)).trans (H0.out.block j hj)) HR.out
      obtain ⟨ad, rfl, _⟩ := hr2.2.2 (by omega)
      obtain ⟨q0, q1, q2⟩ := k43_cells hr2 k hlt
      have HD := Aside0.mk (List.drop_eq_getElem_cons hlt)
      have lw := Seen.lt HS.out.m
      clear hr2
      go_wp2_with fail
      have hcall := c81_any B cs ca mb S a k l[k] _ (blk_alloc HS.out.s (.cells #[.int .i64 l[k].num, .int .i64 l[k].from_, .int .i64 l[k].to_] 43)) (blk_alloc HS.out.a _) (HS.out.m.alloc _) hBs hBa hBm (HWF.out _ (List.getElem_mem hlt)) (by have := HSL.out; omega)
      cases hok : okP S a l[k] with
      | false =>
        rw [hok] at hcall
        refine hcall.mono ?_
        rintro e w3 ⟨rfl, h3⟩
        have H3 := Aside0.mk h3
        have HN := Aside0.mk (show allPairs l [] 0 = none by rw [HE.out, HD.out, allPairs, if_neg (by rw [hok]; decide)])
        have HBf := Aside0.mk (HS.out.b.trans (((Below.refl B wr).alloc (by omega) _).trans h3.b))
        clear h3 q0 q1 q2 hcall hok
        go_wp2_with fail
        go_ret
        exact ⟨ret_bool (by rw [HN.out]; rfl), HBf.out, fun a ha => by rw [HN.out] at ha; cases ha⟩
      | true =>
        rw [hok] at hcall
        refine hcall.mono ?_
        rintro e w3 ⟨rfl, h3⟩
        have H3 := Aside0.mk h3
        have HN := Aside0.mk (show allPairs l [] 0 = allPairs (l.drop (k + 1)) (l[k].num :: S) l[k].to_ by rw [HE.out, HD.out, allPairs, if_pos hok])
        have HBf := Aside0.mk (HS.out.b.trans (((Below.refl B wr).alloc (by omega) _).trans h3.b))
        clear h3 q0 q1 q2 hcall hok
        go_wp2_with fail
        exact ⟨⟨k + 1, _, _, by omega, by go_num, ⟨by have := HSL.out; simp [this]⟩, HN, ⟨H3.out.s, H3.out.a, H3.out.m, HBf.out⟩⟩, by simp [intOf]; omega⟩
    · obtain rfl : k = l.length := by omega
      have HN := Aside0.mk (show allPairs l [] 0 = some a by rw [HE.out, List.drop_length]; rfl)
      go_wp2_with fail
      go_ret
      exact ⟨ret_bool (by rw [HN.out]; rfl), HS.out.b, fun a' ha => by rw [HN.out] at ha; cases ha; exact HS.out.a⟩
def rightM (t log : Int) (l : List P43) : Bool := isTimeB t && (isNumB log && (decide (l.length ≤ 16) && (match allPairs l [] 0 with | some a => a == t | none => false)))

/-- What rightManifest makes ahead of its test. -/
theorem rm_new (w : World) (t log : Int) (sl : Value) :
    ((((w.alloc (.cells #[.int .i64 t, .int .i64 log, sl] 38)).alloc (.cells #[.int .i64 0] 2)).alloc (.map #[] 0)).alloc (.cells #[.map (some (w.heap.size + 1 + 1))] 113)).heap[w.heap.size]? = some (.cells #[.int .i64 t, .int .i64 log, sl] 38 (0, 0)) ∧
    ((((w.alloc (.cells #[.int .i64 t, .int .i64 log, sl] 38)).alloc (.cells #[.int .i64 0] 2)).alloc (.map #[] 0)).alloc (.cells #[.map (some (w.heap.size + 1 + 1))] 113)).heap[w.heap.size + 1]? = some (.cells #[.int .i64 0] 2 (0, 0)) ∧
    Seen ((((w.alloc (.cells #[.int .i64 t, .int .i64 log, sl] 38)).alloc (.cells #[.int .i64 0] 2)).alloc (.map #[] 0)).alloc (.cells #[.map (some (w.heap.size + 1 + 1))] 113)) (w.heap.size + 1 + 1) [] ∧
    ((((w.alloc (.cells #[.int .i64 t, .int .i64 log, sl] 38)).alloc (.cells #[.int .i64 0] 2)).alloc (.map #[] 0)).alloc (.cells #[.map (some (w.heap.size + 1 + 1))] 113)).heap[w.heap.size + 1 + 1 + 1]? = some (.cells #[.map (some (w.heap.size + 1 + 1))] 113 (0, 0)) ∧
    Below w.heap.size w ((((w.alloc (.cells #[.int .i64 t, .int .i64 log, sl] 38)).alloc (.cells #[.int .i64 0] 2)).alloc (.map #[] 0)).alloc (.cells #[.map (some (w.heap.size + 1 + 1))] 113)) := by
  generalize hw1 : w.alloc (.cells #[.int .i64 t, .int .i64 log, sl] 38) = w1
  have s1 : w1.heap.size = w.heap.size + 1 := by rw [← hw1, size_alloc]
  have x1 : w1.heap[w.heap.size]? = some (.cells #[.int .i64 t, .int .i64 log, sl] 38 (0, 0)) := hw1 ▸ blk_new w _
  have b1 : Below w.heap.size w w1 := hw1 ▸ below_alloc (Below.refl _ _) _
  generalize hw2 : w1.alloc (.cells #[.int .i64 0] 2) = w2
  have s2 : w2.heap.size = w.heap.size + 1 + 1 := by rw [← hw2, size_alloc, s1]
  have x2 : w2.heap[w1.heap.size]? = some (.cells #[.int .i64 0] 2 (0, 0)) := hw2 ▸ blk_new w1 _
  generalize hw3 : w2.alloc (.map #[] 0) = w3
  have s3 : w3.heap.size = w.heap.size + 1 + 1 + 1 := by rw [← hw3, size_alloc, s2]
  have x3 : Seen w3 w2.heap.size [] := hw3 ▸ seen_made w2
  generalize hw4 : w3.alloc (.cells #[.map (some (w.heap.size + 1 + 1))] 113) = w4
  have x4 : w4.heap[w3.heap.size]? = some (.cells #[.map (some (w.heap.size + 1 + 1))] 113 (0, 0)) := hw4 ▸ blk_new w3 _
  rw [s3] at x4
  rw [s2] at x3
  rw [s1] at x2
  refine ⟨?_, ?_, ?_, x4, ?_⟩
  · rw [← hw4, ← hw3, ← hw2]
    exact blk_alloc (blk_alloc (blk_alloc x1 _) _) _
  · rw [← hw4, ← hw3]
    exact blk_alloc (blk_alloc x2 _) _
  · rw [← hw4]
    exact x3.alloc _
  · rw [← hw4, ← hw3, ← hw2]
    exact below_alloc (below_alloc (below_alloc b1 _) _) _

set_option maxRecDepth 100000 in
set_option maxHeartbeats 1600000 in
theorem rightManifest_any (t log : Int) (l : List P43) (A : Option Addr) (c : Nat) (w : World) (hr : k43.C w A l.length l) (hwf : ∀ x ∈ l, (Lit.int .i64 x.num).wf = true) :
    Calls Try.prog 50 #[.agg #[.int .i64 t, .int .i64 log, .slice A l.length c]] w fun e w' => e = .returned (.bool (rightM t log l)) ∧ Below w.heap.size w w' := by
  have HR := Aside0.mk hr
  have HWF := Aside0.mk hwf
  have hmx := hr.2.1
  clear hr hwf
  have hmm := @run_makeMap Try.prog
  cases ht : isTimeB t with
  | false =>
    have HT := Aside0.mk ht
    have HE := Aside0.mk (show rightM t log l = false by simp [rightM, ht])
    clear ht
    go_enter Try.func50, Try.ntmps50
    go_wp2_with fail
    refine (isTime_is t false HT.out _).mono ?_
    rintro e w1 ⟨rfl, rfl⟩
    go_wp2_with fail
    go_ret
    exact ⟨ret_bool HE.out.symm, by repeat (first | exact Below.refl _ _ | apply below_alloc | refine Below.setCell ?_ (by simp) _)⟩
  | true =>
    have HT := Aside0.mk ht
    cases hl : isNumB log with
    | false =>
      have HN := Aside0.mk hl
      have HE := Aside0.mk (show rightM t log l = false by simp [rightM, hl])
      clear ht hl
      go_enter Try.func50, Try.ntmps50
      go_wp2_with fail
      refine (isTime_is t true HT.out _).mono ?_
      rintro e w1 ⟨rfl, rfl⟩
      go_wp2_with fail
      refine (isNum_is log false HN.out _).mono ?_
      rintro e w1 ⟨rfl, rfl⟩
      go_wp2_with fail
      go_ret
      exact ⟨ret_bool HE.out.symm, by repeat (first | exact Below.refl _ _ | apply below_alloc | refine Below.setCell ?_ (by simp) _)⟩
    | true =>
      have HN := Aside0.mk hl
      clear hl
      by_cases hn : l.length ≤ 16
      · have HW := Aside0.mk (rm_new w t log (.slice A l.length c))
        have HE := Aside0.mk (show rightM t log l = (match allPairs l [] 0 with | some a => a == t | none => false) by simp [rightM, HT.out, HN.out, hn])
        clear ht
        go_enter Try.func50, Try.ntmps50
        go_wp2_with fail
        refine (isTime_is t true HT.out _).mono ?_
        rintro e w1 ⟨rfl, rfl⟩
        go_wp2_with fail
        refine (isNum_is log true HN.out _).mono ?_
        rintro e w1 ⟨rfl, rfl⟩
        go_wp2_with fail
        obtain ⟨hx, ha, hs, hc, hb⟩ := HW.out
        have HX := Aside0.mk hx
        have HB := Aside0.mk hb
        refine (all43_any (w.heap.size + 1) (w.heap.size + 1 + 1 + 1) (w.heap.size + 1) (w.heap.size + 1 + 1) l A c w _ HR.out (Nat.le_succ _) hb hc ha hs (by omega) (by omega) (by omega) HWF.out (by omega)).mono ?_
        rintro e w2 ⟨rfl, hb2, hfin⟩
        have HX2 := Aside0.mk ((hb2.block w.heap.size (by omega)).trans HX.out)
        have HB2 := Aside0.mk (HB.out.trans (hb2.mono (Nat.le_succ _)))
        clear hx ha hs hc hb hb2 HW
        cases hp : allPairs l [] 0 with
        | none =>
          have HP := Aside0.mk hp
          rw [hp] at HE
          clear hp hfin
          go_wp2_with fail
          go_ret
          exact ⟨ret_bool (by rw [HE.out]), HB2.out⟩
        | some a =>
          rw [hp] at HE
          have hca : w2.cell? ⟨w.heap.size + 1, 0, none⟩ = some (.int .i64 a) := (blk_cell (hfin a hp) 0).trans rfl
          have hct : w2.cell? ⟨w.heap.size, 0, none⟩ = some (.int .i64 t) := (blk_cell HX2.out 0).trans rfl
          clear hp hfin
          go_wp2_with fail
          go_ret
          exact ⟨ret_bool (by rw [HE.out]), HB2.out⟩
      · have HE := Aside0.mk (show rightM t log l = false by simp [rightM, hn])
        clear ht
        go_enter Try.func50, Try.ntmps50
        go_wp2_with fail
        refine (isTime_is t true HT.out _).mono ?_
        rintro e w1 ⟨rfl, rfl⟩
        go_wp2_with fail
        refine (isNum_is log true HN.out _).mono ?_
        rintro e w1 ⟨rfl, rfl⟩
        go_wp2_with fail
        go_ret
        exact ⟨ret_bool HE.out.symm, by repeat (first | exact Below.refl _ _ | apply below_alloc | refine Below.setCell ?_ (by simp) _)⟩
end Go.Proofs.Ytmemkmnnededgaa.H
