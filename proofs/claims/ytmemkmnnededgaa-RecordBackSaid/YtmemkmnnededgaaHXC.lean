/- Plain laws: what is right is read from its bytes as it is, and from no beginning of them, nor with more behind. -/
import Derived.Test.YtmemkmnnededgaaHXB
import Derived.Test.YtmemkmnnededgaaHJ
namespace Go.Proofs.Ytmemkmnnededgaa.H
open Go.RowKit Go.Proofs.YtmemkmnnededgaaW.PrintWords Go.Proofs.YtmemkmnnededgaaW.PrintLast Go.Proofs.YtmemkmnnededgaaW.PrintMore
set_option linter.unusedVariables false
set_option linter.unusedSimpArgs false

theorem size_zero {s : ByteArray} (h : s.size = 0) : s = ⟨#[]⟩ := by
  cases s with
  | mk d => congr 1; exact Array.eq_empty_of_size_eq_zero h
theorem rightC_read (t : Int) (l : List W27) (h : rightC t l = true) : readT t ∧ (l.length : Int) ≤ 64 ∧ ∀ x ∈ l, readW x := by
  unfold rightC at h
  simp only [Bool.and_eq_true, decide_eq_true_eq] at h
  refine ⟨(isTime_iff t).1 h.1, by omega, fun x hx => ?_⟩
  obtain ⟨i, hi, rfl⟩ := List.getElem_of_mem hx
  have := allFrom_get l h.2.2 i hi
  unfold wOkAt at this
  rw [List.getElem?_eq_getElem hi] at this
  simp only [Bool.and_eq_true, isKeyB, isValB, decide_eq_true_eq, Bool.or_eq_true, Bool.not_eq_true', beq_iff_eq] at this
  obtain ⟨⟨⟨k1, k2⟩, k3⟩, _⟩ := this
  refine ⟨by omega, by omega, fun hg => ?_⟩
  rcases k3 with k3 | k3
  · rw [hg] at k3; cases k3
  · exact size_zero k3
theorem commitB_enc (t : Int) (l : List W27) (h : rightC t l = true) : commitB t l = 67 :: (numB t.toNat ++ (numB l.length ++ wsB l)) := by
  obtain ⟨a1, a2, a3⟩ := rightC_read t l h
  unfold commitB
  rw [nb_time _ a1, nb_len_ _ (by omega)]
theorem rdC_commitB (t : Int) (l : List W27) (h : rightC t l = true) : rdC (commitB t l) ⟨1, -1⟩ = ((t, l), ⟨((commitB t l).length : Nat), -1⟩) := by
  rw [commitB_enc t l h]
  exact all_enc rd_C 67 (t, l) (rightC_read t l h)
theorem back_C (t : Int) (l : List W27) (h : rightC t l = true) : takeCR (commitB t l) = ((t, l), 0, 0) := by
  have h1 := rdC_commitB t l h
  unfold takeCR
  rw [h1]
  rw [if_neg (by unfold commitB; simp), if_neg (by simp only; omega)]
  simp only
  rw [if_pos h]
theorem cut_C (t : Int) (l : List W27) (h : rightC t l = true) (hb : Bytes (commitB t l)) (k : Nat) (hk : k < (commitB t l).length) : (takeCR ((commitB t l).take k)).2.2 ≠ 0 := by
  intro hh
  unfold takeCR at hh
  by_cases h1 : ((commitB t l).take k).length = 0 ∨ ((commitB t l).take k).getD 0 0 ≠ 67
  · rw [if_pos h1] at hh; exact absurd hh (by decide)
  rw [if_neg h1] at hh
  by_cases h2 : 0 ≤ (rdC ((commitB t l).take k) ⟨1, -1⟩).2.bad ∨ (rdC ((commitB t l).take k) ⟨1, -1⟩).2.at_ < ((commitB t l).take k).length
  · rw [if_pos h2] at hh; exact absurd (show (61 : Int) = 0 from hh) (by decide)
  have he := rd_C.ext ((commitB t l).take k) ((commitB t l).drop k) ⟨1, -1⟩ (by decide) (by omega)
  rw [List.take_append_drop, rdC_commitB t l h] at he
  obtain ⟨_, g2, g3⟩ := rd_C.good ((commitB t l).take k) ⟨1, -1⟩ (by decide) (fun x hx => hb x (List.mem_of_mem_take hx)) (by omega)
  have g4 := congrArg List.length g3
  rw [List.length_drop, List.length_append, List.length_drop] at g4
  rw [← he] at g2 g4
  simp only [List.length_take] at g2 g4 h1
  omega
theorem more_C (t : Int) (l : List W27) (h : rightC t l = true) : (takeCR (commitB t l ++ [0])).2.2 = 61 := by
  have h0 := rdC_commitB t l h
  have he := rd_C.ext (commitB t l) [0] ⟨1, -1⟩ (by decide) (by rw [h0]; show (-1 : Int) < 0; decide)
  unfold takeCR
  rw [he, h0, if_neg (by unfold commitB; simp), if_pos (Or.inr (by simp only [List.length_append, List.length_singleton]; omega))]
theorem row_C (t : Int) (l : List W27) : (takeRR (commitB t l)).2.2 = 61 := by
  unfold takeRR
  rw [if_pos (Or.inr (by unfold commitB; simp))]

theorem back_R (k v : ByteArray) (t : Int) (h : rightR k v t = true) : takeRR (rowB k v t) = ((k, v, t), 0, 0) := by
  unfold rightR at h
  simp only [Bool.and_eq_true, isTime_iff] at h
  obtain ⟨h1, h2, h3⟩ := h
  have e : rowB k v t = 82 :: (tb k ++ (tb v ++ numB t.toNat)) := by unfold rowB; rw [nb_time _ h3]
  have hk := h1
  have hv := h2
  simp only [isKeyB, isValB, decide_eq_true_eq] at hk hv
  have hr := all_enc rd_R 82 (k, v, t) ⟨by simp only; omega, by simp only; omega, h3⟩
  simp only at hr
  rw [← e] at hr
  unfold takeRR
  rw [hr, if_neg (by unfold rowB; simp), if_neg (by simp only; omega)]
  simp only
  rw [if_pos h1]

/-- The pairs of a right manifest: their numbers fit; their times go up to the last. -/
theorem allPairs_read (l : List P43) : ∀ S a t, allPairs l S a = some t → 0 ≤ a → a ≤ t ∧ ∀ x ∈ l, (0 ≤ x.num ∧ x.num ≤ 2147483647) ∧ 0 ≤ x.from_ ∧ x.from_ ≤ t ∧ 0 ≤ x.to_ ∧ x.to_ ≤ t := by
  induction l with
  | nil =>
    intro S a t h ha
    simp only [allPairs, Option.some.injEq] at h
    exact ⟨by omega, fun x hx => by cases hx⟩
  | cons x r ih =>
    intro S a t h ha
    simp only [allPairs] at h
    by_cases hok : okP S a x = true
    · rw [if_pos hok] at h
      unfold okP at hok
      simp only [Bool.and_eq_true, isNumB, decide_eq_true_eq, beq_iff_eq, Bool.not_eq_true', decide_eq_false_iff_not] at hok
      obtain ⟨h1, h2, h3, h4⟩ := hok
      obtain ⟨q1, q2⟩ := ih _ _ _ h (by omega)
      refine ⟨by omega, fun y hy => ?_⟩
      rcases List.mem_cons.1 hy with rfl | hy
      · omega
      · exact q2 y hy
    · rw [if_neg hok] at h; cases h
theorem rightM_read (t g : Int) (l : List P43) (h : rightM t g l = true) : readT t ∧ (0 ≤ g ∧ g ≤ 2147483647) ∧ (l.length : Int) ≤ 16 ∧ ∀ x ∈ l, readP x := by
  unfold rightM at h
  simp only [Bool.and_eq_true, isTime_iff, isNumB, decide_eq_true_eq] at h
  obtain ⟨h1, h2, h3, h4⟩ := h
  cases hp : allPairs l [] 0 with
  | none => rw [hp] at h4; cases h4
  | some a =>
    rw [hp] at h4
    simp only [beq_iff_eq] at h4
    subst h4
    obtain ⟨_, q⟩ := allPairs_read l _ _ _ hp (by decide)
    refine ⟨h1, by omega, by omega, fun x hx => ?_⟩
    obtain ⟨w1, w2, w3, w4, w5⟩ := q x hx
    have := h1.2
    exact ⟨w1, ⟨w2, by omega⟩, ⟨w4, by omega⟩⟩
theorem back_M (t g : Int) (l : List P43) (h : rightM t g l = true) : takeMR (manifestB t g l) = ((t, g, l), 0, 0) := by
  obtain ⟨a1, a2, a3, a4⟩ := rightM_read t g l h
  have e : manifestB t g l = 77 :: (numB t.toNat ++ (numB g.toNat ++ (numB l.length ++ (l.map encP).flatten))) := by
    unfold manifestB
    rw [nb_time _ a1, nb_time _ ⟨a2.1, by omega⟩, nb_len_ _ (by omega), psB_enc _ a4]
  have hr := all_enc rd_M 77 (t, g, l) ⟨a1, a2, a3, a4⟩
  simp only at hr
  rw [← e] at hr
  unfold takeMR
  rw [hr, if_neg (by unfold manifestB; simp), if_neg (by simp only; omega)]
  simp only
  rw [if_pos h]

/-! ### What is written is bytes, and not many -/
theorem nb_bytes (n : Int) : Bytes (nb n) := numB_bytes _
theorem bytesOf_bytes (s : ByteArray) : Bytes (bytesOf s) := by
  intro x hx
  unfold bytesOf at hx
  obtain ⟨u, _, rfl⟩ := List.mem_map.1 hx
  have := u.toNat_lt
  omega
theorem Bytes.app {a b : List Int} (ha : Bytes a) (hb : Bytes b) : Bytes (a ++ b) := fun x hx => (List.mem_append.1 hx).elim (ha x) (hb x)
theorem Bytes.cons {a : Int} {b : List Int} (ha : 0 ≤ a ∧ a ≤ 255) (hb : Bytes b) : Bytes (a :: b) := fun x hx => (List.mem_cons.1 hx).elim (fun e => e ▸ ha) (hb x)
theorem tb_bytes (s : ByteArray) : Bytes (tb s) := Bytes.app (numB_bytes _) (bytesOf_bytes s)
theorem wB_bytes (x : W27) : Bytes (wB x) := by
  unfold wB
  split
  · exact Bytes.cons (by decide) (tb_bytes _)
  · exact Bytes.cons (by decide) (Bytes.app (tb_bytes _) (tb_bytes _))
theorem flat_bytes {α : Type} (f : α → List Int) (h : ∀ x, Bytes (f x)) (l : List α) : Bytes (l.map f).flatten := by
  intro x hx
  obtain ⟨y, hy, hx⟩ := List.mem_flatten.1 hx
  obtain ⟨z, _, rfl⟩ := List.mem_map.1 hy
  exact h z x hx
theorem commitB_bytes (t : Int) (l : List W27) : Bytes (commitB t l) := Bytes.cons (by decide) (Bytes.app (nb_bytes _) (Bytes.app (nb_bytes _) (flat_bytes wB wB_bytes l)))
theorem pB_bytes (x : P43) : Bytes (pB x) := Bytes.app (nb_bytes _) (Bytes.app (nb_bytes _) (nb_bytes _))
theorem manifestB_bytes (t g : Int) (l : List P43) : Bytes (manifestB t g l) := Bytes.cons (by decide) (Bytes.app (nb_bytes _) (Bytes.app (nb_bytes _) (Bytes.app (nb_bytes _) (flat_bytes pB pB_bytes l))))
theorem rowB_bytes (k v : ByteArray) (t : Int) : Bytes (rowB k v t) := Bytes.cons (by decide) (Bytes.app (tb_bytes _) (Bytes.app (tb_bytes _) (nb_bytes _)))
theorem commitB_len (t : Int) (l : List W27) (h : rightC t l = true) : (commitB t l).length < 1000000 := by
  obtain ⟨h1, h2⟩ := rightC_small t l h
  have := nb_len t
  have := nb_len l.length
  have := wsB_len l h2
  unfold commitB
  simp only [List.length_cons, List.length_append]
  omega
theorem manifestB_len (t g : Int) (l : List P43) (h : rightM t g l = true) : (manifestB t g l).length < 1000000 := by
  have h1 := rightM_len t g l h
  have := nb_len t
  have := nb_len g
  have := nb_len l.length
  have := psB_len l
  unfold manifestB
  simp only [List.length_cons, List.length_append]
  omega
theorem rowB_len (k v : ByteArray) (t : Int) (h : rightR k v t = true) : (rowB k v t).length < 1000000 := by
  unfold rightR at h
  simp only [Bool.and_eq_true, isKeyB, isValB, decide_eq_true_eq] at h
  have := tb_len k (by omega)
  have := tb_len v (by omega)
  have := nb_len t
  unfold rowB
  simp only [List.length_cons, List.length_append]
  omega
end Go.Proofs.Ytmemkmnnededgaa.H
