/- Plain functions on numbers and lists: what the layer's bytes are. -/
namespace Go.Proofs.Ytmemkmnnededgaa.H

/-- A number's bytes. -/
def numB (n : Nat) : List Int := if n < 128 then [(n : Int)] else ((n % 128 + 128 : Nat) : Int) :: numB (n / 128)
termination_by n
decreasing_by omega

theorem numB_small {n : Nat} (h : n < 128) : numB n = [(n : Int)] := by rw [numB, if_pos h]
theorem numB_big {n : Nat} (h : ¬ n < 128) : numB n = ((n % 128 + 128 : Nat) : Int) :: numB (n / 128) := by rw [numB, if_neg h]
theorem numB_len (k : Nat) : ∀ n, n < 128 ^ (k + 1) → (numB n).length ≤ k + 1 := by
  induction k with
  | zero => intro n h; rw [numB_small (by simpa using h)]; simp
  | succ k ih =>
    intro n h
    by_cases h1 : n < 128
    · rw [numB_small h1]; simp
    · rw [numB_big h1]
      have : n / 128 < 128 ^ (k + 1) := by rw [Nat.div_lt_iff_lt_mul (by omega)]; rw [Nat.pow_succ] at h; exact h
      have := ih _ this
      simp; omega
theorem numB_len10 {n : Nat} (h : n < 18446744073709551616) : (numB n).length ≤ 10 := numB_len 9 n (by omega)
theorem numB_pos (n : Nat) : 0 < (numB n).length := by
  by_cases h : n < 128
  · rw [numB_small h]; simp
  · rw [numB_big h]; simp
theorem numB_bytes (n : Nat) : ∀ x ∈ numB n, 0 ≤ x ∧ x ≤ 255 := by
  induction n using Nat.strongRecOn with
  | _ n ih =>
    by_cases h : n < 128
    · rw [numB_small h]; intro x hx; simp at hx; omega
    · rw [numB_big h]; intro x hx
      rcases List.mem_cons.1 hx with rfl | hx
      · omega
      · exact ih _ (by omega) x hx

/-- A number read from a list, the i-th byte being next: what it is (counted from the i-th group on), and how many bytes it has from here on. -/
def takeL : Nat → List Int → Option (Nat × Nat)
  | _, [] => none
  | i, c :: cs =>
    if 10 ≤ i then none
    else if i = 9 ∧ 1 < c then none
    else if 128 ≤ c then (takeL (i + 1) cs).map fun r => (c.toNat % 128 + 128 * r.1, r.2 + 1)
    else if 0 < i ∧ c = 0 then none
    else some (c.toNat, 1)
def takeR (b : List Int) (p : Int) : Int × Int × Bool :=
  if 0 ≤ p ∧ p < b.length then
    match takeL 0 (b.drop p.toNat) with
    | some r => ((r.1 : Int), p + r.2, true)
    | none => (0, 0, false)
  else (0, 0, false)
/-- What is still to come, when i bytes have been read and tell a. -/
def takeFrom (b : List Int) (p : Nat) (i a : Nat) : Int × Int × Bool :=
  match takeL i (b.drop (p + i)) with
  | some r => (((a + 128 ^ i * r.1 : Nat) : Int), ((p + i + r.2 : Nat) : Int), true)
  | none => (0, 0, false)
theorem takeR_in (b : List Int) (p : Nat) (h : p < b.length) : takeR b p = takeFrom b p 0 0 := by
  unfold takeR takeFrom
  rw [if_pos ⟨by omega, by omega⟩]
  simp only [Int.toNat_natCast, Nat.add_zero, Nat.pow_zero, Nat.one_mul, Nat.zero_add]
  cases takeL 0 (b.drop p) with
  | none => rfl
  | some r => simp
theorem takeR_out (b : List Int) (p : Int) (h : ¬ (0 ≤ p ∧ p < b.length)) : takeR b p = (0, 0, false) := by
  unfold takeR
  rw [if_neg h]
theorem takeFrom_end (b : List Int) (p i a : Nat) (h : b.length ≤ p + i ∨ 10 ≤ i) : takeFrom b p i a = (0, 0, false) := by
  unfold takeFrom
  have : takeL i (b.drop (p + i)) = none := by
    cases hd : b.drop (p + i) with
    | nil => rfl
    | cons c cs =>
      have : p + i < b.length := by
        have := congrArg List.length hd
        simp at this; omega
      simp only [takeL]
      rw [if_pos (by omega)]
  rw [this]
theorem drop_at (b : List Int) (q : Nat) (h : q < b.length) : b.drop q = b.getD q 0 :: b.drop (q + 1) := by
  rw [List.drop_eq_getElem_cons h]
  simp [List.getD_eq_getElem?_getD, List.getElem?_eq_getElem h]
theorem takeFrom_nine (b : List Int) (p a : Nat) (h : p + 9 < b.length) (hc : 1 < b.getD (p + 9) 0) : takeFrom b p 9 a = (0, 0, false) := by
  unfold takeFrom
  rw [drop_at b _ h]
  simp only [takeL]
  rw [if_neg (by omega), if_pos ⟨trivial, hc⟩]
theorem takeFrom_zero (b : List Int) (p i a : Nat) (h : p + i < b.length) (hi : 0 < i) (hc : b.getD (p + i) 0 = 0) : takeFrom b p i a = (0, 0, false) := by
  unfold takeFrom
  rw [drop_at b _ h]
  simp only [takeL]
  by_cases h1 : 10 ≤ i
  · rw [if_pos h1]
  · rw [if_neg h1, if_neg (by omega), if_neg (by omega), if_pos ⟨hi, hc⟩]
theorem takeFrom_more (b : List Int) (p i a : Nat) (h : p + i < b.length) (hi : i < 10) (h9 : ¬ (i = 9 ∧ 1 < b.getD (p + i) 0)) (hc : 128 ≤ b.getD (p + i) 0) :
    takeFrom b p i a = takeFrom b p (i + 1) (a + 128 ^ i * ((b.getD (p + i) 0).toNat % 128)) := by
  unfold takeFrom
  rw [drop_at b _ h]
  simp only [takeL]
  rw [if_neg (by omega), if_neg h9, if_pos hc, show p + (i + 1) = p + i + 1 by omega]
  cases takeL (i + 1) (b.drop (p + i + 1)) with
  | none => rfl
  | some r =>
    simp only [Option.map_some]
    refine Prod.ext ?_ (Prod.ext ?_ rfl)
    · simp only [Nat.pow_succ]
      congr 1
      rw [Nat.mul_add, Nat.add_assoc, ← Nat.mul_assoc]
    · simp only
      congr 1
      omega
theorem takeFrom_last (b : List Int) (p i a : Nat) (h : p + i < b.length) (hi : i < 10) (h9 : ¬ (i = 9 ∧ 1 < b.getD (p + i) 0)) (hc : ¬ 128 ≤ b.getD (p + i) 0) (hz : ¬ (0 < i ∧ b.getD (p + i) 0 = 0)) :
    takeFrom b p i a = (((a + 128 ^ i * (b.getD (p + i) 0).toNat : Nat) : Int), ((p + i + 1 : Nat) : Int), true) := by
  unfold takeFrom
  rw [drop_at b _ h]
  simp only [takeL]
  rw [if_neg (by omega), if_neg h9, if_neg hc, if_neg hz]

theorem takeL_bounds (l : List Int) : ∀ i r, takeL i l = some r → i < 10 ∧ r.1 < 2 ^ (64 - 7 * i) ∧ 1 ≤ r.2 ∧ r.2 ≤ l.length := by
  induction l with
  | nil => intro i r h; simp [takeL] at h
  | cons c cs ih =>
    intro i r h
    simp only [takeL] at h
    by_cases h1 : 10 ≤ i
    · rw [if_pos h1] at h; cases h
    rw [if_neg h1] at h
    by_cases h2 : i = 9 ∧ 1 < c
    · rw [if_pos h2] at h; cases h
    rw [if_neg h2] at h
    by_cases h3 : 128 ≤ c
    · rw [if_pos h3] at h
      cases hr : takeL (i + 1) cs with
      | none => rw [hr] at h; simp at h
      | some q =>
        rw [hr] at h
        simp only [Option.map_some, Option.some.injEq] at h
        subst h
        obtain ⟨g1, g2, g3, g4⟩ := ih _ _ hr
        have e : 2 ^ (64 - 7 * i) = 128 * 2 ^ (64 - 7 * (i + 1)) := by
          rw [show 64 - 7 * i = (64 - 7 * (i + 1)) + 7 by omega, Nat.pow_add, Nat.mul_comm]
        refine ⟨by omega, ?_, by omega, by simp; omega⟩
        simp only
        omega
    · rw [if_neg h3] at h
      by_cases h4 : 0 < i ∧ c = 0
      · rw [if_pos h4] at h; cases h
      rw [if_neg h4] at h
      simp only [Option.some.injEq] at h
      subst h
      refine ⟨by omega, ?_, Nat.le_refl _, by simp⟩
      simp only
      by_cases h9 : i = 9
      · subst h9; omega
      · have : 2 ^ 8 ≤ 2 ^ (64 - 7 * i) := Nat.pow_le_pow_right (by omega) (by omega)
        omega
theorem takeR_bounds (b : List Int) (p : Int) (h : (takeR b p).2.2 = true) : 0 ≤ (takeR b p).1 ∧ (takeR b p).1 < 18446744073709551616 ∧ 0 ≤ p ∧ p < (takeR b p).2.1 ∧ (takeR b p).2.1 ≤ b.length := by
  unfold takeR at h ⊢
  by_cases h1 : 0 ≤ p ∧ p < b.length
  · rw [if_pos h1] at h ⊢
    cases hr : takeL 0 (b.drop p.toNat) with
    | none => rw [hr] at h; cases h
    | some r =>
      obtain ⟨_, g2, g3, g4⟩ := takeL_bounds _ _ _ hr
      simp at g2 g4 ⊢
      omega
  · rw [if_neg h1] at h; cases h
theorem takeR_no (b : List Int) (p : Int) (h : (takeR b p).2.2 = false) : takeR b p = (0, 0, false) := by
  unfold takeR at h ⊢
  by_cases h1 : 0 ≤ p ∧ p < b.length
  · rw [if_pos h1] at h ⊢
    cases hr : takeL 0 (b.drop p.toNat) with
    | none => rfl
    | some r => rw [hr] at h; cases h
  · rw [if_neg h1]
end Go.Proofs.Ytmemkmnnededgaa.H
