/- Plain laws: what is read is what its bytes are, and what is right is read from its bytes. Numbers, texts, flags, lists. -/
import Derived.Test.YtmemkmnnededgaaHW
namespace Go.Proofs.Ytmemkmnnededgaa.H
open Go.RowKit Go.Proofs.YtmemkmnnededgaaW.PrintWords Go.Proofs.YtmemkmnnededgaaW.PrintLast Go.Proofs.YtmemkmnnededgaaW.PrintMore
set_option linter.unusedVariables false
set_option linter.unusedSimpArgs false

/-! ### Numbers -/
theorem takeL_pos (l : List Int) (hb : Bytes l) : ∀ i r, takeL i l = some r → 0 < i → 0 < r.1 := by
  induction l with
  | nil => intro i r h; simp [takeL] at h
  | cons c cs ih =>
    intro i r h hi
    simp only [takeL] at h
    by_cases h1 : 10 ≤ i
    · rw [if_pos h1] at h; cases h
    rw [if_neg h1] at h
    by_cases h2 : i = 9 ∧ 1 < c
    · rw [if_pos h2] at h; cases h
    rw [if_neg h2] at h
    by_cases h3 : 128 ≤ c
    · rw [if_pos h3] at h
      cases hr : takeL (i + 1) cs with
      | none => rw [hr] at h; simp at h
      | some q =>
        rw [hr] at h
        simp only [Option.map_some, Option.some.injEq] at h
        subst h
        have := ih (fun x hx => hb x (List.mem_cons_of_mem _ hx)) _ _ hr (by omega)
        simp only
        omega
    · rw [if_neg h3] at h
      by_cases h4 : 0 < i ∧ c = 0
      · rw [if_pos h4] at h; cases h
      rw [if_neg h4] at h
      simp only [Option.some.injEq] at h
      subst h
      have := hb c List.mem_cons_self
      simp only
      omega
theorem takeL_dec (l : List Int) (hb : Bytes l) : ∀ i r, takeL i l = some r → l = numB r.1 ++ l.drop r.2 ∧ r.2 = (numB r.1).length := by
  induction l with
  | nil => intro i r h; simp [takeL] at h
  | cons c cs ih =>
    intro i r h
    have hc := hb c List.mem_cons_self
    simp only [takeL] at h
    by_cases h1 : 10 ≤ i
    · rw [if_pos h1] at h; cases h
    rw [if_neg h1] at h
    by_cases h2 : i = 9 ∧ 1 < c
    · rw [if_pos h2] at h; cases h
    rw [if_neg h2] at h
    by_cases h3 : 128 ≤ c
    · rw [if_pos h3] at h
      cases hr : takeL (i + 1) cs with
      | none => rw [hr] at h; simp at h
      | some q =>
        rw [hr] at h
        simp only [Option.map_some, Option.some.injEq] at h
        subst h
        have hb' : Bytes cs := fun x hx => hb x (List.mem_cons_of_mem _ hx)
        have hp := takeL_pos cs hb' _ _ hr (by omega)
        obtain ⟨e1, e2⟩ := ih hb' _ _ hr
        simp only
        have hbig : ¬ (c.toNat % 128 + 128 * q.1) < 128 := by omega
        rw [numB_big hbig]
        have m1 : (c.toNat % 128 + 128 * q.1) % 128 + 128 = c.toNat := by omega
        have m2 : (c.toNat % 128 + 128 * q.1) / 128 = q.1 := by omega
        rw [m1, m2]
        refine ⟨?_, by simp [e2]⟩
        rw [Int.toNat_of_nonneg hc.1, List.drop_succ_cons, List.cons_append, ← e1]
    · rw [if_neg h3] at h
      by_cases h4 : 0 < i ∧ c = 0
      · rw [if_pos h4] at h; cases h
      rw [if_neg h4] at h
      simp only [Option.some.injEq] at h
      subst h
      simp only
      rw [numB_small (by omega)]
      simp
      omega
theorem takeL_ext (l x : List Int) : ∀ i r, takeL i l = some r → takeL i (l ++ x) = some r := by
  induction l with
  | nil => intro i r h; simp [takeL] at h
  | cons c cs ih =>
    intro i r h
    simp only [takeL, List.cons_append] at h ⊢
    by_cases h1 : 10 ≤ i
    · rw [if_pos h1] at h; cases h
    rw [if_neg h1] at h ⊢
    by_cases h2 : i = 9 ∧ 1 < c
    · rw [if_pos h2] at h; cases h
    rw [if_neg h2] at h ⊢
    by_cases h3 : 128 ≤ c
    · rw [if_pos h3] at h ⊢
      cases hr : takeL (i + 1) cs with
      | none => rw [hr] at h; simp at h
      | some q =>
        rw [hr] at h
        rw [ih _ _ hr]
        exact h
    · rw [if_neg h3] at h ⊢
      exact h
theorem takeL_enc : ∀ (n i : Nat) (x : List Int), i < 10 → n < 2 ^ (64 - 7 * i) → (0 < i → 0 < n) → takeL i (numB n ++ x) = some (n, (numB n).length) := by
  intro n
  induction n using Nat.strongRecOn with
  | _ n ih =>
    intro i x hi hn hp
    by_cases h : n < 128
    · rw [numB_small h]
      simp only [List.cons_append, List.nil_append, takeL]
      rw [if_neg (by omega), if_neg (by rintro ⟨rfl, h2⟩; simp at hn; omega), if_neg (by omega), if_neg (by omega)]
      simp
    · rw [numB_big h]
      have hi9 : i < 9 := by
        by_cases h9 : i = 9
        · subst h9; simp at hn; omega
        · omega
      have e : 2 ^ (64 - 7 * i) = 128 * 2 ^ (64 - 7 * (i + 1)) := by
        rw [show 64 - 7 * i = (64 - 7 * (i + 1)) + 7 by omega, Nat.pow_add, Nat.mul_comm]
      have hr := ih (n / 128) (by omega) (i + 1) x (by omega) (by omega) (by omega)
      simp only [List.cons_append, takeL]
      rw [if_neg (by omega), if_neg (by omega), if_pos (by omega), hr]
      simp only [Option.map_some, List.length_cons, Option.some.injEq, Prod.mk.injEq, and_true]
      simp only [Int.toNat_natCast]
      omega

theorem Bytes.drop {b : List Int} (h : Bytes b) (n : Nat) : Bytes (b.drop n) := fun x hx => h x (List.mem_of_mem_drop hx)
theorem takeR_dec (b : List Int) (hb : Bytes b) (p : Int) (h : (takeR b p).2.2 = true) :
    (takeR b p).2.1 = p + (numB (takeR b p).1.toNat).length ∧ b.drop p.toNat = numB (takeR b p).1.toNat ++ b.drop (takeR b p).2.1.toNat := by
  unfold takeR at h ⊢
  by_cases h1 : 0 ≤ p ∧ p < b.length
  · rw [if_pos h1] at h ⊢
    cases hr : takeL 0 (b.drop p.toNat) with
    | none => rw [hr] at h; cases h
    | some r =>
      obtain ⟨e1, e2⟩ := takeL_dec _ (hb.drop _) _ _ hr
      simp only [Int.toNat_natCast]
      refine ⟨by rw [← e2], ?_⟩
      rw [List.drop_drop] at e1
      rw [show (p + (r.2 : Int)).toNat = p.toNat + r.2 by omega]
      exact e1
  · rw [if_neg h1] at h; cases h
theorem takeR_ext (b x : List Int) (p : Int) (h : (takeR b p).2.2 = true) : takeR (b ++ x) p = takeR b p := by
  unfold takeR at h ⊢
  by_cases h1 : 0 ≤ p ∧ p < b.length
  · rw [if_pos h1] at h ⊢
    rw [if_pos ⟨h1.1, by simp; omega⟩]
    cases hr : takeL 0 (b.drop p.toNat) with
    | none => rw [hr] at h; cases h
    | some r =>
      rw [List.drop_append_of_le_length (by omega), takeL_ext _ _ _ _ hr]
  · rw [if_neg h1] at h; cases h
theorem takeR_enc (b : List Int) (p : Int) (h0 : 0 ≤ p) (n : Nat) (hn : n < 18446744073709551616) (y : List Int) (h : b.drop p.toNat = numB n ++ y) :
    takeR b p = ((n : Int), p + (numB n).length, true) := by
  have hl : p.toNat < b.length := by
    have := congrArg List.length h
    have := numB_pos n
    simp at *
    omega
  unfold takeR
  rw [if_pos ⟨h0, by omega⟩, h, takeL_enc n 0 y (by omega) (by simpa using hn) (by omega)]

theorem strOf_bytes (s : ByteArray) : strOfNums (bytesOf s) = s := by
  unfold strOfNums bytesOf
  cases s with
  | mk d =>
    congr 1
    apply Array.toList_inj.1
    simp [List.map_map, Function.comp_def]
theorem bytes_strOf (l : List Int) (h : Bytes l) : bytesOf (strOfNums l) = l := by
  unfold strOfNums bytesOf
  simp only [List.map_map]
  induction l with
  | nil => rfl
  | cons c cs ih =>
    have hc := h c List.mem_cons_self
    simp only [List.map_cons, Function.comp_apply]
    rw [ih (fun x hx => h x (List.mem_cons_of_mem _ hx))]
    congr 1
    rw [UInt8.toNat_ofNat']
    have : c.toNat < 2 ^ 8 := by omega
    rw [Nat.mod_eq_of_lt this]
    omega

/-! ### A reader: what it reads, from which bytes -/
structure Rd {α : Type} (f : List Int → St → α × St) (enc : α → List Int) (ok : α → Prop) : Prop where
  ext : ∀ b x s, 0 ≤ s.at_ → (f b s).2.bad < 0 → f (b ++ x) s = f b s
  neg : ∀ b s, 0 ≤ s.at_ → (f b s).2.bad < 0 → s.bad < 0
  fwd : ∀ b s, 0 ≤ s.at_ → 0 ≤ (f b s).2.at_
  good : ∀ b s, 0 ≤ s.at_ → Bytes b → (f b s).2.bad < 0 → ok (f b s).1 ∧ (f b s).2.at_ = s.at_ + (enc (f b s).1).length ∧ b.drop s.at_.toNat = enc (f b s).1 ++ b.drop (f b s).2.at_.toNat
  enc_ : ∀ b s y v, ok v → 0 ≤ s.at_ → s.bad < 0 → b.drop s.at_.toNat = enc v ++ y → f b s = (v, ⟨s.at_ + (enc v).length, s.bad⟩)

theorem takeTextR_ext (b x : List Int) (p most : Int) (h : (takeTextR b p most).2.2 = true) : takeTextR (b ++ x) p most = takeTextR b p most := by
  unfold takeTextR at h ⊢
  by_cases h1 : (takeR b p).2.2 = true ∧ 0 ≤ most ∧ (takeR b p).1 ≤ most ∧ (takeR b p).1 ≤ b.length - (takeR b p).2.1
  · rw [if_pos h1]
    have hb := takeR_bounds b p h1.1
    rw [takeR_ext b x p h1.1, if_pos ⟨h1.1, h1.2.1, h1.2.2.1, by simp; omega⟩, List.drop_append_of_le_length (by omega), List.take_append_of_le_length (by simp; omega)]
  · rw [if_neg h1] at h; cases h

theorem rd_num (most : Int) (hm : most < 18446744073709551616) : Rd (fun b s => rdNum b most s) (fun n => numB n.toNat) (fun n => 0 ≤ n ∧ n ≤ most) where
  ext := by
    intro b x s h0 h
    unfold rdNum at h ⊢
    by_cases h1 : 0 ≤ s.bad
    · rw [if_pos h1] at h; exact absurd h (by simp only; omega)
    rw [if_neg h1] at h ⊢
    rw [if_neg h1]
    by_cases h2 : (takeR b s.at_).2.2 = true ∧ (takeR b s.at_).1 ≤ most
    · rw [takeR_ext b x s.at_ h2.1]
    · rw [if_neg h2] at h; exact absurd h (by simp only; omega)
  neg := by
    intro b s h0 h
    unfold rdNum at h
    by_cases h1 : 0 ≤ s.bad
    · rw [if_pos h1] at h; exact h
    · omega
  fwd := by
    intro b s h0
    unfold rdNum
    split
    · exact h0
    · split
      · rename_i h; have := takeR_bounds _ _ h.1; simp only; omega
      · exact h0
  good := by
    intro b s h0 hb h
    unfold rdNum at h ⊢
    by_cases h1 : 0 ≤ s.bad
    · rw [if_pos h1] at h; exact absurd h (by simp only; omega)
    rw [if_neg h1] at h ⊢
    by_cases h2 : (takeR b s.at_).2.2 = true ∧ (takeR b s.at_).1 ≤ most
    · rw [if_pos h2]
      have hd := takeR_dec b hb s.at_ h2.1
      have hr := takeR_bounds _ _ h2.1
      exact ⟨⟨hr.1, h2.2⟩, hd.1, hd.2⟩
    · rw [if_neg h2] at h; exact absurd h (by simp only; omega)
  enc_ := by
    intro b s y v hv h0 h1 h
    have hr := takeR_enc b s.at_ h0 v.toNat (by omega) y h
    have e : ((v.toNat : Nat) : Int) = v := Int.toNat_of_nonneg hv.1
    unfold rdNum
    rw [if_neg (by omega), hr]
    simp only [e]
    rw [if_pos ⟨trivial, hv.2⟩]

theorem rd_text (most : Int) (hm : most < 18446744073709551616) : Rd (fun b s => rdText b most s) tb (fun v => (v.size : Int) ≤ most) where
  ext := by
    intro b x s h0 h
    unfold rdText at h ⊢
    by_cases h1 : 0 ≤ s.bad
    · rw [if_pos h1] at h; exact absurd h (by simp only; omega)
    rw [if_neg h1] at h ⊢
    rw [if_neg h1]
    by_cases h2 : (takeTextR b s.at_ most).2.2 = true
    · rw [takeTextR_ext b x s.at_ most h2]
    · rw [if_neg h2] at h; exact absurd h (by simp only; omega)
  neg := by
    intro b s h0 h
    unfold rdText at h
    by_cases h1 : 0 ≤ s.bad
    · rw [if_pos h1] at h; exact h
    · omega
  fwd := by
    intro b s h0
    unfold rdText
    split
    · exact h0
    · split
      · rename_i h
        unfold takeTextR at h ⊢
        by_cases h1 : (takeR b s.at_).2.2 = true ∧ 0 ≤ most ∧ (takeR b s.at_).1 ≤ most ∧ (takeR b s.at_).1 ≤ b.length - (takeR b s.at_).2.1
        · rw [if_pos h1]; have := takeR_bounds _ _ h1.1; simp only; omega
        · rw [if_neg h1] at h; cases h
      · exact h0
  good := by
    intro b s h0 hb h
    unfold rdText at h ⊢
    by_cases h1 : 0 ≤ s.bad
    · rw [if_pos h1] at h; exact absurd h (by simp only; omega)
    rw [if_neg h1] at h ⊢
    by_cases h2 : (takeTextR b s.at_ most).2.2 = true
    · rw [if_pos h2]
      unfold takeTextR at h2 ⊢
      by_cases h3 : (takeR b s.at_).2.2 = true ∧ 0 ≤ most ∧ (takeR b s.at_).1 ≤ most ∧ (takeR b s.at_).1 ≤ b.length - (takeR b s.at_).2.1
      · rw [if_pos h3]
        have hd := takeR_dec b hb s.at_ h3.1
        have hr := takeR_bounds _ _ h3.1
        simp only
        have hsz : (strOfNums ((b.drop (takeR b s.at_).2.1.toNat).take (takeR b s.at_).1.toNat)).size = (takeR b s.at_).1.toNat := by
          rw [strOfNums_size, List.length_take, List.length_drop]; omega
        have htk : Bytes ((b.drop (takeR b s.at_).2.1.toNat).take (takeR b s.at_).1.toNat) := fun x hx => hb x (List.mem_of_mem_drop (List.mem_of_mem_take hx))
        unfold tb
        rw [hsz, bytes_strOf _ htk]
        refine ⟨by omega, ?_, ?_⟩
        · rw [List.length_append, List.length_take, List.length_drop]; omega
        · rw [hd.2, List.append_assoc]
          congr 1
          rw [show ((takeR b s.at_).2.1 + (takeR b s.at_).1).toNat = (takeR b s.at_).2.1.toNat + (takeR b s.at_).1.toNat by omega, ← List.drop_drop, List.take_append_drop]
      · rw [if_neg h3] at h2; cases h2
    · rw [if_neg h2] at h; exact absurd h (by simp only; omega)
  enc_ := by
    intro b s y v hv h0 h1 h
    unfold tb at h
    rw [List.append_assoc] at h
    have hr := takeR_enc b s.at_ h0 v.size (by omega) _ h
    have hlen := congrArg List.length h
    have hd : b.drop (s.at_ + ((numB v.size).length : Int)).toNat = bytesOf v ++ y := by
      rw [show (s.at_ + ((numB v.size).length : Int)).toNat = s.at_.toNat + (numB v.size).length by omega, ← List.drop_drop, h]
      simp
    have hbl := bytesOf_len v
    have hnp := numB_pos v.size
    rw [List.length_drop, List.length_append, List.length_append, hbl] at hlen
    have ht : takeTextR b s.at_ most = (v, s.at_ + (tb v).length, true) := by
      unfold takeTextR
      rw [hr]
      simp only
      rw [if_pos ⟨trivial, by omega, by omega, by omega⟩, hd]
      have : (v.size : Int).toNat = (bytesOf v).length := by omega
      rw [this, List.take_left' rfl, strOf_bytes]
      unfold tb
      simp only [List.length_append, Prod.mk.injEq, and_true, true_and]
      omega
    unfold rdText
    rw [if_neg (by omega), ht]
    simp only [if_pos]

theorem rd_flag : Rd rdFlag (fun v => [if v = true then 1 else 0]) (fun _ => True) where
  ext := by
    intro b x s h0 h
    unfold rdFlag at h ⊢
    by_cases h1 : 0 ≤ s.bad
    · rw [if_pos h1] at h; exact absurd h (by simp only; omega)
    rw [if_neg h1] at h ⊢
    rw [if_neg h1]
    by_cases h2 : s.at_ < b.length ∧ b.getD s.at_.toNat 0 ≤ 1
    · have e : (b ++ x).getD s.at_.toNat 0 = b.getD s.at_.toNat 0 := by
        simp only [List.getD_eq_getElem?_getD]
        rw [List.getElem?_append_left (by omega)]
      rw [e, if_pos h2, if_pos ⟨by simp; omega, h2.2⟩]
    · rw [if_neg h2] at h; exact absurd h (by simp only; omega)
  neg := by
    intro b s h0 h
    unfold rdFlag at h
    by_cases h1 : 0 ≤ s.bad
    · rw [if_pos h1] at h; exact h
    · omega
  fwd := by
    intro b s h0
    unfold rdFlag
    split
    · exact h0
    · split
      · simp only; omega
      · exact h0
  good := by
    intro b s h0 hb h
    unfold rdFlag at h ⊢
    by_cases h1 : 0 ≤ s.bad
    · rw [if_pos h1] at h; exact absurd h (by simp only; omega)
    rw [if_neg h1] at h ⊢
    by_cases h2 : s.at_ < b.length ∧ b.getD s.at_.toNat 0 ≤ 1
    · rw [if_pos h2]
      refine ⟨trivial, rfl, ?_⟩
      have hd := drop_at b s.at_.toNat (by omega)
      have hx : b.getD s.at_.toNat 0 ∈ b := by
        rw [List.getD_eq_getElem?_getD, List.getElem?_eq_getElem (by omega)]
        exact List.getElem_mem _
      have hx2 := hb _ hx
      rw [show (s.at_ + 1).toNat = s.at_.toNat + 1 by omega, hd]
      simp only [List.cons_append, List.nil_append]
      congr 1
      by_cases h3 : b.getD s.at_.toNat 0 = 1
      · rw [h3]; rfl
      · rw [show (b.getD s.at_.toNat 0 == 1) = false by simpa using h3]
        simp only [Bool.false_eq_true, if_false]
        omega
    · rw [if_neg h2] at h; exact absurd h (by simp only; omega)
  enc_ := by
    intro b s y v hv h0 h1 h
    have hlt : s.at_.toNat < b.length := by
      have := congrArg List.length h
      simp at this
      omega
    rw [drop_at b _ hlt, List.cons_append] at h
    injection h with h2 h3
    unfold rdFlag
    rw [if_neg (by omega), h2]
    cases v with
    | true => simp only [if_true]; rw [if_pos ⟨by omega, by decide⟩]; rfl
    | false => simp only [Bool.false_eq_true, if_false]; rw [if_pos ⟨by omega, by decide⟩]; rfl

/-! ### One behind the other -/
theorem Rd.bind {α β : Type} {f : List Int → St → α × St} {ef : α → List Int} {okf : α → Prop} {g : α → List Int → St → β × St} {eg : α → β → List Int} {okg : α → β → Prop}
    (hf : Rd f ef okf) (hg : ∀ a, Rd (g a) (eg a) (okg a)) :
    Rd (fun b s => (((f b s).1, (g (f b s).1 b (f b s).2).1), (g (f b s).1 b (f b s).2).2)) (fun v => ef v.1 ++ eg v.1 v.2) (fun v => okf v.1 ∧ okg v.1 v.2) where
  ext := by
    intro b x s h0 h
    simp only at h ⊢
    have hn := (hg _).neg b _ (hf.fwd b s h0) h
    rw [hf.ext b x s h0 hn, (hg _).ext b x _ (hf.fwd b s h0) h]
  neg := by
    intro b s h0 h
    exact hf.neg b s h0 ((hg _).neg b _ (hf.fwd b s h0) h)
  fwd := fun b s h0 => (hg _).fwd b _ (hf.fwd b s h0)
  good := by
    intro b s h0 hb h
    simp only at h ⊢
    have hn := (hg _).neg b _ (hf.fwd b s h0) h
    obtain ⟨a1, a2, a3⟩ := hf.good b s h0 hb hn
    obtain ⟨b1, b2, b3⟩ := (hg _).good b _ (hf.fwd b s h0) hb h
    refine ⟨⟨a1, b1⟩, by rw [b2, a2, List.length_append]; omega, ?_⟩
    rw [a3, b3, List.append_assoc]
  enc_ := by
    rintro b s y ⟨v, u⟩ ⟨h1, h2⟩ h0 hs h
    simp only at h h1 h2 ⊢
    rw [List.append_assoc] at h
    have e1 := hf.enc_ b s _ v h1 h0 hs h
    rw [e1]
    simp only
    have hd : b.drop (s.at_ + ((ef v).length : Int)).toNat = eg v u ++ y := by
      rw [show (s.at_ + ((ef v).length : Int)).toNat = s.at_.toNat + (ef v).length by omega, ← List.drop_drop, h]
      simp
    rw [(hg v).enc_ b ⟨s.at_ + (ef v).length, s.bad⟩ y u h2 (by simp only; omega) hs hd]
    simp only [List.length_append, Prod.mk.injEq, true_and, St.mk.injEq, and_true]
    omega
theorem Rd.map {α β : Type} {f : List Int → St → α × St} {ef : α → List Int} {okf : α → Prop} (hf : Rd f ef okf) (m : α → β) (n : β → α) (e : β → List Int) (ok : β → Prop)
    (h1 : ∀ a, okf a → ok (m a) ∧ e (m a) = ef a) (h2 : ∀ v, ok v → okf (n v) ∧ m (n v) = v) :
    Rd (fun b s => (m (f b s).1, (f b s).2)) e ok where
  ext := by
    intro b x s h0 h
    simp only at h ⊢
    rw [hf.ext b x s h0 h]
  neg := hf.neg
  fwd := hf.fwd
  good := by
    intro b s h0 hb h
    simp only at h ⊢
    obtain ⟨a1, a2, a3⟩ := hf.good b s h0 hb h
    rw [(h1 _ a1).2]
    exact ⟨(h1 _ a1).1, a2, a3⟩
  enc_ := by
    intro b s y v hv h0 hs h
    obtain ⟨q1, q2⟩ := h2 v hv
    have ee : e v = ef (n v) := by rw [← (h1 _ q1).2, q2]
    rw [ee] at h
    rw [hf.enc_ b s y (n v) q1 h0 hs h]
    simp only [q2, ee]
theorem rd_L {α : Type} {one : List Int → St → α × St} {e : α → List Int} {ok : α → Prop} (h : Rd one e ok) : ∀ k : Nat, Rd (fun b s => rdL (one b) k s) (fun l => (l.map e).flatten) (fun l => l.length = k ∧ ∀ x ∈ l, ok x) := by
  intro k
  induction k with
  | zero =>
    refine ⟨fun b x s _ _ => rfl, fun b s _ h => h, fun b s h => h, fun b s _ _ _ => ⟨⟨rfl, by simp [rdL]⟩, by simp [rdL], by simp [rdL]⟩, ?_⟩
    rintro b s y v ⟨hv, _⟩ h0 hs hd
    have : v = [] := List.length_eq_zero_iff.1 hv
    subst this
    simp [rdL]
  | succ k ih =>
    have hb := Rd.bind h (fun _ => ih)
    have key : ∀ b s, s.bad < 0 → rdL (one b) (k + 1) s = ((one b s).1 :: (rdL (one b) k (one b s).2).1, (rdL (one b) k (one b s).2).2) := by
      intro b s hs
      simp only [rdL]
      rw [if_neg (by omega)]
    have neg : ∀ b s, 0 ≤ s.at_ → (rdL (one b) (k + 1) s).2.bad < 0 → s.bad < 0 := by
      intro b s _ hh
      by_cases h1 : 0 ≤ s.bad
      · rw [rdL_bad _ _ _ h1] at hh; exact hh
      · omega
    refine ⟨?_, neg, ?_, ?_, ?_⟩
    · intro b x s h0 hh
      have hs := neg b s h0 hh
      rw [key _ _ hs] at hh ⊢
      rw [key _ _ hs]
      have := hb.ext b x s h0 hh
      simp only [Prod.mk.injEq] at this ⊢
      obtain ⟨⟨q1, q2⟩, q3⟩ := this
      rw [q1, q2, q3]
      exact ⟨rfl, rfl⟩
    · intro b s h0
      by_cases h1 : 0 ≤ s.bad
      · rw [rdL_bad _ _ _ h1]; exact h0
      · rw [key _ _ (by omega)]
        exact hb.fwd b s h0
    · intro b s h0 hB hh
      have hs := neg b s h0 hh
      rw [key _ _ hs] at hh ⊢
      obtain ⟨⟨a1, a2, a4⟩, a5, a6⟩ := hb.good b s h0 hB hh
      simp only at a1 a2 a4 a5 a6 ⊢
      refine ⟨⟨by simp [a2], ?_⟩, by simpa using a5, by simpa using a6⟩
      intro x hx
      rcases List.mem_cons.1 hx with rfl | hx
      · exact a1
      · exact a4 x hx
    · rintro b s y v ⟨hv, hok⟩ h0 hs hd
      cases v with
      | nil => simp at hv
      | cons x v =>
        have := hb.enc_ b s y (x, v) ⟨hok x List.mem_cons_self, by simpa using hv, fun z hz => hok z (List.mem_cons_of_mem _ hz)⟩ h0 hs (by simpa using hd)
        simp only [Prod.mk.injEq] at this
        rw [key _ _ hs, this.1.1, this.1.2, this.2]
        simp
end Go.Proofs.Ytmemkmnnededgaa.H
