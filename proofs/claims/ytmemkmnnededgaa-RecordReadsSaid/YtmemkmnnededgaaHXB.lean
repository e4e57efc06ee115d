/- Plain laws: what is read is what its bytes are, and what is right is read from its bytes. The four kinds. -/
import Derived.Test.YtmemkmnnededgaaHXA
import Derived.Test.YtmemkmnnededgaaHL
namespace Go.Proofs.Ytmemkmnnededgaa.H
open Go.RowKit Go.Proofs.YtmemkmnnededgaaW.PrintWords Go.Proofs.YtmemkmnnededgaaW.PrintLast Go.Proofs.YtmemkmnnededgaaW.PrintMore
set_option linter.unusedVariables false
set_option linter.unusedSimpArgs false

def readW (x : W27) : Prop := (x.key.size : Int) ≤ 16 ∧ (x.val.size : Int) ≤ 64 ∧ (x.gone = true → x.val = ⟨#[]⟩)
theorem rd_W : Rd rdW wB readW := by
  have hg : ∀ v : Bool, Rd (fun b s => if v = true then (W27.mk (rdText b 16 s).1 ⟨#[]⟩ true, (rdText b 16 s).2) else (W27.mk (rdText b 16 s).1 (rdText b 64 (rdText b 16 s).2).1 false, (rdText b 64 (rdText b 16 s).2).2))
      (fun x => if v = true then tb x.key else tb x.key ++ tb x.val) (fun x => x.gone = v ∧ readW x) := by
    intro v
    cases v with
    | true =>
      simp only [if_true]
      refine Rd.map (rd_text 16 (by decide)) (fun k => W27.mk k ⟨#[]⟩ true) (fun x => x.key) _ _ ?_ ?_
      · intro k hk
        exact ⟨⟨rfl, hk, (by decide : ((⟨#[]⟩ : ByteArray).size : Int) ≤ 64), fun _ => rfl⟩, rfl⟩
      · rintro ⟨k, v, g⟩ ⟨h1, h2, h3, h4⟩
        simp only at h1 h2 h3 h4
        subst h1
        rw [h4 rfl]
        exact ⟨h2, rfl⟩
    | false =>
      simp only [Bool.false_eq_true, if_false]
      refine Rd.map (Rd.bind (rd_text 16 (by decide)) (fun _ => rd_text 64 (by decide))) (fun q => W27.mk q.1 q.2 false) (fun x => (x.key, x.val)) _ _ ?_ ?_
      · rintro ⟨k, v⟩ ⟨h1, h2⟩
        exact ⟨⟨rfl, h1, h2, fun h => by cases h⟩, rfl⟩
      · rintro ⟨k, v, g⟩ ⟨h1, h2, h3, h4⟩
        simp only at h1 h2 h3 h4
        subst h1
        exact ⟨⟨h2, h3⟩, rfl⟩
  have h := Rd.map (Rd.bind rd_flag hg) (fun q => q.2) (fun x => (x.gone, x)) wB readW (by
    rintro ⟨v, x⟩ ⟨_, h1, h2⟩
    simp only at h1 h2
    subst h1
    refine ⟨h2, ?_⟩
    simp only [wB]
    cases x.gone <;> simp) (by
    intro x hx
    exact ⟨⟨trivial, rfl, hx⟩, rfl⟩)
  have e : rdW = fun b s => (((fun (b : List Int) (s : St) => (((rdFlag b s).1, ((fun (v : Bool) (b : List Int) (s : St) => if v = true then (W27.mk (rdText b 16 s).1 ⟨#[]⟩ true, (rdText b 16 s).2) else (W27.mk (rdText b 16 s).1 (rdText b 64 (rdText b 16 s).2).1 false, (rdText b 64 (rdText b 16 s).2).2)) (rdFlag b s).1 b (rdFlag b s).2).1), ((fun (v : Bool) (b : List Int) (s : St) => if v = true then (W27.mk (rdText b 16 s).1 ⟨#[]⟩ true, (rdText b 16 s).2) else (W27.mk (rdText b 16 s).1 (rdText b 64 (rdText b 16 s).2).1 false, (rdText b 64 (rdText b 16 s).2).2)) (rdFlag b s).1 b (rdFlag b s).2).2)) b s).1.2, ((fun (b : List Int) (s : St) => (((rdFlag b s).1, ((fun (v : Bool) (b : List Int) (s : St) => if v = true then (W27.mk (rdText b 16 s).1 ⟨#[]⟩ true, (rdText b 16 s).2) else (W27.mk (rdText b 16 s).1 (rdText b 64 (rdText b 16 s).2).1 false, (rdText b 64 (rdText b 16 s).2).2)) (rdFlag b s).1 b (rdFlag b s).2).1), ((fun (v : Bool) (b : List Int) (s : St) => if v = true then (W27.mk (rdText b 16 s).1 ⟨#[]⟩ true, (rdText b 16 s).2) else (W27.mk (rdText b 16 s).1 (rdText b 64 (rdText b 16 s).2).1 false, (rdText b 64 (rdText b 16 s).2).2)) (rdFlag b s).1 b (rdFlag b s).2).2)) b s).2) := by
    funext b s
    unfold rdW
    rfl
  rw [e]
  exact h

/-- How many, and each. -/
theorem rd_list {α : Type} {one : List Int → St → α × St} {e : α → List Int} {ok : α → Prop} (h : Rd one e ok) (most : Int) (hm : most < 18446744073709551616) :
    Rd (fun b s => rdL (one b) (rdNum b most s).1.toNat (rdNum b most s).2) (fun l => numB l.length ++ (l.map e).flatten) (fun l => (l.length : Int) ≤ most ∧ ∀ x ∈ l, ok x) :=
  Rd.map (Rd.bind (rd_num most hm) (fun n => rd_L h n.toNat)) (fun q => q.2) (fun l => ((l.length : Int), l)) _ _ (by
    rintro ⟨n, l⟩ ⟨⟨h1, h2⟩, h3, h4⟩
    simp only at h1 h2 h3 h4 ⊢
    rw [h3]
    exact ⟨⟨by omega, h4⟩, rfl⟩) (by
    rintro l ⟨h1, h2⟩
    exact ⟨⟨⟨by simp only; omega, h1⟩, by simp, h2⟩, rfl⟩)
theorem rd_Ws : Rd rdWs (fun l => numB l.length ++ wsB l) (fun l => (l.length : Int) ≤ 64 ∧ ∀ x ∈ l, readW x) := rd_list rd_W 64 (by decide)

def readT (t : Int) : Prop := 0 ≤ t ∧ t ≤ 1099511627775
theorem rd_C : Rd rdC (fun v => numB v.1.toNat ++ (numB v.2.length ++ wsB v.2)) (fun v => readT v.1 ∧ (v.2.length : Int) ≤ 64 ∧ ∀ x ∈ v.2, readW x) := Rd.bind (rd_num 1099511627775 (by decide)) (fun _ => rd_Ws)
def encP (x : P43) : List Int := numB x.num.toNat ++ (numB x.from_.toNat ++ numB x.to_.toNat)
def readP (x : P43) : Prop := (0 ≤ x.num ∧ x.num ≤ 2147483647) ∧ readT x.from_ ∧ readT x.to_
theorem rd_P : Rd rdP encP readP :=
  Rd.map (Rd.bind (rd_num 2147483647 (by decide)) (fun _ => Rd.bind (rd_num 1099511627775 (by decide)) (fun _ => rd_num 1099511627775 (by decide)))) (fun q => P43.mk q.1 q.2.1 q.2.2) (fun x => (x.num, x.from_, x.to_)) _ _
    (by rintro ⟨a, b, c⟩ ⟨h1, h2, h3⟩; exact ⟨⟨h1, h2, h3⟩, rfl⟩) (by rintro ⟨a, b, c⟩ ⟨h1, h2, h3⟩; exact ⟨⟨h1, h2, h3⟩, rfl⟩)
theorem rd_Ps : Rd rdPs (fun l => numB l.length ++ (l.map encP).flatten) (fun l => (l.length : Int) ≤ 16 ∧ ∀ x ∈ l, readP x) := rd_list rd_P 16 (by decide)
theorem rd_M : Rd rdM (fun v => numB v.1.toNat ++ (numB v.2.1.toNat ++ (numB v.2.2.length ++ (v.2.2.map encP).flatten))) (fun v => readT v.1 ∧ (0 ≤ v.2.1 ∧ v.2.1 ≤ 2147483647) ∧ (v.2.2.length : Int) ≤ 16 ∧ ∀ x ∈ v.2.2, readP x) :=
  Rd.bind (rd_num 1099511627775 (by decide)) (fun _ => Rd.bind (rd_num 2147483647 (by decide)) (fun _ => rd_Ps))
theorem rd_R : Rd rdR (fun v => tb v.1 ++ (tb v.2.1 ++ numB v.2.2.toNat)) (fun v => (v.1.size : Int) ≤ 16 ∧ (v.2.1.size : Int) ≤ 64 ∧ readT v.2.2) :=
  Rd.bind (rd_text 16 (by decide)) (fun _ => Rd.bind (rd_text 64 (by decide)) (fun _ => rd_num 1099511627775 (by decide)))
theorem rd_G : Rd rdG (fun v => tb v.1 ++ numB v.2.toNat) (fun v => (v.1.size : Int) ≤ 16 ∧ readT v.2) :=
  Rd.bind (rd_text 16 (by decide)) (fun _ => rd_num 1099511627775 (by decide))

/-- All of some bytes, the first being the kind. -/
theorem all_read {α : Type} {f : List Int → St → α × St} {e : α → List Int} {ok : α → Prop} (h : Rd f e ok) (b : List Int) (hb : Bytes b) (k : Int) (h0 : ¬ (b.length = 0 ∨ b.getD 0 0 ≠ k))
    (h1 : ¬ (0 ≤ (f b ⟨1, -1⟩).2.bad ∨ (f b ⟨1, -1⟩).2.at_ < b.length)) : ok (f b ⟨1, -1⟩).1 ∧ b = k :: e (f b ⟨1, -1⟩).1 := by
  obtain ⟨a1, a2, a3⟩ := h.good b ⟨1, -1⟩ (by decide) hb (by omega)
  refine ⟨a1, ?_⟩
  have hk : b.getD 0 0 = k := by
    by_cases hh : b.getD 0 0 = k
    · exact hh
    · exact absurd (Or.inr hh) h0
  have hl : 0 < b.length := by omega
  have hd := drop_at b 0 hl
  rw [List.drop_zero, hk] at hd
  have he : b.drop (f b ⟨1, -1⟩).2.at_.toNat = [] := List.drop_eq_nil_of_le (by omega)
  rw [he, List.append_nil] at a3
  rw [← a3]
  exact hd
theorem all_enc {α : Type} {f : List Int → St → α × St} {e : α → List Int} {ok : α → Prop} (h : Rd f e ok) (k : Int) (v : α) (hv : ok v) : f (k :: e v) ⟨1, -1⟩ = (v, ⟨((k :: e v).length : Nat), -1⟩) := by
  have := h.enc_ (k :: e v) ⟨1, -1⟩ [] v hv (by decide) (by decide) (by simp)
  rw [this]
  simp
  omega

theorem nb_time (t : Int) (h : readT t) : nb t = numB t.toNat := by
  have : IntKind.u64.wrap t = t := by
    have h1 := h.1; have h2 := h.2
    simp [IntKind.wrap, IntKind.bits, IntKind.signed]
    omega
  unfold nb
  rw [this]
theorem nb_len_ (n : Nat) (h : n ≤ 1099511627775) : nb (n : Int) = numB n := nb_time n ⟨by omega, by omega⟩
theorem isTime_iff (t : Int) : isTimeB t = true ↔ readT t := by
  unfold isTimeB readT
  rw [decide_eq_true_iff]
  omega
theorem readW_small {x : W27} (h : readW x) : smallW x := ⟨by have := h.1; omega, by have := h.2.1; omega⟩

/-! ### What is read is what is told -/
theorem one_C (b : List Int) (hb : Bytes b) (h : (takeCR b).2.2 = 0) : putC (takeCR b).1.1 (takeCR b).1.2 = (b, 0) := by
  unfold takeCR at h ⊢
  by_cases h1 : b.length = 0 ∨ b.getD 0 0 ≠ 67
  · rw [if_pos h1] at h; exact absurd h (by decide)
  rw [if_neg h1] at h ⊢
  by_cases h2 : 0 ≤ (rdC b ⟨1, -1⟩).2.bad ∨ (rdC b ⟨1, -1⟩).2.at_ < b.length
  · rw [if_pos h2] at h; exact absurd (show (61 : Int) = 0 from h) (by decide)
  rw [if_neg h2] at h ⊢
  by_cases h3 : rightC (rdC b ⟨1, -1⟩).1.1 (rdC b ⟨1, -1⟩).1.2 = true
  · rw [if_pos h3]
    obtain ⟨⟨a1, a2, a3⟩, e⟩ := all_read rd_C b hb 67 h1 h2
    unfold putC commitB
    simp only
    rw [if_pos h3, nb_time _ a1, nb_len_ _ (by omega), ← e]
  · rw [if_neg h3] at h; exact absurd h (by decide)
theorem pB_enc (x : P43) (h : readP x) : pB x = encP x := by
  unfold pB encP
  rw [nb_time _ ⟨h.1.1, by have := h.1.2; omega⟩, nb_time _ h.2.1, nb_time _ h.2.2]
theorem psB_enc (l : List P43) (h : ∀ x ∈ l, readP x) : psB l = (l.map encP).flatten := by
  unfold psB
  congr 1
  exact List.map_congr_left (fun x hx => pB_enc x (h x hx))
theorem one_M (b : List Int) (hb : Bytes b) (h : (takeMR b).2.2 = 0) : putM (takeMR b).1.1 (takeMR b).1.2.1 (takeMR b).1.2.2 = (b, 0) := by
  unfold takeMR at h ⊢
  by_cases h1 : b.length = 0 ∨ b.getD 0 0 ≠ 77
  · rw [if_pos h1] at h; exact absurd h (by decide)
  rw [if_neg h1] at h ⊢
  by_cases h2 : 0 ≤ (rdM b ⟨1, -1⟩).2.bad ∨ (rdM b ⟨1, -1⟩).2.at_ < b.length
  · rw [if_pos h2] at h; exact absurd (show (61 : Int) = 0 from h) (by decide)
  rw [if_neg h2] at h ⊢
  by_cases h3 : rightM (rdM b ⟨1, -1⟩).1.1 (rdM b ⟨1, -1⟩).1.2.1 (rdM b ⟨1, -1⟩).1.2.2 = true
  · rw [if_pos h3]
    obtain ⟨⟨a1, a2, a3, a4⟩, e⟩ := all_read rd_M b hb 77 h1 h2
    unfold putM manifestB
    simp only
    rw [if_pos h3, nb_time _ a1, nb_time _ ⟨a2.1, by omega⟩, nb_len_ _ (by omega), psB_enc _ a4, ← e]
  · rw [if_neg h3] at h; exact absurd h (by decide)
theorem one_R (b : List Int) (hb : Bytes b) (h : (takeRR b).2.2 = 0) : putR (takeRR b).1.1 (takeRR b).1.2.1 (takeRR b).1.2.2 = (b, 0) := by
  unfold takeRR at h ⊢
  by_cases h1 : b.length = 0 ∨ b.getD 0 0 ≠ 82
  · rw [if_pos h1] at h; exact absurd h (by decide)
  rw [if_neg h1] at h ⊢
  by_cases h2 : 0 ≤ (rdR b ⟨1, -1⟩).2.bad ∨ (rdR b ⟨1, -1⟩).2.at_ < b.length
  · rw [if_pos h2] at h; exact absurd (show (61 : Int) = 0 from h) (by decide)
  rw [if_neg h2] at h ⊢
  by_cases h3 : isKeyB (rdR b ⟨1, -1⟩).1.1 = true
  · rw [if_pos h3]
    obtain ⟨⟨a1, a2, a3⟩, e⟩ := all_read rd_R b hb 82 h1 h2
    have hv : isValB (rdR b ⟨1, -1⟩).1.2.1 = true := by unfold isValB; rw [decide_eq_true_iff]; omega
    unfold putR rowB rightR
    simp only
    rw [h3, hv, (isTime_iff _).2 a3, if_pos (by decide), nb_time _ a3, ← e]
  · rw [if_neg h3] at h; exact absurd h (by decide)
theorem one_G (b : List Int) (hb : Bytes b) (h : (takeGR b).2.2 = 0) : putG (takeGR b).1.1 (takeGR b).1.2 = (b, 0) := by
  unfold takeGR at h ⊢
  by_cases h1 : b.length = 0 ∨ b.getD 0 0 ≠ 71
  · rw [if_pos h1] at h; exact absurd h (by decide)
  rw [if_neg h1] at h ⊢
  by_cases h2 : 0 ≤ (rdG b ⟨1, -1⟩).2.bad ∨ (rdG b ⟨1, -1⟩).2.at_ < b.length
  · rw [if_pos h2] at h; exact absurd (show (61 : Int) = 0 from h) (by decide)
  rw [if_neg h2] at h ⊢
  by_cases h3 : isKeyB (rdG b ⟨1, -1⟩).1.1 = true
  · rw [if_pos h3]
    obtain ⟨⟨a1, a3⟩, e⟩ := all_read rd_G b hb 71 h1 h2
    unfold putG goneB rightG
    simp only
    rw [h3, (isTime_iff _).2 a3, if_pos (by decide), nb_time _ a3, ← e]
  · rw [if_neg h3] at h; exact absurd h (by decide)
/-- The first byte tells the kind. -/
theorem kind_C (b : List Int) (h : (takeCR b).2.2 = 0) : b.getD 0 0 = 67 := by
  unfold takeCR at h
  by_cases h1 : b.length = 0 ∨ b.getD 0 0 ≠ 67
  · rw [if_pos h1] at h; exact absurd h (by decide)
  · by_cases h2 : b.getD 0 0 = 67
    · exact h2
    · exact absurd (Or.inr h2) h1
theorem kind_M (b : List Int) (h : (takeMR b).2.2 = 0) : b.getD 0 0 = 77 := by
  unfold takeMR at h
  by_cases h1 : b.length = 0 ∨ b.getD 0 0 ≠ 77
  · rw [if_pos h1] at h; exact absurd h (by decide)
  · by_cases h2 : b.getD 0 0 = 77
    · exact h2
    · exact absurd (Or.inr h2) h1
theorem kind_R (b : List Int) (h : (takeRR b).2.2 = 0) : b.getD 0 0 = 82 := by
  unfold takeRR at h
  by_cases h1 : b.length = 0 ∨ b.getD 0 0 ≠ 82
  · rw [if_pos h1] at h; exact absurd h (by decide)
  · by_cases h2 : b.getD 0 0 = 82
    · exact h2
    · exact absurd (Or.inr h2) h1
theorem kind_G (b : List Int) (h : (takeGR b).2.2 = 0) : b.getD 0 0 = 71 := by
  unfold takeGR at h
  by_cases h1 : b.length = 0 ∨ b.getD 0 0 ≠ 71
  · rw [if_pos h1] at h; exact absurd h (by decide)
  · by_cases h2 : b.getD 0 0 = 71
    · exact h2
    · exact absurd (Or.inr h2) h1
end Go.Proofs.Ytmemkmnnededgaa.H
