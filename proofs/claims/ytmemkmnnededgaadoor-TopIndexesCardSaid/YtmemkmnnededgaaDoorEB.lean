/- E4, E5, E6 of the claim's own texts, in one. -/
import Derived.Test.YtmemkmnnededgaaDoorEA
import Derived.Test.YtmemkmnnededgaaDoorD2a
import Derived.Test.YtmemkmnnededgaaDoorD2b
import Derived.Test.YtmemkmnnededgaaDoorD2c
import Derived.Test.YtmemkmnnededgaaDoorD4a
import Derived.Test.YtmemkmnnededgaaDoorD4b
import Derived.Test.YtmemkmnnededgaaDoorD4c
import Derived.Test.YtmemkmnnededgaaDoorD5a
import Derived.Test.YtmemkmnnededgaaDoorD5c
import Derived.Test.YtmemkmnnededgaaDoorD6b
namespace Go.Proofs.YtmemkmnnededgaaDoor.H
open Go.RowKit Go.Proofs.YtmemkmnnededgaaDoorW.PrintWords Go.Proofs.YtmemkmnnededgaaDoorW.PrintLast Go.Proofs.YtmemkmnnededgaaDoorW.PrintMore
set_option linter.unusedVariables false
set_option linter.unusedSimpArgs false

inductive TOp where
  | h (o : Nat) (op : HOp)
  | s (o : Nat) (op : SOp)
def TOp.blk : TOp → Nat
  | .h o _ => o
  | .s o _ => o
def TOp.bud : TOp → Nat
  | .h _ op => if op.own = 0 then 2 else 1
  | .s _ op => if op.own = 0 then 2 * op.height else op.height
def TOp.same : TOp → TOp → Prop
  | .h o op, .h o' op' => o = o' ∧ op.key = op'.key
  | .s o op, .s o' op' => o = o' ∧ op.key = op'.key
  | _, _ => False
def OpAt (B : Nat) (w : World) (h l : Nat) : TOp → Prop
  | .h o op => HoAt B w o h op
  | .s o op => SoAt B w o l op
def OI (keys : List ByteArray) (g : G) (x : TOp) (p : Nat) : Prop :=
  match x with
  | .h o op => HOI keys g o op p
  | .s o op => SOI keys g o op p
def inH (g : G) (key : ByteArray) : Prop := ∃ m, m ∈ g.ch (g.bk key) ∧ g.ekey m = key
def inS (g : G) (key : ByteArray) : Prop := ∃ m, m ∈ g.lst 0 ∧ g.nkey m = key
def Fin (g : G) : TOp → Prop
  | .h _ op => isKeyB op.key = true → inH g op.key
  | .s _ op => isKeyB op.key = true → inS g op.key
structure WR (B : Nat) (w : World) (ga h l : Nat) (g : G) : Prop where
  ar : ArAt B w ga g.a
  ht : HtAt B w h ga g.heads g.ents
  li : LiAt B w l ga g.bs g.ns
  tab : TabAt 0 Lib.deBruijn64tab w
def TT : List TypeId := [51, 48, 55, 77, 61, 62, 67]
def Post (keys : List ByteArray) (B : Nat) (w : World) (ga h l : Nat) (g : G) (k : Nat) (x : TOp) (p : Nat) (r : Bool) (w' : World) : Prop :=
  ∃ (g' : G) (k' δ p' : Nat) (x' : TOp), WR B w' ga h l g' ∧ GI keys g' k' ∧ Le x.blk g g' ∧ (Still g g' ∨ δ = 60) ∧ FrO TT x.blk B w w' ∧ x'.same x ∧
    (r = true → δ < p ∧ k' ≤ k + x.bud ∧ Fin g' x) ∧ (r = false → OpAt B w' h l x' ∧ OI keys g' x' p' ∧ p' + δ < p ∧ k' + x'.bud ≤ k + x.bud)
theorem Le.rfl' (o : Nat) (g : G) : Le o g g := ⟨rfl, Nat.le_refl _, fun _ _ _ => rfl, fun _ _ _ => rfl, fun _ _ _ _ h => h, fun _ _ h => h, fun _ _ h => Or.inl h, fun _ _ _ _ => rfl, fun _ _ _ _ _ => rfl, Nat.le_refl _, fun _ _ => rfl, fun _ _ => rfl, fun _ _ _ h => h, fun _ _ _ h => h, fun _ _ _ h => Or.inl h, fun _ _ _ _ _ _ _ _ => rfl⟩
theorem Still.rfl' (g : G) : Still g g := ⟨fun _ _ => rfl, fun _ _ _ _ => rfl⟩
section
variable {keys : List ByteArray} {B : Nat} {w w' : World} {ga h l o : Nat} {g g' : G} {k k' p : Nat} {op op' : HOp}
/-- Memory behind a hash step. -/
theorem WR.hs (wr : WR B w ga h l g) (hB : 0 < B) (ho : HoAt B w o h op) (hb : g'.bs = g.bs) (hn : g'.ns = g.ns) (hs : HS B w' ga h o g'.a g'.heads g'.ents op') (hf : FrO TH o B w w') : WR B w' ga h l g' ∧ FrO TT o B w w' := by
  have hT := hf.toT ho.blk
  have hsub : ∀ t, t ∈ TH → t ∈ TT := by simp [TH, TT]
  refine ⟨⟨hs.ar, hs.ht, ?_, fun j hj => (hf.below.cell (p := ⟨0, j, none⟩) hB).trans (wr.tab j hj)⟩, ⟨hf.below, fun b cs t fr hb ht ho => hf.kept b cs t fr hb (fun h => ht (hsub _ h)) ho⟩⟩
  rw [hb, hn]
  exact wr.li.kept hT (by simp [TH]) (by simp [TH]) (by simp [TH])
theorem hpost_go (wr : WR B w ga h l g) (hB : 0 < B) (ho : HoAt B w o h op) (hb : g'.bs = g.bs) (hn : g'.ns = g.ns) (hs : HS B w' ga h o g'.a g'.heads g'.ents op') (hf : FrO TH o B w w') (gi : GI keys g' k') (le : Le o g g') (st : Still g g') (hk : op'.key = op.key) (p' : Nat) (oi : HOI keys g' o op' p') (hp : p' < p) (hbud : k' + (TOp.h o op').bud ≤ k + (TOp.h o op).bud) :
    Post keys B w ga h l g k (.h o op) p false w' :=
  ⟨g', k', 0, p', .h o op', (wr.hs hB ho hb hn hs hf).1, gi, le, Or.inl st, (wr.hs hB ho hb hn hs hf).2, ⟨rfl, hk⟩, (fun h => by cases h), fun _ => ⟨hs.ho, oi, by omega, hbud⟩⟩
theorem hpost_done (wr : WR B w ga h l g) (hB : 0 < B) (ho : HoAt B w o h op) (hb : g'.bs = g.bs) (hn : g'.ns = g.ns) (hs : HS B w' ga h o g'.a g'.heads g'.ents op') (hf : FrO TH o B w w') (gi : GI keys g' k') (le : Le o g g') (δ : Nat) (st : Still g g' ∨ δ = 60) (hp : δ < p) (hbud : k' ≤ k + (TOp.h o op).bud) (fin : isKeyB op.key = true → inH g' op.key) :
    Post keys B w ga h l g k (.h o op) p true w' :=
  ⟨g', k', δ, 0, .h o op, (wr.hs hB ho hb hn hs hf).1, gi, le, st, (wr.hs hB ho hb hn hs hf).2, ⟨rfl, rfl⟩, fun _ => ⟨hp, hbud, fin⟩, (fun h => by cases h)⟩
end
theorem HC_mid {g : G} {c : Nat} {L2 : List Nat} : ∀ (L1 : List Nat) (n : Nat), HC g (L1 ++ c :: L2) n → ∃ n' : Nat, g.rd (.en c) = (n' : Int) ∧ HC g L2 n'
  | [], n, ⟨_, n', h1, h2⟩ => ⟨n', h1, h2⟩
  | m :: L1, n, ⟨_, n', _, h⟩ => HC_mid L1 n' h
theorem ch_len {keys : List ByteArray} {g : G} {k b : Nat} (gi : GI keys g k) (hkl : keys.length ≤ 40) (hb : b < g.nb) : (g.ch b).length ≤ 40 := by
  have := nodup_len _ keys (gi.hn b hb) (fun x hx => by
    obtain ⟨m, hm, rfl⟩ := List.mem_map.1 hx
    exact (gi.he m (gi.hm b hb m hm).1 (gi.hm b hb m hm).2.1).1)
  rw [List.length_map] at this
  omega
theorem bud_own {o : Nat} {op : HOp} (h : 1 ≤ op.own) : (TOp.h o op).bud = 1 := by
  show (if op.own = 0 then 2 else 1) = 1
  rw [if_neg (by omega)]
theorem bud_none {o : Nat} {op : HOp} (h : op.own = 0) : (TOp.h o op).bud = 2 := by
  show (if op.own = 0 then 2 else 1) = 2
  rw [if_pos h]
theorem HOwn.turn {g : G} {o : Nat} {op op' : HOp} (h : HOwn g o op) (e1 : op'.own = op.own) (e2 : op'.key = op.key) : HOwn g o op' :=
  ⟨by rw [e1]; exact h.h1, by rw [e1]; exact h.h2, by rw [e1]; exact h.lv, by rw [e1, e2]; exact h.key, by rw [e1]; exact h.own, by rw [e1]; exact h.out⟩
theorem Qm.ekey {keys : List ByteArray} {o : Nat} {g g' : G} (q : Qm keys o g g') (n : Nat) (h1 : 1 ≤ n) (h2 : n ≤ g.E) : g'.ekey n = g.ekey n := by unfold G.ekey; rw [q.ent n h1 h2]

set_option maxHeartbeats 1000000 in
theorem hstep {keys : List ByteArray} {B : Nat} {w : World} {ga h l o : Nat} {g : G} {k p : Nat} {op : HOp} (hkl : keys.length ≤ 40) (hB : 0 < B) (wr : WR B w ga h l g) (ho : HoAt B w o h op) (gi : GI keys g k) (hk : k ≤ 1000 + g.nb) (oi : HOI keys g o op p) :
    Calls Tryd.prog 17 #[.pointer (some ⟨o, 0, none⟩)] w fun e w' => ∃ r : Bool, e = .returned (.bool r) ∧ Post keys B w ga h l g k (.h o op) p r w' := by
  have hs : HS B w ga h o g.a g.heads g.ents op := ⟨wr.ar, wr.ht, ho⟩
  have hE : g.ents.length < 1000 := by have h1 := gi.kE; have : g.E = g.ents.length := rfl; omega
  have hk2 : k < 1980 := by have := gi.nb2; omega
  have bl := bk_lt gi op.key
  have hh1 : 1 ≤ g.heads.length := gi.nb1
  have hh2 : g.heads.length ≤ 256 := gi.nb2
  have hc : g.heads.getD (bucketF op.key g.heads.length) 0 = g.cell (.hd (g.bk op.key)) := rfl
  have htk := gi.ci.tk (.hd (g.bk op.key)) bl
  have priv : HOwn g o op → Priv o g (.en op.own) := fun hw => ⟨hw.own, hw.out⟩
  have lown : HOwn g o op → g.live (.en op.own) := fun hw => ⟨hw.h1, hw.h2, hw.lv⟩
  -- what comes of the next entry n of a chain whose rest is R
  by_cases h0 : op.next = 0
  · have hp : 115 ≤ p := by
      rcases oi.ph with h | ⟨_, L, _, _, hp⟩
      · exact h.2
      · cases hp <;> omega
    cases hkk : isKeyB op.key with
    | false =>
      refine (step_refused B w ga h o g.a g.heads g.ents op hs hkk h0).mono ?_
      rintro e w' ⟨rfl, h1, h2⟩
      exact ⟨true, rfl, hpost_done wr hB ho rfl rfl h1 h2 gi (Le.rfl' _ _) 0 (Or.inl (Still.rfl' _)) (by omega) (by omega) (fun h => by rw [hkk] at h; cases h)⟩
    | true =>
      obtain ⟨n, hr, hC⟩ := gi.hc _ bl
      have hlen := ch_len gi hkl bl
      generalize hL : g.ch (g.bk op.key) = L at *
      cases L with
      | nil =>
        have n0 : n = 0 := hC
        rcases oi.own with hown | hown
        · refine (step_begin_new B k w ga h o g.a g.heads g.ents op hs hkk hh1 hh2 hE gi.wf hk2 _ hc n h0 htk hr n0 hown wr.tab hB).mono ?_
          rintro e w' ⟨c, a', rfl, h1, h2, h3, h4, h5, h6, h7⟩
          have hke := hkk
          obtain ⟨q, gi'⟩ := addE_ok (o := o) (e := ⟨op.key, op.ref, c⟩) gi h2 h3 h4 h5 oi.key hkk
          refine ⟨false, rfl, hpost_go (g' := g.addE o a' ⟨op.key, op.ref, c⟩) wr hB ho rfl rfl h1 h7 gi' (q.le gi) (q.still gi) rfl (p - 1) ⟨oi.key, Or.inr ⟨by show 1 ≤ g.ents.length + 1; omega, by rw [addE_E]; exact Nat.le_refl _, upN_eq _ _ _, ?_, upN_eq _ _ _, fun b hb hm => ?_⟩, Or.inr ⟨hkk, [], n0, by simp, .lay rfl (by show 1 ≤ g.ents.length + 1; omega) (by simp) ⟨by omega, Or.inl ?_⟩⟩⟩ (by omega) ?_⟩
          · show (entAt (g.ents ++ [_]) (g.ents.length + 1)).key = op.key
            rw [entAt_new]
          · have := (gi.hm b hb _ hm).2.1
            have e : g.E = g.ents.length := rfl
            have : g.ents.length + 1 ≤ g.ents.length := this
            omega
          · rw [(q.le gi).bk, (q.still gi).hd _ bl]; exact hr
          · rw [bud_none hown, bud_own (by show 1 ≤ g.ents.length + 1; omega)]
            omega
        · refine (step_begin_old B k w ga h o g.a g.heads g.ents op hs hkk hh1 hh2 hE gi.wf hk2 _ hc n h0 htk hr n0 hown.h1).mono ?_
          rintro e w' ⟨rfl, h1, h2⟩
          exact ⟨false, rfl, hpost_go wr hB ho rfl rfl h1 h2 gi (Le.rfl' _ _) (Still.rfl' _) rfl (p - 1) ⟨oi.key, Or.inr (hown.turn rfl rfl), Or.inr ⟨hkk, [], n0, by simp, .lay rfl hown.h1 (by simp) ⟨by omega, Or.inl hr⟩⟩⟩ (by omega) (Nat.le_refl _)⟩
      | cons m R =>
        have hnm : n = m := hC.1
        subst hnm
        have hmm := gi.hm _ bl n (by rw [hL]; simp)
        by_cases hkey : g.ekey n = op.key
        · have fin : inH g op.key := ⟨n, by rw [hL]; simp, hkey⟩
          rcases oi.own with hown | hown
          · refine (step_begin_yes B k w ga h o g.a g.heads g.ents op hs hkk hh1 hh2 hE gi.wf hk2 _ hc n h0 htk hr hmm.1 hmm.2.1 hkey hown).mono ?_
            rintro e w' ⟨rfl, h1, h2⟩
            exact ⟨true, rfl, hpost_done wr hB ho rfl rfl h1 h2 gi (Le.rfl' _ _) 0 (Or.inl (Still.rfl' _)) (by omega) (by omega) (fun _ => fin)⟩
          · refine (step_begin_own B k w ga h o g.a g.heads g.ents op hs hkk hh1 hh2 hE gi.wf hk2 _ hc n h0 htk hr hmm.1 hmm.2.1 hkey hown.h1 hown.h2 (gi.ci.tk _ (lown hown))).mono ?_
            rintro e w' ⟨a', rfl, h1, h2, h3, h4, h5⟩
            obtain ⟨q, gi'⟩ := delE_ok (o := o) gi h2 (lown hown) (priv hown) h3 h4
            exact ⟨true, rfl, hpost_done (g' := g.delE a' op.own) wr hB ho rfl rfl h1 h5 gi' (q.le gi) 0 (Or.inl (q.still gi)) (by omega) (by rw [bud_own hown.h1]; exact Nat.le_refl _) (fun _ => ⟨n, by rw [(q.le gi).bk]; exact fin.choose_spec.1 |> fun _ => (by show n ∈ g.ch _; rw [hL]; simp), by rw [q.ekey n hmm.1 hmm.2.1]; exact hkey⟩)⟩
        · refine (step_begin_more B k w ga h o g.a g.heads g.ents op hs hkk hh1 hh2 hE gi.wf hk2 _ hc n h0 htk hr hmm.1 hmm.2.1 hkey).mono ?_
          rintro e w' ⟨rfl, h1, h2⟩
          simp only [List.length_cons] at hlen
          exact ⟨false, rfl, hpost_go wr hB ho rfl rfl h1 h2 gi (Le.rfl' _ _) (Still.rfl' _) rfl (p - 1) ⟨oi.key, oi.own.imp id (fun hw => hw.turn rfl rfl), Or.inr ⟨hkk, n :: R, hC, fun x hx => by show x ∈ g.ch (g.bk op.key); rw [hL]; exact hx, .walk rfl [] R rfl (by simp) hkey ⟨by omega, Or.inl hr⟩⟩⟩ (by omega) (Nat.le_refl _)⟩
  · obtain ⟨hkk, L, hC, hLc, hph⟩ : isKeyB op.key = true ∧ ∃ L, HC g L op.head ∧ (∀ m, m ∈ L → m ∈ g.ch (g.bk op.key)) ∧ HPh g op p L := by
      rcases oi.ph with h | h
      · exact absurd h.1 h0
      · exact h
    cases hph with
    | walk hn L1 L2 eL n1 n2 st =>
      have hcur := gi.hm _ bl op.cur (hLc _ (by rw [eL]; simp))
      have hclive := gi.l_en bl (hLc op.cur (by rw [eL]; simp))
      obtain ⟨n, hr, hR⟩ := HC_mid L1 op.head (by rw [← eL]; exact hC)
      have hnall : ∀ m, m ∈ L1 ++ [op.cur] → g.ekey m ≠ op.key := by
        intro m hm
        rcases List.mem_append.1 hm with h | h
        · exact n1 m h
        · simp at h; rw [h]; exact n2
      cases L2 with
      | nil =>
        have n0 : n = 0 := hR
        rcases oi.own with hown | hown
        · refine (step_walk_new B k w ga h o g.a g.heads g.ents op hs hkk hh1 hh2 hE gi.wf hk2 _ hc n _ hn hcur.1 hcur.2.1 rfl (gi.ci.tk _ hclive) hr n0 hown wr.tab hB).mono ?_
          rintro e w' ⟨c, a', rfl, h1, h2, h3, h4, h5, h6, h7⟩
          obtain ⟨q, gi'⟩ := addE_ok (o := o) (e := ⟨op.key, op.ref, c⟩) gi h2 h3 h4 h5 oi.key hkk
          have le := q.le gi
          refine ⟨false, rfl, hpost_go (g' := g.addE o a' ⟨op.key, op.ref, c⟩) wr hB ho rfl rfl h1 h7 gi' le (q.still gi) rfl (p - 1) ⟨oi.key, Or.inr ⟨by show 1 ≤ g.ents.length + 1; omega, by rw [addE_E]; exact Nat.le_refl _, upN_eq _ _ _, ?_, upN_eq _ _ _, fun b hb hm => ?_⟩, Or.inr ⟨hkk, L, HC_keep L _ (fun m hm => le.rde _ bl m (hLc m hm)) hC, fun m hm => by rw [le.bk]; exact hLc m hm, .lay rfl (by show 1 ≤ g.ents.length + 1; omega) (fun m hm => ?_) ⟨by have := st.1; simp only [List.length_nil] at this; omega, ?_⟩⟩⟩ (by have := st.1; simp only [List.length_nil] at this; omega) ?_⟩
          · show (entAt (g.ents ++ [_]) (g.ents.length + 1)).key = op.key
            rw [entAt_new]
          · have := (gi.hm b hb _ hm).2.1
            have : g.ents.length + 1 ≤ g.ents.length := this
            omega
          · have hmm := gi.hm _ bl m (hLc m hm)
            rw [q.ekey m hmm.1 hmm.2.1]
            exact hnall m (by rw [← eL]; exact hm)
          · rw [le.bk, (q.still gi).hd _ bl]
            rcases st.2 with h | h
            · exact Or.inl h
            · simp only [List.length_nil] at h; right; omega
          · rw [bud_none hown, bud_own (by show 1 ≤ g.ents.length + 1; omega)]
            omega
        · refine (step_walk_old B k w ga h o g.a g.heads g.ents op hs hkk hh1 hh2 hE gi.wf hk2 _ hc n _ hn hcur.1 hcur.2.1 rfl (gi.ci.tk _ hclive) hr n0 hown.h1).mono ?_
          rintro e w' ⟨rfl, h1, h2⟩
          have h8 := st.1
          simp only [List.length_nil] at h8
          refine ⟨false, rfl, hpost_go wr hB ho rfl rfl h1 h2 gi (Le.rfl' _ _) (Still.rfl' _) rfl (p - 1) ⟨oi.key, Or.inr (hown.turn rfl rfl), Or.inr ⟨hkk, L, hC, hLc, .lay rfl hown.h1 (fun m hm => hnall m (by rw [← eL]; exact hm)) ⟨by omega, ?_⟩⟩⟩ (by omega) (Nat.le_refl _)⟩
          rcases st.2 with h | h
          · exact Or.inl h
          · simp only [List.length_nil] at h; right; omega
      | cons m R =>
        have hnm : n = m := hR.1
        subst hnm
        have hnL : n ∈ L := by rw [eL]; simp
        have hmm := gi.hm _ bl n (hLc n hnL)
        have h8 := st.1
        simp only [List.length_cons] at h8
        by_cases hkey : g.ekey n = op.key
        · rcases oi.own with hown | hown
          · refine (step_walk_yes B k w ga h o g.a g.heads g.ents op hs hkk hh1 hh2 hE gi.wf hk2 _ hc n _ hn hcur.1 hcur.2.1 rfl (gi.ci.tk _ hclive) hr hmm.1 hmm.2.1 hkey hown).mono ?_
            rintro e w' ⟨rfl, h1, h2⟩
            exact ⟨true, rfl, hpost_done wr hB ho rfl rfl h1 h2 gi (Le.rfl' _ _) 0 (Or.inl (Still.rfl' _)) (by omega) (by omega) (fun _ => ⟨n, hLc n hnL, hkey⟩)⟩
          · refine (step_walk_own B k w ga h o g.a g.heads g.ents op hs hkk hh1 hh2 hE gi.wf hk2 _ hc n _ hn hcur.1 hcur.2.1 rfl (gi.ci.tk _ hclive) hr hmm.1 hmm.2.1 hkey hown.h1 hown.h2 (gi.ci.tk _ (lown hown))).mono ?_
            rintro e w' ⟨a', rfl, h1, h2, h3, h4, h5⟩
            obtain ⟨q, gi'⟩ := delE_ok (o := o) gi h2 (lown hown) (priv hown) h3 h4
            exact ⟨true, rfl, hpost_done (g' := g.delE a' op.own) wr hB ho rfl rfl h1 h5 gi' (q.le gi) 0 (Or.inl (q.still gi)) (by omega) (by rw [bud_own hown.h1]; exact Nat.le_refl _) (fun _ => ⟨n, by rw [(q.le gi).bk]; exact hLc n hnL, by rw [q.ekey n hmm.1 hmm.2.1]; exact hkey⟩)⟩
        · refine (step_walk_more B k w ga h o g.a g.heads g.ents op hs hkk hh1 hh2 hE gi.wf hk2 _ hc n _ hn hcur.1 hcur.2.1 rfl (gi.ci.tk _ hclive) hr hmm.1 hmm.2.1 hkey).mono ?_
          rintro e w' ⟨rfl, h1, h2⟩
          refine ⟨false, rfl, hpost_go wr hB ho rfl rfl h1 h2 gi (Le.rfl' _ _) (Still.rfl' _) rfl (p - 1) ⟨oi.key, oi.own.imp id (fun hw => hw.turn rfl rfl), Or.inr ⟨hkk, L, hC, hLc, .walk rfl (L1 ++ [op.cur]) R (by rw [eL]; simp) hnall hkey ⟨by omega, ?_⟩⟩⟩ (by omega) (Nat.le_refl _)⟩
          rcases st.2 with h | h
          · exact Or.inl h
          · simp only [List.length_cons] at h; right; omega
    | lay hn hown1 n1 st =>
      have hown := oi.own.resolve_left (by omega)
      refine (step_lay B k w ga h o g.a g.heads g.ents op hs hkk hh1 hh2 hE gi.wf hk2 _ hc hn hown.h1 hown.h2 (gi.ci.tk _ (lown hown))).mono ?_
      rintro e w' ⟨rfl, h1, h2⟩
      obtain ⟨q, gi'⟩ := put_ok (o := o) (v := (op.head : Int)) gi (lown hown) (priv hown)
      have le := q.le gi
      have hst := st.1
      refine ⟨false, rfl, hpost_go (g' := g.put (.en op.own) op.head) wr hB ho rfl rfl h1 h2 gi' le (q.still gi) rfl (p - 1) ⟨oi.key, Or.inr ⟨hown.h1, hown.h2, hown.lv, hown.key, hown.own, hown.out⟩, Or.inr ⟨hkk, L, HC_keep L _ (fun m hm => le.rde _ bl m (hLc m hm)) hC, hLc, .swap rfl hown.h1 n1 ?_ ⟨by omega, ?_⟩⟩⟩ (by omega) (Nat.le_refl _)⟩
      · exact (put_rd gi.ci gi.wf (lown hown) _ (lown hown)).1 rfl
      · rw [le.bk, (q.still gi).hd _ bl]
        rcases st.2 with h | h
        · exact Or.inl h
        · right; omega
    | swap hn hown1 n1 r st =>
      have hown := oi.own.resolve_left (by omega)
      have hst := st.1
      by_cases hv : g.rd (.hd (g.bk op.key)) = (op.head : Int)
      · refine (step_swap B k w ga h o g.a g.heads g.ents op hs hkk hh1 hh2 hE gi.wf hk2 _ hc hn htk (beq_iff_eq.mpr hv)).mono ?_
        rintro e w' ⟨rfl, h1, h2⟩
        obtain ⟨n, hr, hCn⟩ := gi.hc _ bl
        have hne : n = op.head := by rw [hr] at hv; omega
        subst hne
        have hLL : L = g.ch (g.bk op.key) := HC_det L _ _ (fun m hm => (gi.hm _ bl m (hLc m hm)).1) (fun m hm => (gi.hm _ bl m hm).1) hC hCn
        obtain ⟨le, gi'⟩ := linkE_ok (o := o) (n := op.own) gi bl hown.h1 hown.h2 hown.lv hown.own hown.out (by rw [hown.key]; rfl) hr r (fun m hm => by rw [hown.key]; exact n1 m (by rw [hLL]; exact hm))
        refine ⟨true, rfl, hpost_done (g' := g.linkE (g.bk op.key) op.own) wr hB ho rfl rfl h1 h2 gi' le 60 (Or.inr rfl) (by omega) (by omega) (fun _ => ⟨op.own, ?_, hown.key⟩)⟩
        rw [le.bk]
        show op.own ∈ upN g.ch _ _ _
        rw [upN_eq]; simp
      · refine (step_fail B k w ga h o g.a g.heads g.ents op hs hkk hh1 hh2 hE gi.wf hk2 _ hc hn htk (beq_eq_false_iff_ne.mpr hv)).mono ?_
        rintro e w' ⟨rfl, h1, h2⟩
        have hp := st.2.resolve_left hv
        exact ⟨false, rfl, hpost_go wr hB ho rfl rfl h1 h2 gi (Le.rfl' _ _) (Still.rfl' _) rfl 115 ⟨oi.key, Or.inr (hown.turn rfl rfl), Or.inl ⟨rfl, Nat.le_refl _⟩⟩ (by omega) (Nat.le_refl _)⟩
end Go.Proofs.YtmemkmnnededgaaDoor.H

namespace Go.Proofs.YtmemkmnnededgaaDoor.H
open Go.RowKit Go.Proofs.YtmemkmnnededgaaDoorW.PrintWords Go.Proofs.YtmemkmnnededgaaDoorW.PrintLast Go.Proofs.YtmemkmnnededgaaDoorW.PrintMore
set_option linter.unusedVariables false
set_option linter.unusedSimpArgs false

section
variable {keys : List ByteArray} {B : Nat} {w w' : World} {ga h l o : Nat} {g g' : G} {k k' p : Nat} {op op' : SOp}
/-- Memory behind a skip step. -/
theorem WR.ks (wr : WR B w ga h l g) (hB : 0 < B) (ho : SoAt B w o l op) (hh : g'.heads = g.heads) (he : g'.ents = g.ents) (hs : KS B w' ga l o g'.a g'.bs g'.ns op') (hf : FrO TK o B w w') : WR B w' ga h l g' ∧ FrO TT o B w w' := by
  have hT := hf.toTC ho.blk
  have hsub : ∀ t, t ∈ TK → t ∈ TT := by simp [TK, TT]
  refine ⟨⟨hs.ar, ?_, hs.li, fun j hj => (hf.below.cell (p := ⟨0, j, none⟩) hB).trans (wr.tab j hj)⟩, ⟨hf.below, fun b cs t fr hb ht ho => hf.kept b cs t fr hb (fun h => ht (hsub _ h)) ho⟩⟩
  rw [hh, he]
  exact wr.ht.kept hT (by simp [TK]) (by simp [TK]) (by simp [TK])
theorem spost_go (wr : WR B w ga h l g) (hB : 0 < B) (ho : SoAt B w o l op) (hh : g'.heads = g.heads) (he : g'.ents = g.ents) (hs : KS B w' ga l o g'.a g'.bs g'.ns op') (hf : FrO TK o B w w') (gi : GI keys g' k') (le : Le o g g') (δ : Nat) (st : Still g g' ∨ δ = 60) (hk : op'.key = op.key) (p' : Nat) (oi : SOI keys g' o op' p') (hp : p' + δ < p) (hbud : k' + (TOp.s o op').bud ≤ k + (TOp.s o op).bud) :
    Post keys B w ga h l g k (.s o op) p false w' :=
  ⟨g', k', δ, p', .s o op', (wr.ks hB ho hh he hs hf).1, gi, le, st, (wr.ks hB ho hh he hs hf).2, ⟨rfl, hk⟩, (fun h => by cases h), fun _ => ⟨hs.so, oi, by omega, hbud⟩⟩
theorem spost_done (wr : WR B w ga h l g) (hB : 0 < B) (ho : SoAt B w o l op) (hh : g'.heads = g.heads) (he : g'.ents = g.ents) (hs : KS B w' ga l o g'.a g'.bs g'.ns op') (hf : FrO TK o B w w') (gi : GI keys g' k') (le : Le o g g') (δ : Nat) (st : Still g g' ∨ δ = 60) (hp : δ < p) (hbud : k' ≤ k + (TOp.s o op).bud) (fin : isKeyB op.key = true → inS g' op.key) :
    Post keys B w ga h l g k (.s o op) p true w' :=
  ⟨g', k', δ, 0, .s o op, (wr.ks hB ho hh he hs hf).1, gi, le, st, (wr.ks hB ho hh he hs hf).2, ⟨rfl, rfl⟩, fun _ => ⟨hp, hbud, fin⟩, (fun h => by cases h)⟩
end
theorem sbud_own {o : Nat} {op : SOp} (h : 1 ≤ op.own) : (TOp.s o op).bud = op.height := by
  show (if op.own = 0 then 2 * op.height else op.height) = _
  rw [if_neg (by omega)]
theorem sbud_none {o : Nat} {op : SOp} (h : op.own = 0) : (TOp.s o op).bud = 2 * op.height := by
  show (if op.own = 0 then 2 * op.height else op.height) = _
  rw [if_pos h]
theorem rank_le (keys : List ByteArray) (hkl : keys.length ≤ 40) (g : G) (p : Nat) : rank keys g p ≤ 41 := by
  unfold rank
  split
  · omega
  · have := List.length_filter_le (fun x => Op.bytesLess (g.nkey p).toList x.toList) keys
    omega
theorem rank_lt (keys : List ByteArray) (hkl : keys.length ≤ 40) (g : G) (p n : Nat) (hn : 1 ≤ n) (hk : g.nkey n ∈ keys) (h : p = 0 ∨ ltB (g.nkey p) (g.nkey n)) : rank keys g n + 1 ≤ rank keys g p := by
  have hn0 : ¬ n = 0 := by omega
  by_cases hp : p = 0
  · unfold rank
    rw [if_pos hp, if_neg hn0]
    have := List.length_filter_le (fun x => Op.bytesLess (g.nkey n).toList x.toList) keys
    omega
  · have hlt := h.resolve_left hp
    unfold rank
    rw [if_neg hp, if_neg hn0]
    clear h hkl
    induction keys with
    | nil => simp at hk
    | cons x l ih =>
      have himp : ∀ y : ByteArray, Op.bytesLess (g.nkey n).toList y.toList = true → Op.bytesLess (g.nkey p).toList y.toList = true := fun y hy => ltB_trans hlt hy
      have hle : (l.filter (fun x => Op.bytesLess (g.nkey n).toList x.toList)).length ≤ (l.filter (fun x => Op.bytesLess (g.nkey p).toList x.toList)).length := by
        clear ih hk
        induction l with
        | nil => simp
        | cons y l ih2 =>
          simp only [List.filter_cons]
          by_cases h1 : Op.bytesLess (g.nkey n).toList y.toList = true
          · rw [if_pos h1, if_pos (himp y h1)]
            simp only [List.length_cons]
            omega
          · rw [if_neg h1]
            split
            · simp only [List.length_cons]; omega
            · exact ih2
      simp only [List.filter_cons]
      by_cases hx : g.nkey n = x
      · subst hx
        have h1 : ¬ Op.bytesLess (g.nkey n).toList (g.nkey n).toList = true := ltB_irrefl _
        have h2 : Op.bytesLess (g.nkey p).toList (g.nkey n).toList = true := hlt
        rw [if_neg h1, if_pos h2]
        simp only [List.length_cons]
        omega
      · have hk2 : g.nkey n ∈ l := by
          rcases List.mem_cons.1 hk with h | h
          · exact absurd h hx
          · exact h
        have := ih hk2
        by_cases h1 : Op.bytesLess (g.nkey n).toList x.toList = true
        · rw [if_pos h1, if_pos (himp x h1)]
          simp only [List.length_cons]
          omega
        · rw [if_neg h1]
          split
          · simp only [List.length_cons]; omega
          · exact this
theorem isKeyB_size {s : ByteArray} (h : isKeyB s = true) : s.size ≤ 16 := by
  unfold isKeyB at h
  have := of_decide_eq_true h
  omega
/-- Two nodes of a level with one key are one. -/
theorem same_node {keys : List ByteArray} {g : G} {k v m n : Nat} (gi : GI keys g k) (hv : v < 8) (hm : m ∈ g.lst v) (hn : n ∈ g.lst v) (h : g.nkey m = g.nkey n) : m = n := by
  have hs := gi.so v hv
  generalize g.lst v = L at *
  induction L with
  | nil => simp at hm
  | cons x L ih =>
    rw [List.pairwise_cons] at hs
    rcases List.mem_cons.1 hm with h1 | h1
    · rcases List.mem_cons.1 hn with h2 | h2
      · rw [h1, h2]
      · have := hs.1 n h2
        rw [← h1, h] at this
        exact absurd this (ltB_irrefl _)
    · rcases List.mem_cons.1 hn with h2 | h2
      · have := hs.1 m h1
        rw [← h2, h] at this
        exact absurd this (ltB_irrefl _)
      · exact ih h1 h2 hs.2
theorem SOwn.turn {g : G} {o : Nat} {op op' : SOp} (h : SOwn g o op) (e1 : op'.own = op.own) (e2 : op'.key = op.key) (e3 : op'.height = op.height) (e4 : op'.linked = op.linked) : SOwn g o op' :=
  ⟨by rw [e1]; exact h.h1, by rw [e1]; exact h.h2, by rw [e1]; exact h.lv, by rw [e1, e2]; exact h.key, by rw [e1, e3]; exact h.hgt, by rw [e1]; exact h.own, by rw [e3, e4]; exact h.lt, by rw [e1, e4]; exact h.ins⟩
theorem record_preds (op : SOp) (n i : Nat) : (op.record n).preds i = if i = op.level then op.pred else op.preds i := rfl
theorem record_succs (op : SOp) (n i : Nat) : (op.record n).succs i = if i = op.level then n else op.succs i := rfl
theorem Post.turn {keys : List ByteArray} {B : Nat} {w w' : World} {ga h l o : Nat} {g : G} {k p : Nat} {op op' : SOp} {r : Bool} (hk : op'.key = op.key) (ho : op'.own = op.own) (hh : op'.height = op.height) (hp : Post keys B w ga h l g k (.s o op') p r w') : Post keys B w ga h l g k (.s o op) p r w' := by
  have hb : (TOp.s o op').bud = (TOp.s o op).bud := by
    show (if op'.own = 0 then 2 * op'.height else op'.height) = (if op.own = 0 then 2 * op.height else op.height)
    rw [ho, hh]
  obtain ⟨g', k', δ, p', x', h1, h2, h3, h4, h5, h6, h7, h8⟩ := hp
  refine ⟨g', k', δ, p', x', h1, h2, h3, h4, h5, ?_, fun hr => ?_, fun hr => ?_⟩
  · cases x' with
    | h o' op'' => exact h6
    | s o' op'' => exact ⟨h6.1, h6.2.trans hk⟩
  · obtain ⟨a1, a2, a3⟩ := h7 hr
    refine ⟨a1, by rw [← hb]; exact a2, fun hi => ?_⟩
    have := a3 (by rw [hk]; exact hi)
    rw [hk] at this
    exact this
  · obtain ⟨a1, a2, a3, a4⟩ := h8 hr
    exact ⟨a1, a2, a3, by rw [← hb]; exact a4⟩
theorem Post.pre {keys : List ByteArray} {B : Nat} {w W w' : World} {ga h l : Nat} {g : G} {k p : Nat} {x : TOp} {r : Bool} (hf : FrO TT x.blk B w W) (hp : Post keys B W ga h l g k x p r w') : Post keys B w ga h l g k x p r w' := by
  obtain ⟨g', k', δ, p', x', h1, h2, h3, h4, h5, h6⟩ := hp
  exact ⟨g', k', δ, p', x', h1, h2, h3, h4, hf.trans h5, h6⟩
end Go.Proofs.YtmemkmnnededgaaDoor.H

namespace Go.Proofs.YtmemkmnnededgaaDoor.H
open Go.RowKit Go.Proofs.YtmemkmnnededgaaDoorW.PrintWords Go.Proofs.YtmemkmnnededgaaDoorW.PrintLast Go.Proofs.YtmemkmnnededgaaDoorW.PrintMore
set_option linter.unusedVariables false
set_option linter.unusedSimpArgs false

set_option maxHeartbeats 1000000 in
theorem sarrive {keys : List ByteArray} {B : Nat} {w : World} {ga h l o : Nat} {g : G} {k p n : Nat} {op : SOp} (hB : 0 < B) (wr : WR B w ga h l g) (ho : SoAt B w o l op) (gi : GI keys g k) (hk : k ≤ 1000 + g.nb)
    (hkey : op.key ∈ keys) (hword : op.word = wordF op.key) (g1 : 1 ≤ op.height) (g2 : op.height ≤ 8) (hbg : op.begun = true) (hik : isKeyB op.key = true) (hown : op.own = 0 ∧ op.linked = 0 ∨ SOwn g o op)
    (pr : ∀ i, i < 8 → Pair g op.key i (op.preds i) (op.succs i)) (hn : op.succs 0 = n) (st : SSt g op (fun _ => True) p (4 + 70 * (op.height - op.linked))) :
    Calls Tryd.prog 57 #[.pointer (some ⟨o, 0, none⟩), .int .i64 n] w fun e w' => ∃ r : Bool, e = .returned (.bool r) ∧ Post keys B w ga h l g k (.s o op) p r w' := by
  have hs : KS B w ga l o g.a g.bs g.ns op := ⟨wr.ar, wr.li, ho⟩
  have hN : g.bs.length < 1000 := by have h1 := gi.kN; have : g.N = g.bs.length := rfl; omega
  have hk2 : k < 1900 := by have := gi.nb2; omega
  have hst := st.1
  have pr0 := pr 0 (by omega)
  rw [hn] at pr0
  -- what is shown where it goes on to lay
  have layP : ∀ (g' : G) (op' : SOp), Still g g' → Le o g g' → op'.preds = op.preds → op'.succs = op.succs → op'.key = op.key → op'.height = op.height → op'.linked = op.linked → op'.does = 1 → 1 ≤ op'.own → (op.linked = 0 → n = 0 ∨ g.nkey n ≠ op.key) → SPh keys g' op' (p - 1) := by
    intro g' op' hs le e1 e2 e3 e4 e5 e6 e7 ne
    refine .lay e6 e7 (fun i hi => by rw [e1, e2, e3]; exact (pr i hi).keep gi le hi) (fun h0 => ?_) ⟨by rw [e4, e5]; omega, ?_⟩
    · rw [e2, e3, hn]
      rw [e5] at h0
      rcases ne h0 with h | h
      · exact Or.inl h
      · rcases pr0.succ with h2 | h2
        · exact Or.inl h2
        · exact Or.inr (by rw [le.nkey _ (gi.sm 0 (by omega) _ h2.1).2.1]; exact h)
    · rcases st.2 with h | h
      · left
        intro i hi _
        rw [e1, e2, hs.tw i hi _ ((pr i hi).pred.imp id (fun h => h.1))]
        exact h i hi trivial
      · right; rw [e4, e5]; omega
  have newP : ∀ (cs : List Nat) (a' : Ar) (b : Nat) (w' : World), op.own = 0 → (op.linked = 0 → n = 0 ∨ g.nkey n ≠ op.key) → cs.length = op.height → KS B w' ga l o a' (g.bs ++ [b]) (upNode g.ns g.bs.length ((newNode op).with cs)) { op with own := g.bs.length, does := 1 } → a'.Wf (k + op.height) → Fresh g.a a' cs → FrO TK o B w w' → Post keys B w ga h l g k (.s o op) p false w' := by
    intro cs a' b w' h0 ne hcs hks hwf hfr hf
    obtain ⟨q, gi'⟩ := addN_ok (o := o) (b := b) (x := (newNode op).with cs) gi (newNode op) op.height rfl rfl hcs g1 g2 hwf hfr hkey hik hword
    have le := q.le gi
    have l0 : op.linked = 0 := by
      rcases hown with h | h
      · exact h.2
      · have := h.h1; omega
    refine spost_go (g' := g.addN o a' b ((newNode op).with cs)) wr hB ho rfl rfl hks hf gi' le 0 (Or.inl (q.still gi)) rfl (p - 1) ⟨hkey, hword, g1, g2, Or.inr ⟨hbg, hik, Or.inr ?_, ?_⟩⟩ (by omega) ?_
    · refine ⟨gi.s0.1, by rw [addN_N]; exact Nat.lt_succ_self _, upN_eq _ _ _, ?_, ?_, upN_eq _ _ _, by rw [l0]; exact g1, fun v hv => ?_⟩
      · show (upNode g.ns g.bs.length ((newNode op).with cs) g.bs.length).key = op.key
        rw [upNode_eq]; rfl
      · show (upNode g.ns g.bs.length ((newNode op).with cs) g.bs.length).height = op.height
        rw [upNode_eq]; rfl
      · constructor
        · intro hm
          have := (gi.sm v hv _ hm).2.1
          exact absurd this (Nat.lt_irrefl _)
        · intro h3
          have h4 : v < op.linked := h3
          omega
    · exact layP _ _ (q.still gi) le rfl rfl rfl rfl rfl rfl gi.s0.1 ne
    · rw [sbud_none h0, sbud_own (by exact gi.s0.1)]
      show k + op.height + op.height ≤ _
      omega
  have layQ : ∀ (w' : World), SOwn g o op → (op.linked = 0 → n = 0 ∨ g.nkey n ≠ op.key) → KS B w' ga l o g.a g.bs g.ns { op with does := 1 } → FrO TK o B w w' → Post keys B w ga h l g k (.s o op) p false w' := by
    intro w' hw ne hks hf
    exact spost_go wr hB ho rfl rfl hks hf gi (Le.rfl' _ _) 0 (Or.inl (Still.rfl' _)) rfl (p - 1) ⟨hkey, hword, g1, g2, Or.inr ⟨hbg, hik, Or.inr (hw.turn rfl rfl rfl rfl), layP g _ (Still.rfl' _) (Le.rfl' _ _) rfl rfl rfl rfl rfl rfl hw.h1 ne⟩⟩ (by omega) (Nat.le_refl _)
  by_cases hn0 : n = 0
  · rcases hown with hw | hw
    · refine (arrived_new0 B k n w ga l o g.a g.bs g.ns op hs gi.wf hk2 hN hn0 wr.tab hB g1 g2 hw.1).mono ?_
      rintro e w' ⟨cs, a', b, rfl, h1, h2, h3, h4, h5⟩
      exact ⟨false, rfl, newP cs a' b w' hw.1 (fun _ => Or.inl hn0) h1 h2 h3 h4 h5⟩
    · refine (arrived_lay0 B k n w ga l o g.a g.bs g.ns op hs gi.wf hk2 hN hn0 hw.h1).mono ?_
      rintro e w' ⟨rfl, h1, h2⟩
      exact ⟨false, rfl, layQ w' hw (fun _ => Or.inl hn0) h1 h2⟩
  · have hnl := (pr0.succ.resolve_left hn0).1
    have hm := gi.sm 0 (by omega) n hnl
    have hsn := gi.sn n hm.1 hm.2.1
    have hwd : (wordU (g.ns n).key == wordU op.key) = decide ((g.ns n).key = op.key) := wordU_beq (isKeyB_size hsn.2.1) (isKeyB_size hik)
    by_cases hkk : g.nkey n = op.key
    · have his : (wordU (g.ns n).key == wordU op.key) = true := by rw [hwd]; exact decide_eq_true hkk
      have fin : inS g op.key := ⟨n, hnl, hkk⟩
      by_cases hno : n = op.own
      · have hw : SOwn g o op := by
          rcases hown with h | h
          · rw [h.1] at hno; exact absurd hno hn0
          · exact h
        refine (arrived_layown B k n w ga l o g.a g.bs g.ns op hs gi.wf hk2 hN hm.2.1 hm.1 hsn.2.2.1 hword his hw.h1 hno).mono ?_
        rintro e w' ⟨rfl, h1, h2⟩
        refine ⟨false, rfl, layQ w' hw (fun h0 => ?_) h1 h2⟩
        have := (hw.ins 0 (by omega)).1 (by rw [← hno]; exact hnl)
        omega
      · rcases hown with hw | hw
        · refine (arrived_dup B k n w ga l o g.a g.bs g.ns op hs gi.wf hk2 hN hm.2.1 hm.1 hsn.2.2.1 hword his hno hw.1).mono ?_
          rintro e w' ⟨rfl, h1, h2⟩
          exact ⟨true, rfl, spost_done wr hB ho rfl rfl h1 h2 gi (Le.rfl' _ _) 0 (Or.inl (Still.rfl' _)) (by omega) (by omega) (fun _ => fin)⟩
        · have hl0 : op.linked = 0 := by
            rcases Nat.eq_zero_or_pos op.linked with h | h
            · exact h
            · exact absurd (same_node gi (by omega) hnl ((hw.ins 0 (by omega)).2 h) (by rw [hkk]; exact hw.key.symm)) hno
          refine (arrived_own B k n w ga l o g.a g.bs g.ns op hs gi.wf hk2 hN hm.2.1 hm.1 hsn.2.2.1 hword his hno hw.h1 hw.h2 (by rw [hw.hgt]; exact g2) (tower_nodup gi hw.h2 hw.lv) (fun i hi => gi.ci.tk (.tw op.own i) ⟨hw.h2, hw.lv, hi⟩)).mono ?_
          rintro e w' ⟨a', rfl, h1, h2, h3, h4⟩
          obtain ⟨q, gi'⟩ := delN_ok (o := o) gi hw.h2 hw.lv h2 (by have := hw.h1; omega) hw.own (fun v hv hm2 => by have := (hw.ins v hv).1 hm2; omega) h3
          refine ⟨true, rfl, spost_done (g' := g.delN a' op.own) wr hB ho rfl rfl h1 h4 gi' (q.le gi) 0 (Or.inl (q.still gi)) (by omega) ?_ (fun _ => ⟨n, hnl, hkk⟩)⟩
          rw [sbud_own hw.h1, hw.hgt]
          exact Nat.le_refl _
    · have his : (wordU (g.ns n).key == wordU op.key) = false := by rw [hwd]; exact decide_eq_false hkk
      rcases hown with hw | hw
      · refine (arrived_new B k n w ga l o g.a g.bs g.ns op hs gi.wf hk2 hN hm.2.1 hm.1 hsn.2.2.1 hword his wr.tab hB g1 g2 hw.1).mono ?_
        rintro e w' ⟨cs, a', b, rfl, h1, h2, h3, h4, h5⟩
        exact ⟨false, rfl, newP cs a' b w' hw.1 (fun _ => Or.inr hkk) h1 h2 h3 h4 h5⟩
      · refine (arrived_lay B k n w ga l o g.a g.bs g.ns op hs gi.wf hk2 hN hm.2.1 hm.1 hsn.2.2.1 hword his hw.h1).mono ?_
        rintro e w' ⟨rfl, h1, h2⟩
        exact ⟨false, rfl, layQ w' hw (fun _ => Or.inr hkk) h1 h2⟩

set_option maxHeartbeats 1000000 in
theorem swalk {keys : List ByteArray} {B : Nat} {w : World} {ga h l o : Nat} {g : G} {k p : Nat} {op : SOp} (hkl : keys.length ≤ 40) (hB : 0 < B) (wr : WR B w ga h l g) (ho : SoAt B w o l op) (gi : GI keys g k) (hk : k ≤ 1000 + g.nb)
    (hkey : op.key ∈ keys) (hword : op.word = wordF op.key) (g1 : 1 ≤ op.height) (g2 : op.height ≤ 8) (hbg : op.begun = true) (hik : isKeyB op.key = true) (hown : op.own = 0 ∧ op.linked = 0 ∨ SOwn g o op) (hd : op.does = 0)
    (hl : op.level < 8) (hp : op.pred = 0 ∨ (op.pred ∈ g.lst op.level ∧ ltB (g.nkey op.pred) op.key)) (pr : ∀ i, i < 8 → op.level < i → Pair g op.key i (op.preds i) (op.succs i)) (st : SSt g op (fun i => op.level < i) p (4 + op.level + rank keys g op.pred + 70 * (op.height - op.linked))) :
    Calls Tryd.prog 42 #[.pointer (some ⟨o, 0, none⟩)] w fun e w' => ∃ r : Bool, e = .returned (.bool r) ∧ Post keys B w ga h l g k (.s o op) p r w' := by
  have hs : KS B w ga l o g.a g.bs g.ns op := ⟨wr.ar, wr.li, ho⟩
  have hN : g.bs.length < 1000 := by have h1 := gi.kN; have : g.N = g.bs.length := rfl; omega
  have hk2 : k < 1900 := by have := gi.nb2; omega
  have hst := st.1
  have hpl : op.pred = 0 ∨ op.pred ∈ g.lst op.level := hp.imp id (fun h => h.1)
  have lp := gi.l_tw hl hpl
  have hpN : op.pred < g.bs.length := lp.1
  have htk := gi.ci.tk _ lp
  obtain ⟨n, hr, hn⟩ := SL_next _ _ _ (gi.sl _ hl) hpl
  have hnN : n < g.bs.length := by
    rcases hn with h | h
    · rw [h]; exact gi.s0.1
    · exact (gi.sm _ hl _ h).2.1
  -- recorded at its level
  have prr : (n = 0 ∨ ¬ ltB (g.nkey n) op.key) → ∀ i, i < 8 → op.level ≤ i → Pair g op.key i ((op.record n).preds i) ((op.record n).succs i) := by
    intro hlt i hi hI
    rw [record_preds, record_succs]
    by_cases e : i = op.level
    · subst e
      rw [if_pos rfl, if_pos rfl]
      refine ⟨hp, ?_⟩
      rcases hn with h | h
      · exact Or.inl h
      · rcases hlt with h2 | h2
        · exact Or.inl h2
        · exact Or.inr ⟨h, h2⟩
    · rw [if_neg e, if_neg e]
      exact pr i hi (by omega)
  have rdr : (∀ i, i < 8 → op.level < i → g.rd (.tw (op.preds i) i) = (op.succs i : Int)) → ∀ i, i < 8 → op.level ≤ i → g.rd (.tw ((op.record n).preds i) i) = ((op.record n).succs i : Int) := by
    intro h i hi hI
    rw [record_preds, record_succs]
    by_cases e : i = op.level
    · subst e
      rw [if_pos rfl, if_pos rfl]
      exact hr
    · rw [if_neg e, if_neg e]
      exact h i hi (by omega)
  have downP : ∀ w' : World, (n = 0 ∨ ¬ ltB (g.nkey n) op.key) → 1 ≤ op.level → KS B w' ga l o g.a g.bs g.ns { op.record n with level := op.level - 1 } → FrO TK o B w w' → Post keys B w ga h l g k (.s o op) p false w' := by
    intro w' hlt hl0 hks hf
    refine spost_go wr hB ho rfl rfl hks hf gi (Le.rfl' _ _) 0 (Or.inl (Still.rfl' _)) rfl (p - 1) ⟨hkey, hword, g1, g2, Or.inr ⟨hbg, hik, hown.imp (fun h => h) (fun h => h.turn rfl rfl rfl rfl), .walk hd (by show op.level - 1 < 8; omega) ?_ ?_ ⟨?_, ?_⟩⟩⟩ (by omega) (Nat.le_refl _)
    · rcases hp with h | h
      · exact Or.inl h
      · refine Or.inr ⟨?_, h.2⟩
        have hss := gi.ss (op.level - 1) (by omega) op.pred (by rw [show op.level - 1 + 1 = op.level by omega]; exact h.1)
        exact hss
    · intro i hi hI
      have hI' : op.level - 1 < i := hI
      exact prr hlt i hi (by omega)
    · show 4 + (op.level - 1) + rank keys g op.pred + 70 * (op.height - op.linked) ≤ p - 1
      omega
    · rcases st.2 with h2 | h2
      · left
        intro i hi hI
        have hI' : op.level - 1 < i := hI
        exact rdr h2 i hi (by omega)
      · right
        show 4 + (op.level - 1) + rank keys g op.pred + 70 * (op.height - op.linked) + 60 ≤ p - 1
        omega
  have arrP : op.level = 0 → (n = 0 ∨ ¬ ltB (g.nkey n) op.key) → ∀ W, KS B W ga l o g.a g.bs g.ns (op.record n) → FrO TK o B w W → Calls Tryd.prog 57 #[.pointer (some ⟨o, 0, none⟩), .int .i64 n] W (fun e w' => ∃ r : Bool, e = .returned (.bool r) ∧ Post keys B w ga h l g k (.s o op) p r w') := by
    intro hl0 hlt W hks hf
    obtain ⟨wr', hf'⟩ := wr.ks hB ho rfl rfl hks hf
    refine (sarrive (p := p) (op := op.record n) hB wr' hks.so gi hk hkey hword g1 g2 hbg hik (hown.imp (fun h => h) (fun h => h.turn rfl rfl rfl rfl)) (fun i hi => prr hlt i hi (by omega)) (by rw [record_succs, if_pos hl0.symm]) ⟨?_, ?_⟩).mono ?_
    · show 4 + 70 * (op.height - op.linked) ≤ p
      omega
    · rcases st.2 with h2 | h2
      · left
        intro i hi _
        exact rdr h2 i hi (by omega)
      · right
        show 4 + 70 * (op.height - op.linked) + 60 ≤ p
        omega
    · rintro e w' ⟨r, rfl, hp⟩
      exact ⟨r, rfl, Post.pre (x := .s o op) hf' (Post.turn (op' := op.record n) (op := op) rfl rfl rfl hp)⟩
  by_cases hn0 : n = 0
  · by_cases hl0 : op.level = 0
    · exact walk_arrive0 B k n w ga l o g.a g.bs g.ns op hs gi.wf hk2 hN hl hpN htk hr hnN hn0 hl0 _ (arrP hl0 (Or.inl hn0))
    · refine (walk_down0 B k n w ga l o g.a g.bs g.ns op hs gi.wf hk2 hN hl hpN htk hr hnN hn0 (by omega)).mono ?_
      rintro e w' ⟨rfl, h1, h2⟩
      exact ⟨false, rfl, downP w' (Or.inl hn0) (by omega) h1 h2⟩
  · have hn1 : 1 ≤ n := by omega
    have hnl := hn.resolve_left hn0
    cases hlt : Op.bytesLess (g.ns n).key.toList op.key.toList with
    | false =>
      have hlt' : ¬ ltB (g.nkey n) op.key := (not_ltB_iff _ _).2 hlt
      by_cases hl0 : op.level = 0
      · exact walk_arrive B k n w ga l o g.a g.bs g.ns op hs gi.wf hk2 hN hl hpN htk hr hnN hn1 hlt hl0 _ (arrP hl0 (Or.inr hlt'))
      · refine (walk_down B k n w ga l o g.a g.bs g.ns op hs gi.wf hk2 hN hl hpN htk hr hnN hn1 hlt (by omega)).mono ?_
        rintro e w' ⟨rfl, h1, h2⟩
        exact ⟨false, rfl, downP w' (Or.inr hlt') (by omega) h1 h2⟩
    | true =>
      refine (walk_on B k n w ga l o g.a g.bs g.ns op hs gi.wf hk2 hN hl hpN htk hr hnN hn1 hlt).mono ?_
      rintro e w' ⟨rfl, h1, h2⟩
      have hm := gi.sm _ hl n hnl
      have hrk := rank_lt keys hkl g op.pred n hn1 (gi.sn n hm.1 hm.2.1).1 (by
        rcases hpl with h | h
        · exact Or.inl h
        · right
          -- the next of a chain is greater
          obtain ⟨A, C, e1, e2, e3⟩ := SL_split _ _ _ (gi.sl _ hl) (Or.inr h)
          have hso := gi.so _ hl
          cases C with
          | nil =>
            have e4 : g.rd (.tw op.pred op.level) = 0 := e3
            rw [hr] at e4
            omega
          | cons x C =>
            have e4 := e3.1
            rw [hr] at e4
            have e5 : n = x := by omega
            subst e5
            rw [e1, List.pairwise_append] at hso
            rcases e2 with ⟨_, e6⟩ | ⟨A', e6⟩
            · have := (gi.sm _ hl op.pred h).1
              omega
            · exact hso.2.2 op.pred (by rw [e6]; simp) n (by simp))
      refine ⟨false, rfl, spost_go wr hB ho rfl rfl h1 h2 gi (Le.rfl' _ _) 0 (Or.inl (Still.rfl' _)) rfl (p - 1) ⟨hkey, hword, g1, g2, Or.inr ⟨hbg, hik, hown.imp (fun h => h) (fun h => h.turn rfl rfl rfl rfl), .walk hd hl (Or.inr ⟨hnl, hlt⟩) pr ⟨?_, ?_⟩⟩⟩ (by omega) (Nat.le_refl _)⟩
      · show 4 + op.level + rank keys g n + 70 * (op.height - op.linked) ≤ p - 1
        omega
      · rcases st.2 with h2 | h2
        · exact Or.inl h2
        · right
          show 4 + op.level + rank keys g n + 70 * (op.height - op.linked) + 60 ≤ p - 1
          omega
end Go.Proofs.YtmemkmnnededgaaDoor.H

