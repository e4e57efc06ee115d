/- E0, E1, E2, E3 of the claim's own texts, in one. -/
import Derived.Test.YtmemkmnnededgaaDoorB12
import Derived.Test.YtmemkmnnededgaaDoorB11
import Derived.Test.YtmemkmnnededgaaDoorD4d
import Derived.Test.YtmemkmnnededgaaDoorD5b
import Derived.Test.YtmemkmnnededgaaDoorD8
import Derived.Test.YtmemkmnnededgaaDoorD9
namespace Go.Proofs.YtmemkmnnededgaaDoor.H
open Go.RowKit Go.Proofs.YtmemkmnnededgaaDoorW.PrintWords Go.Proofs.YtmemkmnnededgaaDoorW.PrintLast Go.Proofs.YtmemkmnnededgaaDoorW.PrintMore
set_option linter.unusedVariables false
set_option linter.unusedSimpArgs false

/-! ### Keys in order -/
def ltB (x y : ByteArray) : Prop := Op.bytesLess x.toList y.toList = true
theorem ltB_iff (x y : ByteArray) : ltB x y ↔ x.data.toList < y.data.toList := by
  unfold ltB
  rw [bytesLess_eq, ByteArray.toList_eq, ByteArray.toList_eq]
  simp
theorem not_ltB_iff (x y : ByteArray) : ¬ ltB x y ↔ Op.bytesLess x.toList y.toList = false := by unfold ltB; simp
theorem ltB_irrefl (x : ByteArray) : ¬ ltB x x := by rw [ltB_iff]; exact List.lt_irrefl _
theorem ltB_trans {x y z : ByteArray} (h1 : ltB x y) (h2 : ltB y z) : ltB x z := by
  rw [ltB_iff] at *
  exact List.lt_trans h1 h2
theorem ltB_total {x y : ByteArray} (h : ¬ ltB x y) (hne : x ≠ y) : ltB y x := by
  rw [ltB_iff] at *
  have h2 : y.data.toList ≤ x.data.toList := h
  rcases List.le_iff_lt_or_eq.1 h2 with h3 | h3
  · exact h3
  · exfalso
    apply hne
    apply ByteArray.ext
    exact (Array.toList_inj.1 h3).symm
theorem ltB_of_not {x y z : ByteArray} (h1 : ltB x y) (h2 : ¬ ltB z y) : ltB x z := by
  by_cases e : z = y
  · rw [e]; exact h1
  · exact ltB_trans h1 (ltB_total h2 e)
/-- A list without repeats lies within one of at least its length. -/
theorem nodup_len {α : Type} [DecidableEq α] : ∀ (l m : List α), l.Nodup → (∀ x, x ∈ l → x ∈ m) → l.length ≤ m.length
  | [], m, _, _ => by simp
  | x :: l, m, h, hs => by
    have hx : x ∈ m := hs x (by simp)
    have h2 := List.nodup_cons.1 h
    have := nodup_len l (m.erase x) h2.2 (fun y hy => (List.mem_erase_of_ne (fun e => h2.1 (by rw [← e]; exact hy))).2 (hs y (by simp [hy])))
    rw [List.length_erase_of_mem hx] at this
    have hp : 0 < m.length := List.length_pos_of_mem hx
    simp only [List.length_cons]
    omega

/-! ### The state -/
inductive Ow where
  | hd (b : Nat)
  | en (n : Nat)
  | tw (n l : Nat)
structure G where
  a : Ar
  heads : List Nat
  ents : List Ent
  bs : List Nat
  ns : Nat → SNode
  ch : Nat → List Nat
  lst : Nat → List Nat
  eown : Nat → Nat
  nown : Nat → Nat
  elv : Nat → Bool
  nlv : Nat → Bool
def G.nb (g : G) : Nat := g.heads.length
def G.N (g : G) : Nat := g.bs.length
def G.E (g : G) : Nat := g.ents.length
def G.cell (g : G) : Ow → Nat
  | .hd b => headAt g.heads b
  | .en n => (entAt g.ents n).next
  | .tw n l => (g.ns n).tower l
def G.live (g : G) : Ow → Prop
  | .hd b => b < g.heads.length
  | .en n => 1 ≤ n ∧ n ≤ g.ents.length ∧ g.elv n = true
  | .tw n l => n < g.bs.length ∧ g.nlv n = true ∧ l < (g.ns n).height
def G.rd (g : G) (x : Ow) : Int := g.a.val (g.cell x)
def G.ekey (g : G) (n : Nat) : ByteArray := (entAt g.ents n).key
def G.nkey (g : G) (n : Nat) : ByteArray := (g.ns n).key
structure CI (g : G) : Prop where
  tk : ∀ x, g.live x → g.a.tk (g.cell x) = true
  inj : ∀ x y, g.live x → g.live y → g.cell x = g.cell y → x = y
/-- A chain of entries hangs at the word n. -/
def HC (g : G) : List Nat → Nat → Prop
  | [], n => n = 0
  | m :: L, n => n = m ∧ ∃ n' : Nat, g.rd (.en m) = (n' : Int) ∧ HC g L n'
/-- A chain of nodes hangs behind p at level v. -/
def SL (g : G) (v : Nat) : Nat → List Nat → Prop
  | p, [] => g.rd (.tw p v) = 0
  | p, q :: L => g.rd (.tw p v) = (q : Int) ∧ SL g v q L
theorem HC_keep {g g' : G} : ∀ (L : List Nat) (n : Nat), (∀ m, m ∈ L → g'.rd (.en m) = g.rd (.en m)) → HC g L n → HC g' L n
  | [], n, _, h => h
  | m :: L, n, hk, ⟨h1, n', h2, h3⟩ => ⟨h1, n', (hk m (by simp)).trans h2, HC_keep L n' (fun x hx => hk x (by simp [hx])) h3⟩
theorem HC_det {g : G} : ∀ (L L' : List Nat) (n : Nat), (∀ m, m ∈ L → 1 ≤ m) → (∀ m, m ∈ L' → 1 ≤ m) → HC g L n → HC g L' n → L = L'
  | [], [], _, _, _, _, _ => rfl
  | [], m :: L', n, _, h', h1, h2 => by
    have e1 : n = 0 := h1
    have e2 : n = m := h2.1
    have := h' m (by simp)
    omega
  | m :: L, [], n, h, _, h1, h2 => by
    have e1 : n = m := h1.1
    have e2 : n = 0 := h2
    have := h m (by simp)
    omega
  | m :: L, m' :: L', n, h, h', ⟨e1, n1, r1, c1⟩, ⟨e2, n2, r2, c2⟩ => by
    have e : m = m' := by omega
    subst e
    have e3 : n1 = n2 := by rw [r1] at r2; omega
    subst e3
    rw [HC_det L L' n1 (fun x hx => h x (by simp [hx])) (fun x hx => h' x (by simp [hx])) c1 c2]
theorem SL_keep {g g' : G} {v : Nat} : ∀ (L : List Nat) (p : Nat), (∀ m, m = p ∨ m ∈ L → g'.rd (.tw m v) = g.rd (.tw m v)) → SL g v p L → SL g' v p L
  | [], p, hk, h => (hk p (Or.inl rfl)).trans h
  | q :: L, p, hk, ⟨h1, h2⟩ => ⟨(hk p (Or.inl rfl)).trans h1, SL_keep L q (fun m hm => hk m (Or.inr (by rcases hm with h | h <;> simp [h]))) h2⟩
/-- What is loaded from a node of a chain: nothing, or a node of it. -/
theorem SL_next {g : G} {v : Nat} : ∀ (L : List Nat) (p q : Nat), SL g v p L → (q = p ∨ q ∈ L) → ∃ n : Nat, g.rd (.tw q v) = (n : Int) ∧ (n = 0 ∨ n ∈ L)
  | [], p, q, h, hq => by
    rcases hq with rfl | hq
    · exact ⟨0, h, Or.inl rfl⟩
    · simp at hq
  | x :: L, p, q, ⟨h1, h2⟩, hq => by
    by_cases e : q = p
    · subst e
      exact ⟨x, h1, Or.inr (by simp)⟩
    · have hq2 : q = x ∨ q ∈ L := by
        rcases hq with h | h
        · exact absurd h e
        · simpa using h
      obtain ⟨n, hn, hm⟩ := SL_next L x q h2 hq2
      exact ⟨n, hn, by rcases hm with h | h <;> simp [h]⟩
end Go.Proofs.YtmemkmnnededgaaDoor.H

namespace Go.Proofs.YtmemkmnnededgaaDoor.H
open Go.RowKit Go.Proofs.YtmemkmnnededgaaDoorW.PrintWords Go.Proofs.YtmemkmnnededgaaDoorW.PrintLast Go.Proofs.YtmemkmnnededgaaDoorW.PrintMore
set_option linter.unusedVariables false
set_option linter.unusedSimpArgs false

/-! ### The arena -/
theorem Ar.set_val (a : Ar) (c d : Nat) (v : Int) (h : c < a.has.length) : ({ a with has := a.has.set c v } : Ar).val d = if d = c then v else a.val d := by
  unfold Ar.val
  simp only [List.getD_eq_getElem?_getD, List.getElem?_set]
  by_cases e : c = d
  · subst e; simp [h]
  · rw [if_neg e, if_neg (fun h => e h.symm)]
theorem Ar.Wf.set {a : Ar} {k : Nat} (h : a.Wf k) (c : Nat) (v : Int) : ({ a with has := a.has.set c v } : Ar).Wf k :=
  ⟨h.wd_lt, fun d hd => by rw [List.length_set]; exact h.in_has d hd, h.low_full, by rw [List.length_set]; exact h.has_len, h.used_le, h.used_ge⟩
theorem Ar.Wf.mono {a : Ar} {k k' : Nat} (h : a.Wf k) (hk : k ≤ k') : a.Wf k' :=
  ⟨h.wd_lt, h.in_has, h.low_full, Nat.le_trans h.has_len hk, by have := h.used_le; omega, by have := h.used_ge; omega⟩
theorem entAt_old (l : List Ent) (e : Ent) (n : Nat) (h1 : 1 ≤ n) (h2 : n ≤ l.length) : entAt (l ++ [e]) n = entAt l n := by
  unfold entAt
  simp only [List.getD_eq_getElem?_getD]
  rw [List.getElem?_append_left (by omega)]
theorem entAt_new (l : List Ent) (e : Ent) : entAt (l ++ [e]) (l.length + 1) = e := by
  unfold entAt
  simp

/-! ### What holds of the state -/
structure GI (keys : List ByteArray) (g : G) (k : Nat) : Prop where
  ci : CI g
  wf : g.a.Wf k
  nb1 : 1 ≤ g.nb
  nb2 : g.nb ≤ 256
  kE : g.E + g.nb + 8 ≤ k
  kN : g.N + g.nb + 7 ≤ k
  hc : ∀ b, b < g.nb → ∃ n : Nat, g.rd (.hd b) = (n : Int) ∧ HC g (g.ch b) n
  hm : ∀ b, b < g.nb → ∀ m, m ∈ g.ch b → 1 ≤ m ∧ m ≤ g.E ∧ g.elv m = true ∧ bucketF (g.ekey m) g.nb = b
  hn : ∀ b, b < g.nb → ((g.ch b).map g.ekey).Nodup
  he : ∀ n, 1 ≤ n → n ≤ g.E → g.ekey n ∈ keys ∧ isKeyB (g.ekey n) = true
  s0 : 0 < g.N ∧ g.nlv 0 = true ∧ (g.ns 0).height = 8
  sl : ∀ v, v < 8 → SL g v 0 (g.lst v)
  sm : ∀ v, v < 8 → ∀ n, n ∈ g.lst v → 1 ≤ n ∧ n < g.N ∧ g.nlv n = true ∧ v < (g.ns n).height
  so : ∀ v, v < 8 → (g.lst v).Pairwise (fun m n => ltB (g.nkey m) (g.nkey n))
  ss : ∀ v, v < 7 → ∀ n, n ∈ g.lst (v + 1) → n ∈ g.lst v
  sn : ∀ n, 1 ≤ n → n < g.N → g.nkey n ∈ keys ∧ isKeyB (g.nkey n) = true ∧ (g.ns n).word = wordF (g.nkey n) ∧ 1 ≤ (g.ns n).height ∧ (g.ns n).height ≤ 8

/-! ### What holds of an operation; p: what it may still cost -/
structure HOwn (g : G) (o : Nat) (op : HOp) : Prop where
  h1 : 1 ≤ op.own
  h2 : op.own ≤ g.E
  lv : g.elv op.own = true
  key : g.ekey op.own = op.key
  own : g.eown op.own = o
  out : ∀ b, b < g.nb → op.own ∉ g.ch b
def G.bk (g : G) (key : ByteArray) : Nat := bucketF key g.nb
def HSt (g : G) (op : HOp) (p base : Nat) : Prop := base ≤ p ∧ (g.rd (.hd (g.bk op.key)) = (op.head : Int) ∨ base + 60 ≤ p)
inductive HPh (g : G) (op : HOp) (p : Nat) (L : List Nat) : Prop where
  | walk (h : op.next = 1) (L1 L2 : List Nat) (e : L = L1 ++ op.cur :: L2) (n1 : ∀ m, m ∈ L1 → g.ekey m ≠ op.key) (n2 : g.ekey op.cur ≠ op.key) (s : HSt g op p (74 + L2.length))
  | lay (h : op.next = 2) (h1 : 1 ≤ op.own) (n1 : ∀ m, m ∈ L → g.ekey m ≠ op.key) (s : HSt g op p 73)
  | swap (h : op.next = 3) (h1 : 1 ≤ op.own) (n1 : ∀ m, m ∈ L → g.ekey m ≠ op.key) (r : g.rd (.en op.own) = (op.head : Int)) (s : HSt g op p 72)
structure HOI (keys : List ByteArray) (g : G) (o : Nat) (op : HOp) (p : Nat) : Prop where
  key : op.key ∈ keys
  own : op.own = 0 ∨ HOwn g o op
  ph : (op.next = 0 ∧ 115 ≤ p) ∨ (isKeyB op.key = true ∧ ∃ L, HC g L op.head ∧ (∀ m, m ∈ L → m ∈ g.ch (g.bk op.key)) ∧ HPh g op p L)
structure Pair (g : G) (key : ByteArray) (i p s : Nat) : Prop where
  pred : p = 0 ∨ (p ∈ g.lst i ∧ ltB (g.nkey p) key)
  succ : s = 0 ∨ (s ∈ g.lst i ∧ ¬ ltB (g.nkey s) key)
structure SOwn (g : G) (o : Nat) (op : SOp) : Prop where
  h1 : 1 ≤ op.own
  h2 : op.own < g.N
  lv : g.nlv op.own = true
  key : g.nkey op.own = op.key
  hgt : (g.ns op.own).height = op.height
  own : g.nown op.own = o
  lt : op.linked < op.height
  ins : ∀ v, v < 8 → (op.own ∈ g.lst v ↔ v < op.linked)
def rank (keys : List ByteArray) (g : G) (p : Nat) : Nat := if p = 0 then 41 else (keys.filter (fun x => Op.bytesLess (g.nkey p).toList x.toList)).length
def SSt (g : G) (op : SOp) (I : Nat → Prop) (p base : Nat) : Prop := base ≤ p ∧ ((∀ i, i < 8 → I i → g.rd (.tw (op.preds i) i) = (op.succs i : Int)) ∨ base + 60 ≤ p)
inductive SPh (keys : List ByteArray) (g : G) (op : SOp) (p : Nat) : Prop where
  | walk (h : op.does = 0) (hl : op.level < 8) (hp : op.pred = 0 ∨ (op.pred ∈ g.lst op.level ∧ ltB (g.nkey op.pred) op.key)) (pr : ∀ i, i < 8 → op.level < i → Pair g op.key i (op.preds i) (op.succs i)) (s : SSt g op (fun i => op.level < i) p (4 + op.level + rank keys g op.pred + 70 * (op.height - op.linked)))
  | lay (h : op.does = 1) (h1 : 1 ≤ op.own) (pr : ∀ i, i < 8 → Pair g op.key i (op.preds i) (op.succs i)) (ne : op.linked = 0 → op.succs 0 = 0 ∨ g.nkey (op.succs 0) ≠ op.key) (s : SSt g op (fun i => op.linked ≤ i) p (3 + 70 * (op.height - op.linked)))
  | link (h : op.does = 2) (h1 : 1 ≤ op.own) (pr : ∀ i, i < 8 → Pair g op.key i (op.preds i) (op.succs i)) (ne : op.linked = 0 → op.succs 0 = 0 ∨ g.nkey (op.succs 0) ≠ op.key) (r : g.rd (.tw op.own op.linked) = (op.succs op.linked : Int)) (s : SSt g op (fun i => op.linked ≤ i) p (2 + 70 * (op.height - op.linked)))
structure SOI (keys : List ByteArray) (g : G) (o : Nat) (op : SOp) (p : Nat) : Prop where
  key : op.key ∈ keys
  word : op.word = wordF op.key
  g1 : 1 ≤ op.height
  g2 : op.height ≤ 8
  ph : (op.begun = false ∧ op.does = 0 ∧ op.own = 0 ∧ op.linked = 0 ∧ 620 ≤ p) ∨ (op.begun = true ∧ isKeyB op.key = true ∧ (op.own = 0 ∧ op.linked = 0 ∨ SOwn g o op) ∧ SPh keys g op p)

/-! ### What a step of the operation at block o leaves to the others -/
structure Le (o : Nat) (g g' : G) : Prop where
  heads : g'.heads = g.heads
  E : g.E ≤ g'.E
  ent : ∀ n, 1 ≤ n → n ≤ g.E → entAt g'.ents n = entAt g.ents n
  eown : ∀ n, 1 ≤ n → n ≤ g.E → g'.eown n = g.eown n
  elv : ∀ n, 1 ≤ n → n ≤ g.E → g.eown n ≠ o → g.elv n = true → g'.elv n = true
  ch : ∀ b m, m ∈ g.ch b → m ∈ g'.ch b
  ch' : ∀ b m, m ∈ g'.ch b → m ∈ g.ch b ∨ (1 ≤ m ∧ m ≤ g.E ∧ g.eown m = o)
  rde : ∀ b, b < g.nb → ∀ m, m ∈ g.ch b → g'.rd (.en m) = g.rd (.en m)
  rdo : ∀ n, 1 ≤ n → n ≤ g.E → g.elv n = true → g.eown n ≠ o → g'.rd (.en n) = g.rd (.en n)
  N : g.N ≤ g'.N
  node : ∀ n, n < g.N → g'.ns n = g.ns n
  nown : ∀ n, n < g.N → g'.nown n = g.nown n
  nlv : ∀ n, n < g.N → g.nown n ≠ o → g.nlv n = true → g'.nlv n = true
  lst : ∀ v, v < 8 → ∀ n, n ∈ g.lst v → n ∈ g'.lst v
  lst' : ∀ v, v < 8 → ∀ n, n ∈ g'.lst v → n ∈ g.lst v ∨ (n < g.N ∧ g.nown n = o)
  rdt : ∀ n v, n < g.N → g.nlv n = true → v < (g.ns n).height → g.nown n ≠ o → n ∉ g.lst v → n ≠ 0 → g'.rd (.tw n v) = g.rd (.tw n v)
structure Still (g g' : G) : Prop where
  hd : ∀ b, b < g.nb → g'.rd (.hd b) = g.rd (.hd b)
  tw : ∀ v, v < 8 → ∀ n, (n = 0 ∨ n ∈ g.lst v) → g'.rd (.tw n v) = g.rd (.tw n v)
theorem bk_lt {keys : List ByteArray} {g : G} {k : Nat} (h : GI keys g k) (key : ByteArray) : g.bk key < g.nb := Nat.mod_lt _ h.nb1
theorem Le.nb {o : Nat} {g g' : G} (h : Le o g g') : g'.nb = g.nb := by unfold G.nb; rw [h.heads]
theorem Le.bk {o : Nat} {g g' : G} (h : Le o g g') (key : ByteArray) : g'.bk key = g.bk key := by unfold G.bk; rw [h.nb]
theorem Le.ekey {o : Nat} {g g' : G} (h : Le o g g') (n : Nat) (h1 : 1 ≤ n) (h2 : n ≤ g.E) : g'.ekey n = g.ekey n := by unfold G.ekey; rw [h.ent n h1 h2]
theorem Le.nkey {o : Nat} {g g' : G} (h : Le o g g') (n : Nat) (h1 : n < g.N) : g'.nkey n = g.nkey n := by unfold G.nkey; rw [h.node n h1]

theorem HOI_keep {keys : List ByteArray} {g g' : G} {k o y p : Nat} {op : HOp} (gi : GI keys g k) (le : Le o g g') (hy : y ≠ o) (q : Nat) (hq : p ≤ q) (hst : Still g g' ∨ p + 60 ≤ q) (h : HOI keys g y op p) : HOI keys g' y op q := by
  have bl := bk_lt gi op.key
  have st : ∀ base, HSt g op p base → HSt g' op q base := by
    rintro base ⟨h1, h2⟩
    refine ⟨by omega, ?_⟩
    rcases hst with hs | hs
    · rcases h2 with h2 | h2
      · left
        rw [le.bk, hs.hd _ bl, h2]
      · right; omega
    · right; omega
  refine ⟨h.key, ?_, ?_⟩
  · rcases h.own with h0 | ho
    · exact Or.inl h0
    · refine Or.inr ⟨ho.h1, Nat.le_trans ho.h2 le.E, le.elv _ ho.h1 ho.h2 (by rw [ho.own]; exact hy) ho.lv, by rw [le.ekey _ ho.h1 ho.h2]; exact ho.key, by rw [le.eown _ ho.h1 ho.h2]; exact ho.own, fun b hb hm => ?_⟩
      rw [le.nb] at hb
      rcases le.ch' b _ hm with h2 | h2
      · exact ho.out b hb h2
      · exact hy (ho.own.symm.trans h2.2.2)
  · rcases h.ph with h0 | ⟨hk, L, hL, hm, hp⟩
    · exact Or.inl ⟨h0.1, by omega⟩
    · have hin : ∀ m, m ∈ L → 1 ≤ m ∧ m ≤ g.E := fun m hmL => ⟨(gi.hm _ bl m (hm m hmL)).1, (gi.hm _ bl m (hm m hmL)).2.1⟩
      have hke : ∀ m, m ∈ L → g'.ekey m = g.ekey m := fun m hmL => le.ekey m (hin m hmL).1 (hin m hmL).2
      refine Or.inr ⟨hk, L, HC_keep L _ (fun m hmL => le.rde _ bl m (hm m hmL)) hL, fun m hmL => by rw [le.bk]; exact le.ch _ _ (hm m hmL), ?_⟩
      cases hp with
      | walk h1 L1 L2 e n1 n2 s =>
        refine .walk h1 L1 L2 e (fun m hmL => ?_) ?_ (st _ s)
        · rw [hke m (by rw [e]; simp [hmL])]; exact n1 m hmL
        · rw [hke _ (by rw [e]; simp)]; exact n2
      | lay h1 h2 n1 s => exact .lay h1 h2 (fun m hmL => by rw [hke m hmL]; exact n1 m hmL) (st _ s)
      | swap h1 h2 n1 r s =>
        have ho := h.own.resolve_left (by omega)
        exact .swap h1 h2 (fun m hmL => by rw [hke m hmL]; exact n1 m hmL) ((le.rdo _ ho.h1 ho.h2 ho.lv (by rw [ho.own]; exact hy)).trans r) (st _ s)

theorem Pair.keep {keys : List ByteArray} {g g' : G} {k o i p s : Nat} {key : ByteArray} (gi : GI keys g k) (le : Le o g g') (hi : i < 8) (h : Pair g key i p s) : Pair g' key i p s := by
  refine ⟨?_, ?_⟩
  · rcases h.pred with h | ⟨h1, h2⟩
    · exact Or.inl h
    · exact Or.inr ⟨le.lst i hi _ h1, by rw [le.nkey _ (gi.sm i hi _ h1).2.1]; exact h2⟩
  · rcases h.succ with h | ⟨h1, h2⟩
    · exact Or.inl h
    · exact Or.inr ⟨le.lst i hi _ h1, by rw [le.nkey _ (gi.sm i hi _ h1).2.1]; exact h2⟩
theorem rank_keep {keys : List ByteArray} {g g' : G} {o p : Nat} (le : Le o g g') (hp : p < g.N) : rank keys g' p = rank keys g p := by
  unfold rank
  rw [le.nkey p hp]
theorem SSt.keep {keys : List ByteArray} {g g' : G} {k p q base : Nat} {op : SOp} {I : Nat → Prop} (gi : GI keys g k) (hq : p ≤ q) (hst : Still g g' ∨ p + 60 ≤ q) (pr : ∀ i, i < 8 → I i → Pair g op.key i (op.preds i) (op.succs i)) (h : SSt g op I p base) : SSt g' op I q base := by
  obtain ⟨h1, h2⟩ := h
  refine ⟨by omega, ?_⟩
  rcases hst with hs | hs
  · rcases h2 with h2 | h2
    · left
      intro i hi hI
      rw [hs.tw i hi _ ((pr i hi hI).pred.imp id (fun h => h.1)), h2 i hi hI]
    · right; omega
  · right; omega
theorem SOI_keep {keys : List ByteArray} {g g' : G} {k o y p : Nat} {op : SOp} (gi : GI keys g k) (le : Le o g g') (hy : y ≠ o) (q : Nat) (hq : p ≤ q) (hst : Still g g' ∨ p + 60 ≤ q) (h : SOI keys g y op p) : SOI keys g' y op q := by
  refine ⟨h.key, h.word, h.g1, h.g2, ?_⟩
  rcases h.ph with ⟨h1, h2, h3, h4, h5⟩ | ⟨hb, hk, ho, hp⟩
  · exact Or.inl ⟨h1, h2, h3, h4, by omega⟩
  · refine Or.inr ⟨hb, hk, ?_, ?_⟩
    · rcases ho with h0 | ho
      · exact Or.inl h0
      · refine Or.inr ⟨ho.h1, Nat.lt_of_lt_of_le ho.h2 le.N, le.nlv _ ho.h2 (by rw [ho.own]; exact hy) ho.lv, by rw [le.nkey _ ho.h2]; exact ho.key, by rw [le.node _ ho.h2]; exact ho.hgt, by rw [le.nown _ ho.h2]; exact ho.own, ho.lt, fun v hv => ?_⟩
        rw [← ho.ins v hv]
        constructor
        · intro hm
          rcases le.lst' v hv _ hm with h2 | h2
          · exact h2
          · exact absurd (ho.own.symm.trans h2.2) hy
        · exact le.lst v hv _
    · cases hp with
      | walk h1 hl hp pr s =>
        have hpN : op.pred < g.N := by
          rcases hp with h | h
          · rw [h]; exact gi.s0.1
          · exact (gi.sm _ hl _ h.1).2.1
        refine .walk h1 hl ?_ (fun i hi hI => (pr i hi hI).keep gi le hi) ?_
        · rcases hp with h | ⟨h1, h2⟩
          · exact Or.inl h
          · exact Or.inr ⟨le.lst _ hl _ h1, by rw [le.nkey _ hpN]; exact h2⟩
        · rw [rank_keep le hpN]
          exact s.keep gi hq hst pr
      | lay h1 h2 pr ne s =>
        refine .lay h1 h2 (fun i hi => (pr i hi).keep gi le hi) (fun h0 => ?_) (s.keep gi hq hst (fun i hi _ => pr i hi))
        rcases ne h0 with h | h
        · exact Or.inl h
        · rcases (pr 0 (by omega)).succ with h3 | h3
          · exact Or.inl h3
          · exact Or.inr (by rw [le.nkey _ (gi.sm 0 (by omega) _ h3.1).2.1]; exact h)
      | link h1 h2 pr ne r s =>
        have ho := ho.resolve_left (by omega)
        have hl8 : op.linked < 8 := by have := ho.lt; have := h.g2; omega
        refine .link h1 h2 (fun i hi => (pr i hi).keep gi le hi) (fun h0 => ?_) ?_ (s.keep gi hq hst (fun i hi _ => pr i hi))
        · rcases ne h0 with h | h
          · exact Or.inl h
          · rcases (pr 0 (by omega)).succ with h3 | h3
            · exact Or.inl h3
            · exact Or.inr (by rw [le.nkey _ (gi.sm 0 (by omega) _ h3.1).2.1]; exact h)
        · refine (le.rdt _ _ ho.h2 ho.lv (by rw [ho.hgt]; exact ho.lt) (by rw [ho.own]; exact hy) (fun hm => ?_) (by omega)).trans r
          have := (ho.ins _ hl8).1 hm
          omega
end Go.Proofs.YtmemkmnnededgaaDoor.H

namespace Go.Proofs.YtmemkmnnededgaaDoor.H
open Go.RowKit Go.Proofs.YtmemkmnnededgaaDoorW.PrintWords Go.Proofs.YtmemkmnnededgaaDoorW.PrintLast Go.Proofs.YtmemkmnnededgaaDoorW.PrintMore
set_option linter.unusedVariables false
set_option linter.unusedSimpArgs false

/-- A cell that belongs to o's operation alone: no chain comes there. -/
def Priv (o : Nat) (g : G) : Ow → Prop
  | .hd _ => False
  | .en n => g.eown n = o ∧ ∀ b, b < g.nb → n ∉ g.ch b
  | .tw n v => g.nown n = o ∧ n ∉ g.lst v ∧ n ≠ 0
structure Qm (keys : List ByteArray) (o : Nat) (g g' : G) : Prop where
  heads : g'.heads = g.heads
  ch : g'.ch = g.ch
  lst : g'.lst = g.lst
  E : g.E ≤ g'.E
  ent : ∀ n, 1 ≤ n → n ≤ g.E → entAt g'.ents n = entAt g.ents n
  entn : ∀ n, g.E < n → n ≤ g'.E → g'.ekey n ∈ keys ∧ isKeyB (g'.ekey n) = true
  eown : ∀ n, 1 ≤ n → n ≤ g.E → g'.eown n = g.eown n
  elv : ∀ n, 1 ≤ n → n ≤ g.E → g.elv n = true → ¬ Priv o g (.en n) → g'.elv n = true
  N : g.N ≤ g'.N
  node : ∀ n, n < g.N → g'.ns n = g.ns n
  noden : ∀ n, g.N ≤ n → n < g'.N → g'.nkey n ∈ keys ∧ isKeyB (g'.nkey n) = true ∧ (g'.ns n).word = wordF (g'.nkey n) ∧ 1 ≤ (g'.ns n).height ∧ (g'.ns n).height ≤ 8
  nown : ∀ n, n < g.N → g'.nown n = g.nown n
  nlv : ∀ n, n < g.N → g.nlv n = true → (g.nown n ≠ o ∨ n = 0 ∨ ∃ v, v < 8 ∧ n ∈ g.lst v) → g'.nlv n = true
  rd : ∀ y, g.live y → ¬ Priv o g y → g'.rd y = g.rd y
section
variable {keys : List ByteArray} {g g' : G} {k k' o : Nat}
theorem GI.l_hd (gi : GI keys g k) {b : Nat} (hb : b < g.nb) : g.live (.hd b) := hb
theorem GI.l_en (gi : GI keys g k) {b m : Nat} (hb : b < g.nb) (hm : m ∈ g.ch b) : g.live (.en m) :=
  ⟨(gi.hm b hb m hm).1, (gi.hm b hb m hm).2.1, (gi.hm b hb m hm).2.2.1⟩
theorem GI.l_tw (gi : GI keys g k) {v n : Nat} (hv : v < 8) (hn : n = 0 ∨ n ∈ g.lst v) : g.live (.tw n v) := by
  rcases hn with h | h
  · subst h; exact ⟨gi.s0.1, gi.s0.2.1, by rw [gi.s0.2.2]; exact hv⟩
  · exact ⟨(gi.sm v hv n h).2.1, (gi.sm v hv n h).2.2.1, (gi.sm v hv n h).2.2.2⟩
theorem np_hd {b : Nat} : ¬ Priv o g (.hd b) := id
theorem np_en {b m : Nat} (hb : b < g.nb) (hm : m ∈ g.ch b) : ¬ Priv o g (.en m) := fun h => h.2 b hb hm
theorem np_tw {v n : Nat} (hn : n = 0 ∨ n ∈ g.lst v) : ¬ Priv o g (.tw n v) := fun h => hn.elim h.2.2 h.2.1
theorem Qm.le (q : Qm keys o g g') (gi : GI keys g k) : Le o g g' where
  heads := q.heads
  E := q.E
  ent := q.ent
  eown := q.eown
  elv n h1 h2 h3 h4 := q.elv n h1 h2 h4 (fun h => h3 h.1)
  ch b m hm := by rw [q.ch]; exact hm
  ch' b m hm := by rw [q.ch] at hm; exact Or.inl hm
  rde b hb m hm := q.rd _ (gi.l_en hb hm) (np_en hb hm)
  rdo n h1 h2 h3 h4 := q.rd (.en n) ⟨h1, h2, h3⟩ (fun h => h4 h.1)
  N := q.N
  node := q.node
  nown := q.nown
  nlv n h1 h2 h3 := q.nlv n h1 h3 (Or.inl h2)
  lst v hv n hn := by rw [q.lst]; exact hn
  lst' v hv n hn := by rw [q.lst] at hn; exact Or.inl hn
  rdt n v h1 h2 h3 h4 h5 h6 := q.rd (.tw n v) ⟨h1, h2, h3⟩ (fun h => h4 h.1)
theorem Qm.still (q : Qm keys o g g') (gi : GI keys g k) : Still g g' where
  hd b hb := q.rd _ (gi.l_hd hb) np_hd
  tw v hv n hn := q.rd _ (gi.l_tw hv hn) (np_tw hn)
theorem Qm.gi (q : Qm keys o g g') (gi : GI keys g k) (ci : CI g') (wf : g'.a.Wf k') (kE : g'.E + g.nb + 8 ≤ k') (kN : g'.N + g.nb + 7 ≤ k') : GI keys g' k' := by
  have le := q.le gi
  have nb := le.nb
  refine ⟨ci, wf, by rw [nb]; exact gi.nb1, by rw [nb]; exact gi.nb2, by rw [nb]; exact kE, by rw [nb]; exact kN, ?_, ?_, ?_, ?_, ?_, ?_, ?_, ?_, ?_, ?_⟩
  · intro b hb
    rw [nb] at hb
    obtain ⟨n, h1, h2⟩ := gi.hc b hb
    exact ⟨n, ((q.still gi).hd b hb).trans h1, by rw [q.ch]; exact HC_keep _ _ (fun m hm => le.rde b hb m hm) h2⟩
  · intro b hb m hm
    rw [nb] at hb
    rw [q.ch] at hm
    obtain ⟨h1, h2, h3, h4⟩ := gi.hm b hb m hm
    exact ⟨h1, Nat.le_trans h2 q.E, q.elv m h1 h2 h3 (np_en hb hm), by rw [le.ekey m h1 h2, nb]; exact h4⟩
  · intro b hb
    rw [nb] at hb
    have : (g'.ch b).map g'.ekey = (g.ch b).map g.ekey := by
      rw [q.ch]
      exact List.map_congr_left (fun m hm => le.ekey m (gi.hm b hb m hm).1 (gi.hm b hb m hm).2.1)
    rw [this]
    exact gi.hn b hb
  · intro n h1 h2
    by_cases h : n ≤ g.E
    · rw [le.ekey n h1 h]; exact gi.he n h1 h
    · exact q.entn n (by omega) h2
  · exact ⟨Nat.lt_of_lt_of_le gi.s0.1 q.N, q.nlv 0 gi.s0.1 gi.s0.2.1 (Or.inr (Or.inl rfl)), by rw [q.node 0 gi.s0.1]; exact gi.s0.2.2⟩
  · intro v hv
    rw [q.lst]
    exact SL_keep _ _ (fun m hm => (q.still gi).tw v hv m hm) (gi.sl v hv)
  · intro v hv n hn
    rw [q.lst] at hn
    obtain ⟨h1, h2, h3, h4⟩ := gi.sm v hv n hn
    exact ⟨h1, Nat.lt_of_lt_of_le h2 q.N, q.nlv n h2 h3 (Or.inr (Or.inr ⟨v, hv, hn⟩)), by rw [q.node n h2]; exact h4⟩
  · intro v hv
    rw [q.lst]
    refine (gi.so v hv).imp_of_mem (fun {m n} hm hn h => ?_)
    rw [le.nkey m (gi.sm v hv m hm).2.1, le.nkey n (gi.sm v hv n hn).2.1]
    exact h
  · intro v hv n hn
    rw [q.lst] at *
    exact gi.ss v hv n hn
  · intro n h1 h2
    by_cases h : n < g.N
    · rw [le.nkey n h, q.node n h]; exact gi.sn n h1 h
    · exact q.noden n (by omega) h2
end

/-! ### An entry is taken -/
def G.addE (g : G) (o : Nat) (a' : Ar) (e : Ent) : G := { g with a := a', ents := g.ents ++ [e], eown := upN g.eown (g.E + 1) o, elv := upN g.elv (g.E + 1) true }
theorem upN_ne {α : Type} (f : Nat → α) (i j : Nat) (x : α) (h : j ≠ i) : upN f i x j = f j := by unfold upN; rw [if_neg h]
theorem upN_eq {α : Type} (f : Nat → α) (i : Nat) (x : α) : upN f i x i = x := by unfold upN; rw [if_pos rfl]
section
variable {keys : List ByteArray} {g : G} {k o : Nat} {a' : Ar} {e : Ent}
theorem addE_E : (g.addE o a' e).E = g.E + 1 := by simp [G.addE, G.E]
theorem addE_live (y : Ow) (h : g.live y) : (g.addE o a' e).live y ∧ (g.addE o a' e).cell y = g.cell y := by
  cases y with
  | hd b => exact ⟨h, rfl⟩
  | en n =>
    obtain ⟨h1, h2, h3⟩ := h
    refine ⟨⟨h1, ?_, ?_⟩, ?_⟩
    · have := addE_E (g := g) (o := o) (a' := a') (e := e); unfold G.E at this; rw [this]; omega
    · show upN g.elv (g.E + 1) true n = true
      rw [upN_ne _ _ _ _ (by unfold G.E; omega)]; exact h3
    · show (entAt (g.ents ++ [e]) n).next = _
      rw [entAt_old _ _ _ h1 h2]; rfl
  | tw n l => exact ⟨h, rfl⟩
theorem addE_live' (y : Ow) (h : (g.addE o a' e).live y) : g.live y ∨ y = .en (g.E + 1) := by
  cases y with
  | hd b => exact Or.inl h
  | en n =>
    obtain ⟨h1, h2, h3⟩ := h
    have h2' : n ≤ g.E + 1 := by have h5 : n ≤ (g.addE o a' e).E := h2; rw [addE_E] at h5; exact h5
    by_cases hn : n = g.E + 1
    · right; rw [hn]
    · refine Or.inl ⟨h1, by unfold G.E at *; omega, ?_⟩
      have h3' : upN g.elv (g.E + 1) true n = true := h3
      rw [upN_ne _ _ _ _ hn] at h3'
      exact h3'
  | tw n l => exact Or.inl h
theorem addE_new : (g.addE o a' e).cell (.en (g.E + 1)) = e.next := by
  show (entAt (g.ents ++ [e]) (g.ents.length + 1)).next = _
  rw [entAt_new]
theorem addE_ok (gi : GI keys g k) (hw : a'.Wf (k + 1)) (h1 : g.a.tk e.next = false) (h2 : ∀ d, a'.tk d = (d == e.next || g.a.tk d)) (h3 : ∀ d, g.a.tk d = true → a'.val d = g.a.val d) (hk : e.key ∈ keys) (hk2 : isKeyB e.key = true) :
    Qm keys o g (g.addE o a' e) ∧ GI keys (g.addE o a' e) (k + 1) := by
  have q : Qm keys o g (g.addE o a' e) := by
    refine ⟨rfl, rfl, rfl, by rw [addE_E]; omega, fun n h1 h2 => entAt_old _ _ _ h1 h2, ?_, ?_, ?_, Nat.le_refl _, fun _ _ => rfl, ?_, fun _ _ => rfl, fun n h1 h2 _ => h2, ?_⟩
    · intro n hn1 hn2
      rw [addE_E] at hn2
      have : n = g.ents.length + 1 := by unfold G.E at *; omega
      have e2 : (g.addE o a' e).ekey n = e.key := by
        show (entAt (g.ents ++ [e]) n).key = _
        rw [this, entAt_new]
      rw [e2]; exact ⟨hk, hk2⟩
    · intro n hn1 hn2
      exact upN_ne _ _ _ _ (by omega)
    · intro n hn1 hn2 hl _
      show upN g.elv (g.E + 1) true n = true
      rw [upN_ne _ _ _ _ (by omega)]; exact hl
    · intro n hn1 hn2
      have : (g.addE o a' e).N = g.N := rfl
      omega
    · intro y hy _
      show a'.val ((g.addE o a' e).cell y) = g.a.val (g.cell y)
      rw [(addE_live y hy).2]
      exact h3 _ (gi.ci.tk y hy)
  refine ⟨q, q.gi gi ⟨?_, ?_⟩ hw ?_ ?_⟩
  · intro y hy
    show a'.tk _ = true
    rw [h2]
    rcases addE_live' y hy with h | rfl
    · rw [(addE_live y h).2, gi.ci.tk y h]; simp
    · rw [addE_new]; simp
  · intro x y hx hy hxy
    rcases addE_live' x hx with h | rfl
    · rcases addE_live' y hy with h' | rfl
      · rw [(addE_live x h).2, (addE_live y h').2] at hxy
        exact gi.ci.inj x y h h' hxy
      · rw [(addE_live x h).2, addE_new] at hxy
        have := gi.ci.tk x h
        rw [hxy, h1] at this
        cases this
    · rcases addE_live' y hy with h' | rfl
      · rw [(addE_live y h').2, addE_new] at hxy
        have := gi.ci.tk y h'
        rw [← hxy, h1] at this
        cases this
      · rfl
  · rw [addE_E]; have := gi.kE; omega
  · have := gi.kN
    show g.N + _ + _ ≤ _
    omega
end

/-! ### An entry is given back -/
def G.delE (g : G) (a' : Ar) (n : Nat) : G := { g with a := a', elv := upN g.elv n false }
section
variable {keys : List ByteArray} {g : G} {k o n : Nat} {a' : Ar}
theorem delE_live' (y : Ow) (h : (g.delE a' n).live y) : g.live y ∧ y ≠ .en n := by
  cases y with
  | hd b => exact ⟨h, fun e => by cases e⟩
  | en m =>
    obtain ⟨h1, h2, h3⟩ := h
    have h3' : upN g.elv n false m = true := h3
    by_cases hm : m = n
    · subst hm; rw [upN_eq] at h3'; cases h3'
    · rw [upN_ne _ _ _ _ hm] at h3'
      exact ⟨⟨h1, h2, h3'⟩, fun e => hm (by injection e)⟩
  | tw m l => exact ⟨h, fun e => by cases e⟩
theorem delE_ok (gi : GI keys g k) (hw : a'.Wf (k + 1)) (hl : g.live (.en n)) (hp : Priv o g (.en n)) (h2 : ∀ d, a'.tk d = (d != g.cell (.en n) && g.a.tk d)) (h3 : ∀ d, a'.val d = g.a.val d) :
    Qm keys o g (g.delE a' n) ∧ GI keys (g.delE a' n) (k + 1) := by
  have q : Qm keys o g (g.delE a' n) := by
    refine ⟨rfl, rfl, rfl, Nat.le_refl _, fun _ _ _ => rfl, fun m h1 h2 => ?_, fun _ _ _ => rfl, fun m h1 h2 h3 h4 => ?_, Nat.le_refl _, fun _ _ => rfl, fun m h1 h2 => ?_, fun _ _ => rfl, fun m h1 h2 _ => h2, fun y hy _ => h3 _⟩
    · have : (g.delE a' n).E = g.E := rfl
      omega
    · show upN g.elv n false m = true
      rw [upN_ne _ _ _ _ (fun e => h4 (by rw [e]; exact hp))]; exact h3
    · have : (g.delE a' n).N = g.N := rfl
      omega
  refine ⟨q, q.gi gi ⟨fun y hy => ?_, fun x y hx hy h => gi.ci.inj x y (delE_live' x hx).1 (delE_live' y hy).1 h⟩ hw (by have := gi.kE; show g.E + _ + _ ≤ _; omega) (by have := gi.kN; show g.N + _ + _ ≤ _; omega)⟩
  obtain ⟨h4, h5⟩ := delE_live' y hy
  show a'.tk (g.cell y) = true
  rw [h2, gi.ci.tk y h4]
  have : g.cell y ≠ g.cell (.en n) := fun e => h5 (gi.ci.inj _ _ h4 hl e)
  simp [this]
end

/-! ### A cell of one's own is written -/
def G.put (g : G) (x : Ow) (v : Int) : G := { g with a := { g.a with has := g.a.has.set (g.cell x) v } }
section
variable {keys : List ByteArray} {g : G} {k o : Nat} {x : Ow} {v : Int}
theorem put_rd (ci : CI g) (wf : g.a.Wf k) (hx : g.live x) (y : Ow) (hy : g.live y) : (y = x → (g.put x v).rd y = v) ∧ (y ≠ x → (g.put x v).rd y = g.rd y) := by
  have hc := wf.in_has _ (ci.tk x hx)
  constructor
  · rintro rfl
    show Ar.val { g.a with has := _ } (g.cell y) = v
    rw [Ar.set_val _ _ _ _ hc, if_pos rfl]
  · intro hne
    show Ar.val { g.a with has := _ } (g.cell y) = g.a.val (g.cell y)
    rw [Ar.set_val _ _ _ _ hc, if_neg (fun e => hne (ci.inj _ _ hy hx e))]
theorem put_ci (ci : CI g) : CI (g.put x v) := ⟨fun y hy => ci.tk y hy, fun y z hy hz h => ci.inj y z hy hz h⟩
theorem put_ok (gi : GI keys g k) (hl : g.live x) (hp : Priv o g x) : Qm keys o g (g.put x v) ∧ GI keys (g.put x v) k := by
  have q : Qm keys o g (g.put x v) := by
    refine ⟨rfl, rfl, rfl, Nat.le_refl _, fun _ _ _ => rfl, fun m h1 h2 => ?_, fun _ _ _ => rfl, fun m h1 h2 h3 h4 => h3, Nat.le_refl _, fun _ _ => rfl, fun m h1 h2 => ?_, fun _ _ => rfl, fun m h1 h2 _ => h2, fun y hy hn => (put_rd gi.ci gi.wf hl y hy).2 (fun e => hn (by rw [e]; exact hp))⟩
    · have : (g.put x v).E = g.E := rfl
      omega
    · have : (g.put x v).N = g.N := rfl
      omega
  exact ⟨q, q.gi gi (put_ci gi.ci) (gi.wf.set _ _) gi.kE gi.kN⟩
end
end Go.Proofs.YtmemkmnnededgaaDoor.H

namespace Go.Proofs.YtmemkmnnededgaaDoor.H
open Go.RowKit Go.Proofs.YtmemkmnnededgaaDoorW.PrintWords Go.Proofs.YtmemkmnnededgaaDoorW.PrintLast Go.Proofs.YtmemkmnnededgaaDoorW.PrintMore
set_option linter.unusedVariables false
set_option linter.unusedSimpArgs false

/-! ### A node is taken -/
def G.addN (g : G) (o : Nat) (a' : Ar) (b : Nat) (x : SNode) : G := { g with a := a', bs := g.bs ++ [b], ns := upNode g.ns g.N x, nown := upN g.nown g.N o, nlv := upN g.nlv g.N true }
section
variable {keys : List ByteArray} {g : G} {k o b : Nat} {a' : Ar} {x : SNode} {cs : List Nat}
theorem addN_N : (g.addN o a' b x).N = g.N + 1 := by simp [G.addN, G.N]
theorem upNode_ne (ns : Nat → SNode) (n i : Nat) (x : SNode) (h : i ≠ n) : upNode ns n x i = ns i := by unfold upNode; rw [if_neg h]
theorem upNode_eq (ns : Nat → SNode) (n : Nat) (x : SNode) : upNode ns n x n = x := by unfold upNode; rw [if_pos rfl]
theorem addN_live (y : Ow) (h : g.live y) : (g.addN o a' b x).live y ∧ (g.addN o a' b x).cell y = g.cell y := by
  cases y with
  | hd b => exact ⟨h, rfl⟩
  | en n => exact ⟨h, rfl⟩
  | tw n l =>
    obtain ⟨h1, h2, h3⟩ := h
    have hne : n ≠ g.N := by unfold G.N; omega
    have e : (g.addN o a' b x).ns n = g.ns n := upNode_ne _ _ _ _ hne
    refine ⟨⟨?_, ?_, ?_⟩, ?_⟩
    · have : n < (g.addN o a' b x).N := by rw [addN_N]; have : n < g.N := h1; omega
      exact this
    · show upN g.nlv g.N true n = true
      rw [upN_ne _ _ _ _ hne]; exact h2
    · rw [e]; exact h3
    · show ((g.addN o a' b x).ns n).tower l = _
      rw [e]; rfl
theorem addN_live' (y : Ow) (h : (g.addN o a' b x).live y) : g.live y ∨ ∃ l, y = .tw g.N l ∧ l < x.height := by
  cases y with
  | hd b => exact Or.inl h
  | en n => exact Or.inl h
  | tw n l =>
    obtain ⟨h1, h2, h3⟩ := h
    have h1' : n < g.N + 1 := by have h5 : n < (g.addN o a' b x).N := h1; rw [addN_N] at h5; exact h5
    by_cases hn : n = g.N
    · subst hn
      refine Or.inr ⟨l, rfl, ?_⟩
      have e : (g.addN o a' b x).ns g.N = x := upNode_eq _ _ _
      rw [e] at h3; exact h3
    · have e : (g.addN o a' b x).ns n = g.ns n := upNode_ne _ _ _ _ hn
      have h2' : upN g.nlv g.N true n = true := h2
      rw [upN_ne _ _ _ _ hn] at h2'
      rw [e] at h3
      exact Or.inl ⟨by have : n < g.N := by omega
                       exact this, h2', h3⟩
theorem addN_new (l : Nat) : (g.addN o a' b x).cell (.tw g.N l) = x.tower l := by
  show ((g.addN o a' b x).ns g.N).tower l = _
  have e : (g.addN o a' b x).ns g.N = x := upNode_eq _ _ _
  rw [e]
theorem with_tower (y : SNode) (l : Nat) (h : l < cs.length) : (y.with cs).tower l = cs[l] := by
  unfold SNode.with
  simp [h]
theorem addN_ok (gi : GI keys g k) (y : SNode) (n : Nat) (hx : x = y.with cs) (hn : y.height = n) (hcs : cs.length = n) (hn1 : 1 ≤ n) (hn8 : n ≤ 8) (hw : a'.Wf (k + n)) (hf : Fresh g.a a' cs) (hk : y.key ∈ keys) (hk2 : isKeyB y.key = true) (hwd : y.word = wordF y.key) :
    Qm keys o g (g.addN o a' b x) ∧ GI keys (g.addN o a' b x) (k + n) := by
  have xh : x.height = n := by rw [hx]; exact hn
  have xk : x.key = y.key := by rw [hx]; rfl
  have xw : x.word = y.word := by rw [hx]; rfl
  have xt : ∀ l, l < n → ∃ h : l < cs.length, x.tower l = cs[l] := fun l hl => by
    have h5 : l < cs.length := by omega
    refine ⟨h5, ?_⟩
    subst hx
    exact with_tower y l h5
  have q : Qm keys o g (g.addN o a' b x) := by
    refine ⟨rfl, rfl, rfl, Nat.le_refl _, fun _ _ _ => rfl, fun m h1 h2 => ?_, fun _ _ _ => rfl, fun m h1 h2 h3 h4 => h3, by rw [addN_N]; omega, fun m hm => upNode_ne _ _ _ _ (by omega), fun m h1 h2 => ?_, fun m hm => upN_ne _ _ _ _ (by omega), fun m h1 h2 _ => ?_, fun z hz _ => ?_⟩
    · have : (g.addN o a' b x).E = g.E := rfl
      omega
    · rw [addN_N] at h2
      have : m = g.N := by omega
      subst this
      have e : (g.addN o a' b x).ns g.N = x := upNode_eq _ _ _
      unfold G.nkey
      rw [e, xk, xw, xh]
      exact ⟨hk, hk2, hwd, hn1, hn8⟩
    · show upN g.nlv g.N true m = true
      rw [upN_ne _ _ _ _ (by omega)]; exact h2
    · show a'.val ((g.addN o a' b x).cell z) = g.a.val (g.cell z)
      rw [(addN_live z hz).2]
      exact hf.val _ (gi.ci.tk z hz)
  refine ⟨q, q.gi gi ⟨?_, ?_⟩ hw ?_ ?_⟩
  · intro z hz
    show a'.tk _ = true
    rw [hf.tk]
    rcases addN_live' z hz with h | ⟨l, rfl, hl⟩
    · rw [(addN_live z h).2, gi.ci.tk z h]; simp
    · obtain ⟨h5, h6⟩ := xt l (by omega)
      rw [addN_new, h6]; simp
  · have nm : ∀ z l, g.live z → l < n → g.cell z ≠ x.tower l := by
      intro z l hz hl e
      obtain ⟨h5, h6⟩ := xt l hl
      have h7 := hf.new cs[l] (List.getElem_mem h5)
      rw [← h6, ← e, gi.ci.tk z hz] at h7
      cases h7
    intro z z' hz hz' h
    rcases addN_live' z hz with h1 | ⟨l, rfl, hl⟩
    · rcases addN_live' z' hz' with h2 | ⟨l', rfl, hl'⟩
      · rw [(addN_live z h1).2, (addN_live z' h2).2] at h
        exact gi.ci.inj z z' h1 h2 h
      · rw [(addN_live z h1).2, addN_new] at h
        exact absurd h (nm z l' h1 (by omega))
    · rcases addN_live' z' hz' with h2 | ⟨l', rfl, hl'⟩
      · rw [(addN_live z' h2).2, addN_new] at h
        exact absurd h.symm (nm z' l h2 (by omega))
      · rw [addN_new, addN_new] at h
        obtain ⟨h5, h6⟩ := xt l (by omega)
        obtain ⟨h7, h8⟩ := xt l' (by omega)
        rw [h6, h8] at h
        have : l = l' := (List.getElem_inj hf.nodup).1 h
        rw [this]
  · have := gi.kE
    show g.E + _ + _ ≤ _
    omega
  · rw [addN_N]
    have := gi.kN
    omega
end

/-! ### A node is given back -/
def G.delN (g : G) (a' : Ar) (n : Nat) : G := { g with a := a', nlv := upN g.nlv n false }
section
variable {keys : List ByteArray} {g : G} {k o n : Nat} {a' : Ar}
theorem delN_live' (y : Ow) (h : (g.delN a' n).live y) : g.live y ∧ ∀ l, y ≠ .tw n l := by
  cases y with
  | hd b => exact ⟨h, fun l e => by cases e⟩
  | en m => exact ⟨h, fun l e => by cases e⟩
  | tw m l =>
    obtain ⟨h1, h2, h3⟩ := h
    have h2' : upN g.nlv n false m = true := h2
    by_cases hm : m = n
    · subst hm; rw [upN_eq] at h2'; cases h2'
    · rw [upN_ne _ _ _ _ hm] at h2'
      exact ⟨⟨h1, h2', h3⟩, fun l' e => hm (by injection e)⟩
theorem delN_ok (gi : GI keys g k) (hn : n < g.N) (hl : g.nlv n = true) (hw : a'.Wf (k + (g.ns n).height)) (h0 : n ≠ 0) (ho : g.nown n = o) (hp : ∀ v, v < 8 → n ∉ g.lst v) (hg : Gone g.a a' (towerL (g.ns n) (g.ns n).height)) :
    Qm keys o g (g.delN a' n) ∧ GI keys (g.delN a' n) (k + (g.ns n).height) := by
  have q : Qm keys o g (g.delN a' n) := by
    refine ⟨rfl, rfl, rfl, Nat.le_refl _, fun _ _ _ => rfl, fun m h1 h2 => ?_, fun _ _ _ => rfl, fun m h1 h2 h3 h4 => h3, Nat.le_refl _, fun _ _ => rfl, fun m h1 h2 => ?_, fun _ _ => rfl, fun m h1 h2 h3 => ?_, fun y hy _ => hg.val _⟩
    · have : (g.delN a' n).E = g.E := rfl
      omega
    · have : (g.delN a' n).N = g.N := rfl
      omega
    · show upN g.nlv n false m = true
      rw [upN_ne _ _ _ _ (fun e => ?_)]
      · exact h2
      · subst e
        rcases h3 with h | h | ⟨v, hv, h⟩
        · exact h ho
        · exact h0 h
        · exact hp v hv h
  refine ⟨q, q.gi gi ⟨fun y hy => ?_, fun x y hx hy h => gi.ci.inj x y (delN_live' x hx).1 (delN_live' y hy).1 h⟩ hw (by have := gi.kE; show g.E + _ + _ ≤ _; omega) (by have := gi.kN; show g.N + _ + _ ≤ _; omega)⟩
  obtain ⟨h4, h5⟩ := delN_live' y hy
  show a'.tk (g.cell y) = true
  rw [hg.tk, gi.ci.tk y h4]
  have : g.cell y ∉ towerL (g.ns n) (g.ns n).height := by
    intro hm
    unfold towerL at hm
    obtain ⟨l, hl1, hl2⟩ := List.mem_map.1 hm
    have hl3 : l < (g.ns n).height := by simpa using hl1
    exact h5 l (gi.ci.inj y (.tw n l) h4 ⟨hn, hl, hl3⟩ hl2.symm)
  simp [this]
/-- A tower's cells differ. -/
theorem tower_nodup (gi : GI keys g k) (hn : n < g.N) (hl : g.nlv n = true) : (towerL (g.ns n) (g.ns n).height).Nodup := by
  unfold towerL
  unfold List.Nodup
  rw [List.pairwise_map]
  refine List.Pairwise.imp_of_mem (fun {i j} hi hj hij e => ?_) (List.nodup_range (n := (g.ns n).height))
  have := gi.ci.inj (.tw n i) (.tw n j) ⟨hn, hl, by simpa using hi⟩ ⟨hn, hl, by simpa using hj⟩ e
  injection this with _ this
  exact hij this
end

/-! ### An entry is linked -/
def G.linkE (g : G) (b n : Nat) : G := { g.put (.hd b) n with ch := upN g.ch b (n :: g.ch b) }
section
variable {keys : List ByteArray} {g : G} {k o n b h : Nat}
theorem linkE_ok (gi : GI keys g k) (hb : b < g.nb) (h1 : 1 ≤ n) (h2 : n ≤ g.E) (hl : g.elv n = true) (ho : g.eown n = o) (hp : ∀ b, b < g.nb → n ∉ g.ch b) (hbk : bucketF (g.ekey n) g.nb = b) (r1 : g.rd (.hd b) = (h : Int)) (r2 : g.rd (.en n) = (h : Int)) (hk : ∀ m, m ∈ g.ch b → g.ekey m ≠ g.ekey n) :
    Le o g (g.linkE b n) ∧ GI keys (g.linkE b n) k := by
  have ru : ∀ y, g.live y → y ≠ .hd b → (g.linkE b n).rd y = g.rd y := fun y hy hne => (put_rd gi.ci gi.wf (x := .hd b) hb y hy).2 hne
  have rs : (g.linkE b n).rd (.hd b) = (n : Int) := (put_rd gi.ci gi.wf (x := .hd b) hb (.hd b) hb).1 rfl
  have chb : ∀ b' m, m ∈ (g.linkE b n).ch b' → m ∈ g.ch b' ∨ (b' = b ∧ m = n) := by
    intro b' m hm
    have hm' : m ∈ upN g.ch b (n :: g.ch b) b' := hm
    by_cases e : b' = b
    · subst e
      rw [upN_eq] at hm'
      rcases List.mem_cons.1 hm' with h | h
      · exact Or.inr ⟨rfl, h⟩
      · exact Or.inl h
    · rw [upN_ne _ _ _ _ e] at hm'
      exact Or.inl hm'
  have len : g.live (.en n) := ⟨h1, h2, hl⟩
  refine ⟨?_, ?_⟩
  · refine ⟨rfl, Nat.le_refl _, fun _ _ _ => rfl, fun _ _ _ => rfl, fun m h1 h2 h3 h4 => h4, ?_, ?_, ?_, ?_, Nat.le_refl _, fun _ _ => rfl, fun _ _ => rfl, fun m h1 h2 h3 => h3, fun v hv m hm => hm, fun v hv m hm => Or.inl hm, ?_⟩
    · intro b' m hm
      show m ∈ upN g.ch b (n :: g.ch b) b'
      by_cases e : b' = b
      · subst e
        rw [upN_eq]; simp [hm]
      · rw [upN_ne _ _ _ _ e]; exact hm
    · intro b' m hm
      rcases chb b' m hm with h | ⟨_, h⟩
      · exact Or.inl h
      · subst h; exact Or.inr ⟨h1, h2, ho⟩
    · intro b' hb' m hm
      exact ru _ (gi.l_en hb' hm) (fun e => by cases e)
    · intro m h1 h2 h3 h4
      exact ru (.en m) ⟨h1, h2, h3⟩ (fun e => by cases e)
    · intro m v h1 h2 h3 h4 h5 h6
      exact ru (.tw m v) ⟨h1, h2, h3⟩ (fun e => by cases e)
  · refine ⟨⟨fun y hy => gi.ci.tk y hy, fun y z hy hz h => gi.ci.inj y z hy hz h⟩, gi.wf.set _ _, gi.nb1, gi.nb2, gi.kE, gi.kN, ?_, ?_, ?_, gi.he, gi.s0, ?_, gi.sm, gi.so, gi.ss, gi.sn⟩
    · intro b' hb'
      by_cases e : b' = b
      · subst e
        refine ⟨n, rs, ?_⟩
        show HC _ (upN g.ch b' (n :: g.ch b') b') n
        rw [upN_eq]
        obtain ⟨h', r', c'⟩ := gi.hc b' hb
        have : h' = h := by rw [r'] at r1; omega
        subst this
        exact ⟨rfl, h', (ru _ len (fun e => by cases e)).trans r2, HC_keep _ _ (fun m hm => ru _ (gi.l_en hb hm) (fun e => by cases e)) c'⟩
      · obtain ⟨h', r', c'⟩ := gi.hc b' hb'
        refine ⟨h', (ru (.hd b') hb' (fun e2 => e (by injection e2))).trans r', ?_⟩
        show HC _ (upN g.ch b (n :: g.ch b) b') h'
        rw [upN_ne _ _ _ _ e]
        exact HC_keep _ _ (fun m hm => ru _ (gi.l_en hb' hm) (fun e => by cases e)) c'
    · intro b' hb' m hm
      rcases chb b' m hm with h | ⟨rfl, rfl⟩
      · exact gi.hm b' hb' m h
      · exact ⟨h1, h2, hl, hbk⟩
    · intro b' hb'
      show ((upN g.ch b (n :: g.ch b) b').map g.ekey).Nodup
      by_cases e : b' = b
      · subst e
        rw [upN_eq, List.map_cons, List.nodup_cons]
        refine ⟨fun hm => ?_, gi.hn b' hb⟩
        obtain ⟨m, hm1, hm2⟩ := List.mem_map.1 hm
        exact hk m hm1 hm2
      · rw [upN_ne _ _ _ _ e]; exact gi.hn b' hb'
    · intro v hv
      exact SL_keep _ _ (fun m hm => ru _ (gi.l_tw hv hm) (fun e => by cases e)) (gi.sl v hv)
end

/-! ### A level of a node is linked -/
theorem SL_split {g : G} {v : Nat} : ∀ (L : List Nat) (q p : Nat), SL g v q L → (p = q ∨ p ∈ L) → ∃ A B, L = A ++ B ∧ (A = [] ∧ p = q ∨ ∃ A', A = A' ++ [p]) ∧ SL g v p B
  | [], q, p, h, hp => by
    rcases hp with rfl | hp
    · exact ⟨[], [], rfl, Or.inl ⟨rfl, rfl⟩, h⟩
    · simp at hp
  | x :: L, q, p, ⟨h1, h2⟩, hp => by
    by_cases e : p = q
    · subst e
      exact ⟨[], x :: L, rfl, Or.inl ⟨rfl, rfl⟩, h1, h2⟩
    · have hp2 : p = x ∨ p ∈ L := by
        rcases hp with h | h
        · exact absurd h e
        · simpa using h
      obtain ⟨A, B, e1, e2, e3⟩ := SL_split L x p h2 hp2
      refine ⟨x :: A, B, by rw [e1]; rfl, Or.inr ?_, e3⟩
      rcases e2 with ⟨rfl, rfl⟩ | ⟨A', rfl⟩
      · exact ⟨[], rfl⟩
      · exact ⟨x :: A', rfl⟩
theorem SL_ins {g g' : G} {v p x : Nat} {B : List Nat} (hp : g'.rd (.tw p v) = (x : Int)) (hB : SL g' v x B) : ∀ (A : List Nat) (q : Nat), SL g v q (A ++ B) → (q :: A).Nodup → (A = [] ∧ p = q ∨ ∃ A', A = A' ++ [p]) → (∀ m, m ∈ q :: A → m ≠ p → g'.rd (.tw m v) = g.rd (.tw m v)) → SL g' v q (A ++ x :: B)
  | [], q, h, hnd, hl, hk => by
    rcases hl with ⟨_, rfl⟩ | ⟨A', h⟩
    · exact ⟨hp, hB⟩
    · simp at h
  | y :: A, q, ⟨h1, h2⟩, hnd, hl, hk => by
    have hl2 : ∃ A', y :: A = A' ++ [p] := by
      rcases hl with ⟨h, _⟩ | h
      · cases h
      · exact h
    obtain ⟨A', hA⟩ := hl2
    have hpm : p ∈ y :: A := by rw [hA]; simp
    have hq : q ≠ p := fun e => by
      rw [List.nodup_cons] at hnd
      exact hnd.1 (e ▸ hpm)
    refine ⟨(hk q (by simp) hq).trans h1, SL_ins hp hB A y h2 (List.nodup_cons.1 hnd).2 ?_ (fun m hm hne => hk m (List.mem_cons_of_mem _ hm) hne)⟩
    cases A' with
    | nil =>
      injection hA with e1 e2
      exact Or.inl ⟨e2, e1.symm⟩
    | cons z A' =>
      injection hA with e1 e2
      exact Or.inr ⟨A', e2⟩
def G.linkN (g : G) (v p n : Nat) (L : List Nat) : G := { g.put (.tw p v) n with lst := upN g.lst v L }
section
variable {keys : List ByteArray} {g : G} {k o n p s v : Nat} {key : ByteArray}
theorem linkN_ok (gi : GI keys g k) (hv : v < 8) (h1 : 1 ≤ n) (h2 : n < g.N) (hl : g.nlv n = true) (ho : g.nown n = o) (hh : v < (g.ns n).height) (hkey : g.nkey n = key) (hpr : Pair g key v p s) (hin : ∀ u, u < v → n ∈ g.lst u) (hout : ∀ u, u < 8 → v ≤ u → n ∉ g.lst u) (r1 : g.rd (.tw p v) = (s : Int)) (r2 : g.rd (.tw n v) = (s : Int)) (hs : s = 0 ∨ g.nkey s ≠ key) :
    ∃ L, (∀ m, m ∈ L ↔ m = n ∨ m ∈ g.lst v) ∧ Le o g (g.linkN v p n L) ∧ GI keys (g.linkN v p n L) k ∧ (∀ y, g.live y → y ≠ .tw p v → (g.linkN v p n L).rd y = g.rd y) := by
  have hpl : p = 0 ∨ p ∈ g.lst v := hpr.pred.imp id (fun h => h.1)
  have lp := gi.l_tw hv hpl
  obtain ⟨A, B, eL, eA, hB⟩ := SL_split _ _ _ (gi.sl v hv) hpl
  have ru : ∀ y, g.live y → y ≠ .tw p v → (g.linkN v p n (A ++ n :: B)).rd y = g.rd y := fun y hy hne => (put_rd gi.ci gi.wf lp y hy).2 hne
  have rs : (g.linkN v p n (A ++ n :: B)).rd (.tw p v) = (n : Int) := (put_rd gi.ci gi.wf lp _ lp).1 rfl
  have hnl : n ∉ g.lst v := hout v hv (Nat.le_refl _)
  have hmem : ∀ m, m ∈ A ++ n :: B ↔ m = n ∨ m ∈ g.lst v := by
    intro m
    rw [eL]
    simp only [List.mem_append, List.mem_cons]
    constructor
    · rintro (h | h | h) <;> simp [h]
    · rintro (h | h | h) <;> simp [h]
  have len : g.live (.tw n v) := ⟨h2, hl, hh⟩
  have hnp : n ≠ p := by
    rcases hpl with h | h
    · omega
    · exact fun e => hnl (e ▸ h)
  have hsrt := gi.so v hv
  rw [eL, List.pairwise_append] at hsrt
  obtain ⟨sA, sB, sAB⟩ := hsrt
  -- the members of B are no p
  have hpB : ∀ m, m ∈ B → m ≠ p := by
    intro m hm e
    subst e
    rcases eA with ⟨_, h⟩ | ⟨A', h⟩
    · have : m ∈ g.lst v := by rw [eL]; simp [hm]
      have := (gi.sm v hv m this).1
      omega
    · exact ltB_irrefl _ (sAB m (by rw [h]; simp) m hm)
  have hA0 : (0 :: A).Nodup := by
    rw [List.nodup_cons]
    refine ⟨fun h => ?_, ?_⟩
    · have : 0 ∈ g.lst v := by rw [eL]; simp [h]
      have := (gi.sm v hv 0 this).1
      omega
    · refine sA.imp (fun h e => ?_)
      rw [e] at h
      exact ltB_irrefl _ h
  have hBs : (B = [] ∧ s = 0) ∨ ∃ B', B = s :: B' := by
    cases B with
    | nil =>
      have h3 : g.rd (.tw p v) = 0 := hB
      rw [r1] at h3
      exact Or.inl ⟨rfl, by omega⟩
    | cons x B' =>
      have h3 := hB.1
      rw [r1] at h3
      have : s = x := by omega
      exact Or.inr ⟨B', by rw [this]⟩
  have hlt : ∀ m, m ∈ A → ltB (g.nkey m) key := by
    intro m hm
    rcases eA with ⟨h, _⟩ | ⟨A', h⟩
    · rw [h] at hm; simp at hm
    · have hpk : ltB (g.nkey p) key := by
        rcases hpr.pred with h0 | h0
        · have : p ∈ g.lst v := by rw [eL, h]; simp
          have := (gi.sm v hv p this).1
          omega
        · exact h0.2
      rw [h] at hm sA
      rcases List.mem_append.1 hm with h5 | h5
      · rw [List.pairwise_append] at sA
        exact ltB_trans (sA.2.2 m h5 p (by simp)) hpk
      · simp at h5
        rw [h5]; exact hpk
  have hgt : ∀ m, m ∈ B → ltB key (g.nkey m) := by
    intro m hm
    rcases hBs with ⟨h, _⟩ | ⟨B', h⟩
    · rw [h] at hm; simp at hm
    · have hsl : s ∈ g.lst v := by rw [eL, h]; simp
      have hs0 : s ≠ 0 := by have := (gi.sm v hv s hsl).1; omega
      have hsk : ltB key (g.nkey s) := ltB_total ((hpr.succ.resolve_left hs0).2) (hs.resolve_left hs0)
      rw [h] at hm sB
      rcases List.mem_cons.1 hm with h5 | h5
      · rw [h5]; exact hsk
      · exact ltB_trans hsk ((List.pairwise_cons.1 sB).1 m h5)
  refine ⟨A ++ n :: B, hmem, ?_, ?_, ru⟩
  · refine ⟨rfl, Nat.le_refl _, fun _ _ _ => rfl, fun _ _ _ => rfl, fun m h1 h2 h3 h4 => h4, fun b m hm => hm, fun b m hm => Or.inl hm, ?_, ?_, Nat.le_refl _, fun _ _ => rfl, fun _ _ => rfl, fun m h1 h2 h3 => h3, ?_, ?_, ?_⟩
    · intro b hb m hm
      exact ru _ (gi.l_en hb hm) (fun e => by cases e)
    · intro m h1 h2 h3 h4
      exact ru (.en m) ⟨h1, h2, h3⟩ (fun e => by cases e)
    · intro u hu m hm
      show m ∈ upN g.lst v (A ++ n :: B) u
      by_cases e : u = v
      · subst e
        rw [upN_eq, hmem]; exact Or.inr hm
      · rw [upN_ne _ _ _ _ e]; exact hm
    · intro u hu m hm
      have hm' : m ∈ upN g.lst v (A ++ n :: B) u := hm
      by_cases e : u = v
      · subst e
        rw [upN_eq, hmem] at hm'
        rcases hm' with h | h
        · subst h; exact Or.inr ⟨h2, ho⟩
        · exact Or.inl h
      · rw [upN_ne _ _ _ _ e] at hm'; exact Or.inl hm'
    · intro m u h1 h2 h3 h4 h5 h6
      refine ru (.tw m u) ⟨h1, h2, h3⟩ (fun e => ?_)
      injection e with e1 e2
      subst e1 e2
      rcases hpl with h | h
      · exact h6 h
      · exact h5 h
  · refine ⟨⟨fun y hy => gi.ci.tk y hy, fun y z hy hz h => gi.ci.inj y z hy hz h⟩, gi.wf.set _ _, gi.nb1, gi.nb2, gi.kE, gi.kN, ?_, gi.hm, gi.hn, gi.he, gi.s0, ?_, ?_, ?_, ?_, gi.sn⟩
    · intro b hb
      obtain ⟨h', r', c'⟩ := gi.hc b hb
      exact ⟨h', (ru (.hd b) hb (fun e => by cases e)).trans r', HC_keep _ _ (fun m hm => ru _ (gi.l_en hb hm) (fun e => by cases e)) c'⟩
    · intro u hu
      show SL _ u 0 (upN g.lst v (A ++ n :: B) u)
      by_cases e : u = v
      · subst e
        rw [upN_eq]
        have hmB : ∀ m, m ∈ B → (g.linkN u p n (A ++ n :: B)).rd (.tw m u) = g.rd (.tw m u) := fun m hm => ru _ (gi.l_tw hu (Or.inr (by rw [eL]; simp [hm]))) (fun e => hpB m hm (by injection e))
        have hnB : SL (g.linkN u p n (A ++ n :: B)) u n B := by
          have hr : (g.linkN u p n (A ++ n :: B)).rd (.tw n u) = (s : Int) := (ru _ len (fun e => hnp (by injection e))).trans r2
          rcases hBs with ⟨h, h0⟩ | ⟨B', h⟩
          · rw [h]
            subst h0
            exact hr
          · have hB2 := hB
            rw [h] at hB2
            rw [h]
            rw [h] at hmB hr
            refine ⟨hr, SL_keep B' s (fun m hm => hmB m ?_) hB2.2⟩
            rcases hm with h | h <;> simp [h]
        refine SL_ins rs hnB A 0 (by rw [← eL]; exact gi.sl u hu) hA0 eA (fun m hm hne => ru _ (gi.l_tw hu ?_) (fun e => hne (by injection e)))
        rcases List.mem_cons.1 hm with h | h
        · exact Or.inl h
        · exact Or.inr (by rw [eL]; simp [h])
      · rw [upN_ne _ _ _ _ e]
        exact SL_keep _ _ (fun m hm => ru _ (gi.l_tw hu hm) (fun e2 => e (by injection e2))) (gi.sl u hu)
    · intro u hu m hm
      have hm' : m ∈ upN g.lst v (A ++ n :: B) u := hm
      by_cases e : u = v
      · subst e
        rw [upN_eq, hmem] at hm'
        rcases hm' with h | h
        · subst h; exact ⟨h1, h2, hl, hh⟩
        · exact gi.sm u hu m h
      · rw [upN_ne _ _ _ _ e] at hm'; exact gi.sm u hu m hm'
    · intro u hu
      show (upN g.lst v (A ++ n :: B) u).Pairwise (fun m n => ltB (g.nkey m) (g.nkey n))
      by_cases e : u = v
      · subst e
        rw [upN_eq, List.pairwise_append, List.pairwise_cons]
        refine ⟨sA, ⟨fun m hm => by rw [hkey]; exact hgt m hm, sB⟩, fun m hm m' hm' => ?_⟩
        rcases List.mem_cons.1 hm' with h | h
        · rw [h, hkey]; exact hlt m hm
        · exact sAB m hm m' h
      · rw [upN_ne _ _ _ _ e]; exact gi.so u hu
    · intro u hu m hm
      have hm' : m ∈ upN g.lst v (A ++ n :: B) (u + 1) := hm
      show m ∈ upN g.lst v (A ++ n :: B) u
      have hold : m ∈ g.lst u → m ∈ upN g.lst v (A ++ n :: B) u := by
        intro h
        by_cases e : u = v
        · subst e; rw [upN_eq, hmem]; exact Or.inr h
        · rw [upN_ne _ _ _ _ e]; exact h
      by_cases e : u + 1 = v
      · subst e
        rw [upN_eq, hmem] at hm'
        rcases hm' with h | h
        · subst h; exact hold (hin u (by omega))
        · exact hold (gi.ss u hu m h)
      · rw [upN_ne _ _ _ _ e] at hm'
        exact hold (gi.ss u hu m hm')
end
end Go.Proofs.YtmemkmnnededgaaDoor.H

