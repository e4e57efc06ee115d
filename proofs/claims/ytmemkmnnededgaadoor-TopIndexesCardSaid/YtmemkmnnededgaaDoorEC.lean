/- E7, E8, E9 of the claim's own texts, in one. -/
import Derived.Test.YtmemkmnnededgaaDoorEB
import Derived.Test.YtmemkmnnededgaaDoorD10
namespace Go.Proofs.YtmemkmnnededgaaDoor.H
open Go.RowKit Go.Proofs.YtmemkmnnededgaaDoorW.PrintWords Go.Proofs.YtmemkmnnededgaaDoorW.PrintLast Go.Proofs.YtmemkmnnededgaaDoorW.PrintMore
set_option linter.unusedVariables false
set_option linter.unusedSimpArgs false

set_option maxHeartbeats 1000000 in
theorem sstep {keys : List ByteArray} {B : Nat} {w : World} {ga h l o : Nat} {g : G} {k p : Nat} {op : SOp} (hkl : keys.length ≤ 40) (hB : 0 < B) (wr : WR B w ga h l g) (ho : SoAt B w o l op) (gi : GI keys g k) (hk : k ≤ 1000 + g.nb) (oi : SOI keys g o op p) :
    Calls Tryd.prog 18 #[.pointer (some ⟨o, 0, none⟩)] w fun e w' => ∃ r : Bool, e = .returned (.bool r) ∧ Post keys B w ga h l g k (.s o op) p r w' := by
  have hs : KS B w ga l o g.a g.bs g.ns op := ⟨wr.ar, wr.li, ho⟩
  have hN : g.bs.length < 1000 := by have h1 := gi.kN; have : g.N = g.bs.length := rfl; omega
  have hk2 : k < 1980 := by have := gi.nb2; omega
  rcases oi.ph with ⟨hbg, hd, hw, hl, hp⟩ | ⟨hbg, hik, hown, hph⟩
  · cases hik : isKeyB op.key with
    | false =>
      refine (sstep_refused B w ga l o g.a g.bs g.ns op hs hbg hd hik).mono ?_
      rintro e w' ⟨rfl, h1, h2⟩
      exact ⟨true, rfl, spost_done wr hB ho rfl rfl h1 h2 gi (Le.rfl' _ _) 0 (Or.inl (Still.rfl' _)) (by omega) (by omega) (fun h => by rw [hik] at h; cases h)⟩
    | true =>
      refine sstep_first B w ga l o g.a g.bs g.ns op hs hbg hd hik _ (fun W hks hf => ?_)
      obtain ⟨wr', hf'⟩ := wr.ks hB ho rfl rfl hks hf
      refine (swalk (p := p) hkl hB wr' hks.so gi hk oi.key oi.word oi.g1 oi.g2 rfl hik (Or.inl ⟨hw, hl⟩) rfl (by show 7 < 8; omega) (Or.inl rfl) (fun i hi hI => ?_) ⟨?_, Or.inl (fun i hi hI => ?_)⟩).mono ?_
      · have hI' : 7 < i := hI
        omega
      · have hr := rank_le keys hkl g 0
        have := oi.g2
        show 4 + 7 + rank keys g 0 + 70 * (op.height - op.linked) ≤ p
        omega
      · have hI' : 7 < i := hI
        omega
      · rintro e w' ⟨r, rfl, hp⟩
        exact ⟨r, rfl, Post.pre (x := .s o op) hf' (Post.turn (op' := SOp.again { op with begun := true }) (op := op) rfl rfl rfl hp)⟩
  · cases hph with
    | walk hd hl hp pr st =>
      refine sstep_go0 B w ga l o g.a g.bs g.ns op hs hbg hd _ (fun W hks hf => ?_)
      obtain ⟨wr', hf'⟩ := wr.ks hB ho rfl rfl hks hf
      refine (swalk hkl hB wr' hks.so gi hk oi.key oi.word oi.g1 oi.g2 hbg hik hown hd hl hp pr st).mono ?_
      rintro e w' ⟨r, rfl, hp⟩
      exact ⟨r, rfl, Post.pre (x := .s o op) hf' hp⟩
    | lay hd h1 pr ne st =>
      have hw := hown.resolve_left (by omega)
      have hl8 : op.linked < 8 := by have := hw.lt; have := oi.g2; omega
      have hst := st.1
      have lw : g.live (.tw op.own op.linked) := ⟨hw.h2, hw.lv, by rw [hw.hgt]; exact hw.lt⟩
      have hpv : Priv o g (.tw op.own op.linked) := ⟨hw.own, fun hm => by have := (hw.ins _ hl8).1 hm; omega, by have := hw.h1; omega⟩
      have hsN : op.succs op.linked < 1000 := by
        rcases (pr _ hl8).succ with h | h
        · omega
        · have h1 := (gi.sm _ hl8 _ h.1).2.1
          have : g.N = g.bs.length := rfl
          omega
      refine sstep_go1 B w ga l o g.a g.bs g.ns op hs hbg hd _ (fun W hks hf => ?_)
      obtain ⟨wr', hf'⟩ := wr.ks hB ho rfl rfl hks hf
      refine (lay_any B k W ga l o g.a g.bs g.ns op hks gi.wf hk2 hN hw.h2 hl8 hsN (gi.ci.tk _ lw)).mono ?_
      rintro e w' ⟨rfl, h2, h3⟩
      obtain ⟨q, gi'⟩ := put_ok (o := o) (v := (op.succs op.linked : Int)) gi lw hpv
      have le := q.le gi
      refine ⟨false, rfl, Post.pre (x := .s o op) hf' (spost_go (g' := g.put (.tw op.own op.linked) (op.succs op.linked)) wr' hB hks.so rfl rfl h2 h3 gi' le 0 (Or.inl (q.still gi)) rfl (p - 1) ⟨oi.key, oi.word, oi.g1, oi.g2, Or.inr ⟨hbg, hik, Or.inr ⟨hw.h1, hw.h2, hw.lv, hw.key, hw.hgt, hw.own, hw.lt, hw.ins⟩, .link rfl hw.h1 (fun i hi => (pr i hi).keep gi le hi) ne ?_ ⟨?_, ?_⟩⟩⟩ (by omega) (Nat.le_refl _))⟩
      · exact (put_rd gi.ci gi.wf lw _ lw).1 rfl
      · show 2 + 70 * (op.height - op.linked) ≤ p - 1
        omega
      · rcases st.2 with h | h
        · left
          intro i hi hI
          exact ((q.still gi).tw i hi _ ((pr i hi).pred.imp id (fun h => h.1))).trans (h i hi hI)
        · right
          show 2 + 70 * (op.height - op.linked) + 60 ≤ p - 1
          omega
    | link hd h1 pr ne r st =>
      have hw := hown.resolve_left (by omega)
      have hlt := hw.lt
      have hg2 := oi.g2
      have hl8 : op.linked < 8 := by omega
      have hst := st.1
      have lw : g.live (.tw op.own op.linked) := ⟨hw.h2, hw.lv, by rw [hw.hgt]; exact hw.lt⟩
      have hpl : op.preds op.linked = 0 ∨ op.preds op.linked ∈ g.lst op.linked := (pr _ hl8).pred.imp id (fun h => h.1)
      have lp := gi.l_tw hl8 hpl
      have hNN : g.N = g.bs.length := rfl
      have hsN : op.succs op.linked < 1000 := by
        rcases (pr _ hl8).succ with h | h
        · omega
        · have h1 := (gi.sm _ hl8 _ h.1).2.1
          omega
      have how : op.own < 1000 := by have := hw.h2; omega
      refine sstep_go2 B w ga l o g.a g.bs g.ns op hs hbg hd _ (fun W hks hf => ?_)
      obtain ⟨wr', hf'⟩ := wr.ks hB ho rfl rfl hks hf
      by_cases hv : g.rd (.tw (op.preds op.linked) op.linked) = (op.succs op.linked : Int)
      · obtain ⟨L, hL, le, gi', ru⟩ := linkN_ok (o := o) gi hl8 hw.h1 hw.h2 hw.lv hw.own (by rw [hw.hgt]; exact hw.lt) hw.key (pr _ hl8) (fun u hu => (hw.ins u (by omega)).2 hu) (fun u hu hvu hm => by have := (hw.ins u hu).1 hm; omega) hv r (by
          by_cases h0 : op.linked = 0
          · rw [h0]; exact ne h0
          · rcases (pr _ hl8).succ with h | h
            · exact Or.inl h
            · right
              intro hk
              -- a node of the key at a level above the lowest is its own
              have h00 : ∀ u, u < 8 → ∀ m, m ∈ g.lst u → m ∈ g.lst 0 := by
                intro u
                induction u with
                | zero => intro _ m hm; exact hm
                | succ u ih => intro hu m hm; exact ih (by omega) m (gi.ss u (by omega) m hm)
              have e := same_node gi (by omega) (h00 _ hl8 _ h.1) ((hw.ins 0 (by omega)).2 (by omega)) (by rw [hk]; exact hw.key.symm)
              have h5 := h.1
              rw [e] at h5
              have := (hw.ins _ hl8).1 h5
              omega)
        have fin : inS (g.linkN op.linked (op.preds op.linked) op.own L) op.key := by
          refine ⟨op.own, ?_, hw.key⟩
          show op.own ∈ upN g.lst op.linked L 0
          by_cases h0 : 0 = op.linked
          · rw [← h0, upN_eq, hL]; exact Or.inl rfl
          · rw [upN_ne _ _ _ _ h0]
            exact (hw.ins 0 (by omega)).2 (by omega)
        by_cases hm : op.linked + 1 = op.height
        · refine (link_done B k W ga l o g.a g.bs g.ns op hks gi.wf hk2 hN lp.1 how hl8 hsN (gi.ci.tk _ lp) (beq_iff_eq.mpr hv) hm oi.g2).mono ?_
          rintro e w' ⟨rfl, h2, h3⟩
          exact ⟨true, rfl, Post.pre (x := .s o op) hf' (spost_done (g' := g.linkN op.linked (op.preds op.linked) op.own L) wr' hB hks.so rfl rfl h2 h3 gi' le 60 (Or.inr rfl) (by omega) (by omega) (fun _ => fin))⟩
        · refine (link_more B k W ga l o g.a g.bs g.ns op hks gi.wf hk2 hN lp.1 how hl8 hsN (gi.ci.tk _ lp) (beq_iff_eq.mpr hv) hm oi.g2).mono ?_
          rintro e w' ⟨rfl, h2, h3⟩
          refine ⟨false, rfl, Post.pre (x := .s o op) hf' (spost_go (g' := g.linkN op.linked (op.preds op.linked) op.own L) wr' hB hks.so rfl rfl h2 h3 gi' le 60 (Or.inr rfl) rfl (p - 61) ⟨oi.key, oi.word, oi.g1, oi.g2, Or.inr ⟨hbg, hik, Or.inr ⟨hw.h1, hw.h2, hw.lv, hw.key, hw.hgt, hw.own, by show op.linked + 1 < op.height; omega, fun v hv8 => ?_⟩, .lay rfl hw.h1 (fun i hi => (pr i hi).keep gi le hi) (fun h0 => by cases h0) ⟨?_, ?_⟩⟩⟩ (by omega) (Nat.le_refl _))⟩
          · show op.own ∈ upN g.lst op.linked L v ↔ v < op.linked + 1
            by_cases e : v = op.linked
            · subst e
              rw [upN_eq, hL]
              constructor
              · intro _; omega
              · intro _; exact Or.inl rfl
            · rw [upN_ne _ _ _ _ e, hw.ins v hv8]
              omega
          · show 3 + 70 * (op.height - (op.linked + 1)) ≤ p - 61
            omega
          · rcases st.2 with h | h
            · left
              intro i hi hI
              have hI' : op.linked + 1 ≤ i := hI
              refine (ru _ (gi.l_tw hi ((pr i hi).pred.imp id (fun h => h.1))) (fun e => ?_)).trans (h i hi (by show op.linked ≤ i; omega))
              injection e with _ e2
              omega
            · right
              show 3 + 70 * (op.height - (op.linked + 1)) + 60 ≤ p - 61
              omega
      · have hp := st.2.resolve_left (fun h => hv (h _ hl8 (Nat.le_refl _)))
        refine (link_fail B k W ga l o g.a g.bs g.ns op hks gi.wf hk2 hN lp.1 how hl8 hsN (gi.ci.tk _ lp) (beq_eq_false_iff_ne.mpr hv)).mono ?_
        rintro e w' ⟨rfl, h2, h3⟩
        refine ⟨false, rfl, Post.pre (x := .s o op) hf' (spost_go wr' hB hks.so rfl rfl h2 h3 gi (Le.rfl' _ _) 0 (Or.inl (Still.rfl' _)) rfl (p - 1) ⟨oi.key, oi.word, oi.g1, oi.g2, Or.inr ⟨hbg, hik, Or.inr (hw.turn rfl rfl rfl rfl), .walk rfl (by show 7 < 8; omega) (Or.inl rfl) (fun i hi hI => ?_) ⟨?_, Or.inl (fun i hi hI => ?_)⟩⟩⟩ (by omega) (Nat.le_refl _))⟩
        · have hI' : 7 < i := hI
          omega
        · have hr := rank_le keys hkl g 0
          show 4 + 7 + rank keys g 0 + 70 * (op.height - op.linked) ≤ p - 1
          omega
        · have hI' : 7 < i := hI
          omega

/-- What lies in the steppers' rows. -/
def TOp.cells : TOp → Array Value
  | .h o _ => #[.pointer (some ⟨o, 0, none⟩), .pointer none]
  | .s o _ => #[.pointer none, .pointer (some ⟨o, 0, none⟩)]
theorem WR.below {B : Nat} {w w' : World} {ga h l : Nat} {g : G} (wr : WR B w ga h l g) (hB : 0 < B) (hb : Below w.heap.size w w') : WR B w' ga h l g := by
  obtain ⟨hge, hv, ev, hbk, hR, hE⟩ := wr.ht
  have hz : B ≤ w.heap.size := Nat.le_trans wr.ar.ge (Nat.le_of_lt wr.ar.lt)
  exact ⟨wr.ar.below hb, ⟨hge, hv, ev, blk_below hbk hb, Kd.R_below hR hb, Kd.R_below hE hb⟩, wr.li.below hb, fun j hj => (hb.cell (p := ⟨0, j, none⟩) (by show 0 < w.heap.size; omega)).trans (wr.tab j hj)⟩
theorem OpAt.below {B : Nat} {w w' : World} {h l : Nat} {x : TOp} (ho : OpAt B w h l x) (hb : Below w.heap.size w w') : OpAt B w' h l x := by
  cases x with
  | h o op => exact ⟨ho.ge, blk_below ho.blk hb⟩
  | s o op => exact ⟨ho.ge, ho.blk.below hb⟩
theorem tstep {keys : List ByteArray} {B : Nat} {w : World} {ga h l : Nat} {g : G} {k p : Nat} {x : TOp} (hkl : keys.length ≤ 40) (hB : 0 < B) (wr : WR B w ga h l g) (ho : OpAt B w h l x) (gi : GI keys g k) (hk : k ≤ 1000 + g.nb) (oi : OI keys g x p) :
    Calls Tryd.prog 9 #[.agg x.cells] w fun e w' => ∃ r : Bool, e = .returned (.bool r) ∧ Post keys B w ga h l g k x p r w' := by
  have hz : B ≤ w.heap.size := Nat.le_trans wr.ar.ge (Nat.le_of_lt wr.ar.lt)
  cases x with
  | h o op =>
    refine step9_h w o _ (fun W hb => (hstep hkl hB (wr.below hB hb) (OpAt.below (x := .h o op) ho hb) gi hk oi).mono ?_)
    rintro e w' ⟨r, rfl, hp⟩
    exact ⟨r, rfl, Post.pre (x := .h o op) ((FrO.refl TT o B w).fresh hz hb) hp⟩
  | s o op =>
    refine step9_s w o _ (fun W hb => (sstep hkl hB (wr.below hB hb) (OpAt.below (x := .s o op) ho hb) gi hk oi).mono ?_)
    rintro e w' ⟨r, rfl, hp⟩
    exact ⟨r, rfl, Post.pre (x := .s o op) ((FrO.refl TT o B w).fresh hz hb) hp⟩
end Go.Proofs.YtmemkmnnededgaaDoor.H

namespace Go.Proofs.YtmemkmnnededgaaDoor.H
open Go.RowKit Go.Proofs.YtmemkmnnededgaaDoorW.PrintWords Go.Proofs.YtmemkmnnededgaaDoorW.PrintLast Go.Proofs.YtmemkmnnededgaaDoorW.PrintMore
set_option linter.unusedVariables false
set_option linter.unusedSimpArgs false

/-- An operation that has not begun. -/
def Ini (keys : List ByteArray) : TOp → Prop
  | .h _ op => op.key ∈ keys ∧ op.own = 0 ∧ op.next = 0
  | .s _ op => op.key ∈ keys ∧ op.word = wordF op.key ∧ 1 ≤ op.height ∧ op.height ≤ 8 ∧ op.begun = false ∧ op.does = 0 ∧ op.own = 0 ∧ op.linked = 0
theorem Ini.oi {keys : List ByteArray} {x : TOp} (h : Ini keys x) (g : G) : OI keys g x 620 := by
  cases x with
  | h o op => exact ⟨h.1, Or.inl h.2.1, Or.inl ⟨h.2.2, by omega⟩⟩
  | s o op => exact ⟨h.1, h.2.1, h.2.2.1, h.2.2.2.1, Or.inl ⟨h.2.2.2.2.1, h.2.2.2.2.2.1, h.2.2.2.2.2.2.1, h.2.2.2.2.2.2.2, by omega⟩⟩
def WI (keys : List ByteArray) (g : G) (p : Nat) : List TOp → Prop
  | [] => True
  | x :: rest => OI keys g x p ∧ ∀ y, y ∈ rest → Ini keys y
def pot (p : Nat) : List TOp → Nat
  | [] => 0
  | x :: rest => p + 620 * rest.length
def buds (t : List TOp) : Nat := (t.map TOp.bud).sum
def isH (key : ByteArray) : TOp → Prop
  | .h _ op => op.key = key
  | .s _ _ => False
def isS (key : ByteArray) : TOp → Prop
  | .h _ _ => False
  | .s _ op => op.key = key
structure TI (keys : List ByteArray) (B : Nat) (w : World) (ga h l : Nat) (g : G) (k : Nat) (t0 t1 : List TOp) (p0 p1 : Nat) : Prop where
  wr : WR B w ga h l g
  gi : GI keys g k
  at0 : ∀ x, x ∈ t0 → OpAt B w h l x
  at1 : ∀ x, x ∈ t1 → OpAt B w h l x
  i0 : WI keys g p0 t0
  i1 : WI keys g p1 t1
  nd : ((t0 ++ t1).map TOp.blk).Nodup
  bud : k + buds t0 + buds t1 ≤ g.nb + 808
  cH : ∀ key, key ∈ keys → isKeyB key = true → inH g key ∨ ∃ x, (x ∈ t0 ∨ x ∈ t1) ∧ isH key x
  cS : ∀ key, key ∈ keys → isKeyB key = true → inS g key ∨ ∃ x, (x ∈ t0 ∨ x ∈ t1) ∧ isS key x
theorem Le.inH {keys : List ByteArray} {g g' : G} {k o : Nat} {key : ByteArray} (gi : GI keys g k) (le : Le o g g') (h : inH g key) : inH g' key := by
  obtain ⟨m, hm, hk⟩ := h
  have h1 := gi.hm _ (bk_lt gi key) m hm
  exact ⟨m, by rw [le.bk]; exact le.ch _ _ hm, by rw [le.ekey m h1.1 h1.2.1]; exact hk⟩
theorem Le.inS {keys : List ByteArray} {g g' : G} {k o : Nat} {key : ByteArray} (gi : GI keys g k) (le : Le o g g') (h : inS g key) : inS g' key := by
  obtain ⟨m, hm, hk⟩ := h
  have h1 := gi.sm 0 (by omega) m hm
  exact ⟨m, le.lst 0 (by omega) _ hm, by rw [le.nkey m h1.2.1]; exact hk⟩
theorem OI_keep {keys : List ByteArray} {g g' : G} {k o p : Nat} {y : TOp} (gi : GI keys g k) (le : Le o g g') (hy : y.blk ≠ o) (q : Nat) (hq : p ≤ q) (hst : Still g g' ∨ p + 60 ≤ q) (h : OI keys g y p) : OI keys g' y q := by
  cases y with
  | h o' op => exact HOI_keep gi le hy q hq hst h
  | s o' op => exact SOI_keep gi le hy q hq hst h
theorem OpAt.keptO {B : Nat} {w w' : World} {h l o : Nat} {y : TOp} (ho : OpAt B w h l y) (hf : FrO TT o B w w') (hy : y.blk ≠ o) : OpAt B w' h l y := by
  cases y with
  | h o' op => exact ⟨ho.ge, hf.blk ho.blk (by simp [TT]) hy⟩
  | s o' op =>
    obtain ⟨h1, cs, hb, h2, h3⟩ := ho
    exact ⟨h1, cs, hf.blk hb (by simp [TT]) hy, h2, h3⟩
theorem same_blk {x' x : TOp} (h : x'.same x) : x'.blk = x.blk := by
  cases x' <;> cases x <;> first | exact h.1 | exact h.elim
theorem same_isH {x' x : TOp} {key : ByteArray} (h : x'.same x) (hk : isH key x) : isH key x' := by
  cases x' <;> cases x <;> first | exact h.2.trans hk | exact h.elim | exact hk.elim
theorem same_isS {x' x : TOp} {key : ByteArray} (h : x'.same x) (hk : isS key x) : isS key x' := by
  cases x' <;> cases x <;> first | exact h.2.trans hk | exact h.elim | exact hk.elim
theorem TI.swap {keys : List ByteArray} {B : Nat} {w : World} {ga h l : Nat} {g : G} {k : Nat} {t0 t1 : List TOp} {p0 p1 : Nat} (ti : TI keys B w ga h l g k t0 t1 p0 p1) : TI keys B w ga h l g k t1 t0 p1 p0 := by
  refine ⟨ti.wr, ti.gi, ti.at1, ti.at0, ti.i1, ti.i0, ?_, by have := ti.bud; omega, fun key h1 h2 => (ti.cH key h1 h2).imp id (fun ⟨x, hx, hk⟩ => ⟨x, hx.symm, hk⟩), fun key h1 h2 => (ti.cS key h1 h2).imp id (fun ⟨x, hx, hk⟩ => ⟨x, hx.symm, hk⟩)⟩
  have h1 := ti.nd
  rw [List.map_append] at h1 ⊢
  rw [List.nodup_append] at h1 ⊢
  exact ⟨h1.2.1, h1.1, fun a ha b hb e => h1.2.2 b hb a ha e.symm⟩
/-- A step of the first worker. -/
theorem TI.step {keys : List ByteArray} {B : Nat} {w w' : World} {ga h l : Nat} {g : G} {k : Nat} {x : TOp} {rest t1 : List TOp} {p0 p1 : Nat} {r : Bool} (ti : TI keys B w ga h l g k (x :: rest) t1 p0 p1) (hp : Post keys B w ga h l g k x p0 r w') :
    ∃ (g' : G) (k' p0' p1' : Nat) (x' : TOp), TI keys B w' ga h l g' k' (if r then rest else x' :: rest) t1 p0' p1' ∧ x'.same x ∧ FrO TT x.blk B w w' ∧ g'.heads = g.heads ∧ pot p0' (if r then rest else x' :: rest) + pot p1' t1 < pot p0 (x :: rest) + pot p1 t1 := by
  obtain ⟨g', k', δ, p', x', wr, gi, le, st, hf, hsame, htrue, hfalse⟩ := hp
  have hnd := ti.nd
  simp only [List.cons_append, List.map_cons, List.nodup_cons] at hnd
  have hne : ∀ y, y ∈ rest ∨ y ∈ t1 → y.blk ≠ x.blk := fun y hy e => hnd.1 (by rw [← e]; exact List.mem_map.2 ⟨y, List.mem_append.2 hy, rfl⟩)
  have i1' : WI keys g' (p1 + δ) t1 := by
    have h1 := ti.i1
    cases t1 with
    | nil => trivial
    | cons y rest1 =>
      refine ⟨OI_keep ti.gi le (hne y (Or.inr (by simp))) _ (by omega) ?_ h1.1, h1.2⟩
      rcases st with h | h
      · exact Or.inl h
      · right; omega
  have hb := ti.bud
  have nb : g'.nb = g.nb := le.nb
  have hbx : buds (x :: rest) = x.bud + buds rest := by simp [buds]
  rw [hbx] at hb
  cases r with
  | true =>
    obtain ⟨hd, hk, hfin⟩ := htrue rfl
    refine ⟨g', k', 620, p1 + δ, x, ⟨wr, gi, fun y hy => (ti.at0 y (List.mem_cons_of_mem _ hy)).keptO hf (hne y (Or.inl hy)), fun y hy => (ti.at1 y hy).keptO hf (hne y (Or.inr hy)), ?_, i1', hnd.2, ?_, ?_, ?_⟩, ?_, hf, le.heads, ?_⟩
    · have h1 := ti.i0.2
      simp only [if_true]
      cases rest with
      | nil => trivial
      | cons y rest' => exact ⟨(h1 y (by simp)).oi g', fun z hz => h1 z (by simp [hz])⟩
    · rw [nb]
      simp only [if_true]
      omega
    · intro key h1 h2
      rcases ti.cH key h1 h2 with h | ⟨y, hy, hky⟩
      · exact Or.inl (le.inH ti.gi h)
      · rcases hy with hy | hy
        · rcases List.mem_cons.1 hy with e | hy
          · subst e
            left
            cases y with
            | h o op =>
              have e : op.key = key := hky
              subst e
              exact hfin h2
            | s o op => exact hky.elim
          · exact Or.inr ⟨y, Or.inl hy, hky⟩
        · exact Or.inr ⟨y, Or.inr hy, hky⟩
    · intro key h1 h2
      rcases ti.cS key h1 h2 with h | ⟨y, hy, hky⟩
      · exact Or.inl (le.inS ti.gi h)
      · rcases hy with hy | hy
        · rcases List.mem_cons.1 hy with e | hy
          · subst e
            left
            cases y with
            | h o op => exact hky.elim
            | s o op =>
              have e : op.key = key := hky
              subst e
              exact hfin h2
          · exact Or.inr ⟨y, Or.inl hy, hky⟩
        · exact Or.inr ⟨y, Or.inr hy, hky⟩
    · cases x <;> exact ⟨rfl, rfl⟩
    · simp only [if_true]
      have e1 : pot p0 (x :: rest) = p0 + 620 * rest.length := rfl
      rw [e1]
      have e2 : pot 620 rest ≤ 620 * rest.length := by
        cases rest with
        | nil => exact Nat.le_refl _
        | cons y rest' => show 620 + 620 * rest'.length ≤ 620 * (rest'.length + 1); omega
      have e3 : pot (p1 + δ) t1 ≤ pot p1 t1 + δ := by
        cases t1 with
        | nil => exact Nat.zero_le _
        | cons y rest1 => show p1 + δ + 620 * rest1.length ≤ p1 + 620 * rest1.length + δ; omega
      omega
  | false =>
    obtain ⟨hat, hoi, hd, hk⟩ := hfalse rfl
    have hbl := same_blk hsame
    refine ⟨g', k', p', p1 + δ, x', ⟨wr, gi, fun y hy => ?_, fun y hy => (ti.at1 y hy).keptO hf (hne y (Or.inr hy)), ⟨hoi, ti.i0.2⟩, i1', ?_, ?_, ?_, ?_⟩, hsame, hf, le.heads, ?_⟩
    · rcases List.mem_cons.1 hy with e | hy
      · rw [e]; exact hat
      · exact (ti.at0 y (List.mem_cons_of_mem _ hy)).keptO hf (hne y (Or.inl hy))
    · show ((x' :: rest ++ t1).map TOp.blk).Nodup
      simp only [List.cons_append, List.map_cons, List.nodup_cons]
      rw [hbl]
      exact hnd
    · rw [nb]
      have : buds (x' :: rest) = x'.bud + buds rest := by simp [buds]
      show k' + buds (x' :: rest) + buds t1 ≤ _
      rw [this]
      omega
    · intro key h1 h2
      rcases ti.cH key h1 h2 with h | ⟨y, hy, hky⟩
      · exact Or.inl (le.inH ti.gi h)
      · right
        rcases hy with hy | hy
        · rcases List.mem_cons.1 hy with e | hy
          · subst e
            exact ⟨x', Or.inl (List.mem_cons_self), same_isH hsame hky⟩
          · exact ⟨y, Or.inl (List.mem_cons_of_mem _ hy), hky⟩
        · exact ⟨y, Or.inr hy, hky⟩
    · intro key h1 h2
      rcases ti.cS key h1 h2 with h | ⟨y, hy, hky⟩
      · exact Or.inl (le.inS ti.gi h)
      · right
        rcases hy with hy | hy
        · rcases List.mem_cons.1 hy with e | hy
          · subst e
            exact ⟨x', Or.inl (List.mem_cons_self), same_isS hsame hky⟩
          · exact ⟨y, Or.inl (List.mem_cons_of_mem _ hy), hky⟩
        · exact ⟨y, Or.inr hy, hky⟩
    · have e1 : pot p0 (x :: rest) = p0 + 620 * rest.length := rfl
      have e2 : pot p' (x' :: rest) = p' + 620 * rest.length := rfl
      show pot p' (x' :: rest) + _ < _
      rw [e1, e2]
      have e3 : pot (p1 + δ) t1 ≤ pot p1 t1 + δ := by
        cases t1 with
        | nil => exact Nat.zero_le _
        | cons y rest1 => show p1 + δ + 620 * rest1.length ≤ p1 + 620 * rest1.length + δ; omega
      omega
end Go.Proofs.YtmemkmnnededgaaDoor.H

namespace Go.Proofs.YtmemkmnnededgaaDoor.H
open Go.RowKit Go.Proofs.YtmemkmnnededgaaDoorW.PrintWords Go.Proofs.YtmemkmnnededgaaDoorW.PrintLast Go.Proofs.YtmemkmnnededgaaDoorW.PrintMore
set_option linter.unusedVariables false
set_option linter.unusedSimpArgs false

/-- Two lists that rise strictly, with the same members, are one. -/
theorem eq_of_rising {α : Type} {lt : α → α → Prop} (irr : ∀ x, ¬ lt x x) (tr : ∀ x y z, lt x y → lt y z → lt x z) : ∀ (A M : List α), A.Pairwise lt → M.Pairwise lt → (∀ x, x ∈ A ↔ x ∈ M) → A = M
  | [], [], _, _, _ => rfl
  | [], m :: M, _, _, h => by
    have := (h m).2 (by simp)
    simp at this
  | a :: A, [], _, _, h => by
    have := (h a).1 (by simp)
    simp at this
  | a :: A, m :: M, hA, hM, h => by
    rw [List.pairwise_cons] at hA hM
    have e : a = m := by
      have h1 := (h a).1 (by simp)
      have h2 := (h m).2 (by simp)
      rcases List.mem_cons.1 h1 with e | h1
      · exact e
      · rcases List.mem_cons.1 h2 with e | h2
        · exact e.symm
        · exact absurd (tr _ _ _ (hA.1 m h2) (hM.1 a h1)) (irr a)
    subst e
    refine congrArg (a :: ·) (eq_of_rising irr tr A M hA.2 hM.2 (fun x => ?_))
    constructor
    · intro hx
      rcases List.mem_cons.1 ((h x).1 (List.mem_cons_of_mem _ hx)) with e | h2
      · subst e; exact absurd (hA.1 x hx) (irr x)
      · exact h2
    · intro hx
      rcases List.mem_cons.1 ((h x).2 (List.mem_cons_of_mem _ hx)) with e | h2
      · subst e; exact absurd (hM.1 x hx) (irr x)
      · exact h2
theorem keysUp_mem {ents : List Ent} {cs : Nat → List Nat} {x : ByteArray} : ∀ n, x ∈ keysUp ents cs n ↔ ∃ b, b < n ∧ ∃ m, m ∈ cs b ∧ (entAt ents m).key = x
  | 0 => by simp [keysUp]
  | n + 1 => by
    rw [keysUp, List.mem_append, keysUp_mem n, keysOf, List.mem_map]
    constructor
    · rintro (⟨b, hb, h⟩ | h)
      · exact ⟨b, by omega, h⟩
      · exact ⟨n, by omega, h⟩
    · rintro ⟨b, hb, h⟩
      by_cases e : b = n
      · subst e; exact Or.inr h
      · exact Or.inl ⟨b, by omega, h⟩
section
variable {keys : List ByteArray} {g : G} {k : Nat}
theorem keysUp_nodup (gi : GI keys g k) : ∀ n, n ≤ g.nb → (keysUp g.ents g.ch n).Nodup
  | 0, _ => by simp [keysUp]
  | n + 1, hn => by
    rw [keysUp, List.nodup_append]
    refine ⟨keysUp_nodup gi n (by omega), gi.hn n (by omega), fun x hx y hy e => ?_⟩
    subst e
    obtain ⟨b, hb, m, hm, hk⟩ := (keysUp_mem n).1 hx
    obtain ⟨m', hm', hk'⟩ := List.mem_map.1 hy
    have h1 := (gi.hm b (by omega) m hm).2.2.2
    have h2 := (gi.hm n (by omega) m' hm').2.2.2
    have e1 : g.ekey m = x := hk
    have e2 : g.ekey m' = x := hk'
    rw [e1] at h1
    rw [e2] at h2
    omega
/-- Both workers are done: who is in. -/
theorem in_both (gi : GI keys g k) (cH : ∀ key, key ∈ keys → isKeyB key = true → inH g key) (cS : ∀ key, key ∈ keys → isKeyB key = true → inS g key) (x : ByteArray) :
    (x ∈ keysUp g.ents g.ch g.nb ↔ x ∈ keys ∧ isKeyB x = true) ∧ (x ∈ nkeys g.ns (g.lst 0) ↔ x ∈ keys ∧ isKeyB x = true) := by
  constructor
  · rw [keysUp_mem]
    constructor
    · rintro ⟨b, hb, m, hm, rfl⟩
      have h1 := gi.hm b hb m hm
      exact gi.he m h1.1 h1.2.1
    · rintro ⟨h1, h2⟩
      obtain ⟨m, hm, hk⟩ := cH x h1 h2
      exact ⟨_, bk_lt gi x, m, hm, hk⟩
  · unfold nkeys
    rw [List.mem_map]
    constructor
    · rintro ⟨m, hm, rfl⟩
      have h1 := gi.sm 0 (by omega) m hm
      have h2 := gi.sn m h1.1 h1.2.1
      exact ⟨h2.1, h2.2.1⟩
    · rintro ⟨h1, h2⟩
      exact cS x h1 h2
theorem fin_eq (gi : GI keys g k) (cH : ∀ key, key ∈ keys → isKeyB key = true → inH g key) (cS : ∀ key, key ∈ keys → isKeyB key = true → inS g key) : sortB (keysUp g.ents g.ch g.nb) = nkeys g.ns (g.lst 0) := by
  have hinj : ∀ x y : ByteArray, x.data.toList = y.data.toList → x = y := fun x y h => ByteArray.ext (Array.toList_inj.1 h)
  have hA : (keysUp g.ents g.ch g.nb).Nodup := keysUp_nodup gi g.nb (Nat.le_refl _)
  have hs : ((keysUp g.ents g.ch g.nb).map (fun b => b.data.toList)).mergeSort (fun x y => decide (x ≤ y)) = (nkeys g.ns (g.lst 0)).map (fun b => b.data.toList) := by
    refine eq_of_rising (lt := fun x y : List UInt8 => x < y) (fun x => List.lt_irrefl x) (fun x y z h1 h2 => List.lt_trans h1 h2) _ _ ?_ ?_ (fun x => ?_)
    · have h1 := List.pairwise_mergeSort (le := fun x y : List UInt8 => decide (x ≤ y)) (fun a b c h1 h2 => by simp only [decide_eq_true_eq] at *; exact List.le_trans h1 h2) (fun a b => by simp only [Bool.or_eq_true, decide_eq_true_eq]; exact List.le_total a b) ((keysUp g.ents g.ch g.nb).map (fun b => b.data.toList))
      have h2 : (((keysUp g.ents g.ch g.nb).map (fun b => b.data.toList)).mergeSort (fun x y => decide (x ≤ y))).Nodup := by
        rw [(List.mergeSort_perm _ _).nodup_iff]
        unfold List.Nodup
        rw [List.pairwise_map]
        exact hA.imp (fun hne e => hne (hinj _ _ e))
      refine (h1.and h2).imp (fun {a b} h => ?_)
      have h3 : a ≤ b := of_decide_eq_true h.1
      rcases List.le_iff_lt_or_eq.1 h3 with h4 | h4
      · exact h4
      · exact absurd h4 h.2
    · unfold nkeys
      rw [List.map_map, List.pairwise_map]
      exact (gi.so 0 (by omega)).imp (fun h => (ltB_iff _ _).1 h)
    · rw [List.mem_mergeSort, List.mem_map, List.mem_map]
      constructor
      · rintro ⟨y, hy, rfl⟩
        exact ⟨y, ((in_both gi cH cS y).2).2 (((in_both gi cH cS y).1).1 hy), rfl⟩
      · rintro ⟨y, hy, rfl⟩
        exact ⟨y, ((in_both gi cH cS y).1).2 (((in_both gi cH cS y).2).1 hy), rfl⟩
  unfold sortB
  rw [hs, List.map_map]
  have : ((fun x : List UInt8 => (⟨x.toArray⟩ : ByteArray)) ∘ fun b : ByteArray => b.data.toList) = id := by
    funext b
    simp
  rw [this, List.map_id]
theorem Chv_of (gi : GI keys g k) {b : Nat} (hb : b < g.nb) : ∀ (L : List Nat) (n : Nat), (∀ m, m ∈ L → m ∈ g.ch b) → HC g L n → Chv g.a g.ents L n
  | [], n, _, h => h
  | m :: L, n, hm, ⟨h1, n', h2, h3⟩ => by
    have h4 := gi.hm b hb m (hm m (by simp))
    exact ⟨h1, h4.1, h4.2.1, gi.ci.tk _ (gi.l_en hb (hm m (by simp))), n', h2, Chv_of gi hb L n' (fun x hx => hm x (by simp [hx])) h3⟩
theorem Lk_of (gi : GI keys g k) : ∀ (L : List Nat) (p : Nat), (p = 0 ∨ p ∈ g.lst 0) → (∀ m, m ∈ L → m ∈ g.lst 0) → SL g 0 p L → Lk g.a g.ns g.bs.length 0 p L
  | [], p, hp, _, h => ⟨gi.ci.tk _ (gi.l_tw (by omega) hp), h⟩
  | q :: L, p, hp, hm, ⟨h1, h2⟩ => by
    have h3 := gi.sm 0 (by omega) q (hm q (by simp))
    exact ⟨gi.ci.tk _ (gi.l_tw (by omega) hp), h1, h3.1, h3.2.1, Lk_of gi L q (Or.inr (hm q (by simp))) (fun x hx => hm x (by simp [hx])) h2⟩
theorem lst_len (gi : GI keys g k) (hkl : keys.length ≤ 40) : (g.lst 0).length ≤ 40 := by
  have := nodup_len ((g.lst 0).map g.nkey) keys (by
    unfold List.Nodup
    rw [List.pairwise_map]
    exact (gi.so 0 (by omega)).imp (fun h e => by rw [e] at h; exact ltB_irrefl _ h)) (fun x hx => by
    obtain ⟨m, hm, rfl⟩ := List.mem_map.1 hx
    have h1 := gi.sm 0 (by omega) m hm
    exact (gi.sn m h1.1 h1.2.1).1)
  rw [List.length_map] at this
  omega
end
end Go.Proofs.YtmemkmnnededgaaDoor.H

