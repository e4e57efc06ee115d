/- Words of keys: what is loaded and compared; a quiet region's steps that load a word, and compare two. -/
import Derived.Test.YtmemkmnnededgaaDoorD2
import Derived.Deep.MidRow
import Derived.Stop.BytesEq
namespace Go.Proofs.YtmemkmnnededgaaDoor.H
open Go.RowKit Go.Proofs.YtmemkmnnededgaaDoorW.PrintWords Go.Proofs.YtmemkmnnededgaaDoorW.PrintLast Go.Proofs.YtmemkmnnededgaaDoorW.PrintMore
abbrev u8c : UInt8 → Value := Extern.Stop.cell
set_option linter.unusedVariables false
set_option linter.unusedSimpArgs false

theorem wordF_lt (s : ByteArray) (i : Nat) : wordF s i < 256 := by
  unfold wordF
  split
  · split
    · exact UInt8.toNat_lt _
    · decide
  · omega
def wordU (s : ByteArray) : List UInt8 := (List.range 17).map fun i => UInt8.ofNat (wordF s i)
theorem wordU_len (s : ByteArray) : (wordU s).length = 17 := by simp [wordU]
theorem wordU_at (s : ByteArray) (j : Nat) (v : Value) (h : ((wordU s).map u8c)[j]? = some v) : j < 17 ∧ v = .int .u8 (wordF s j) := by
  have hj : j < 17 := by
    have := (List.getElem?_eq_some_iff.1 h).1
    simpa [wordU_len] using this
  refine ⟨hj, ?_⟩
  simp [wordU, hj, u8c, Extern.Stop.cell] at h
  rw [← h]
  have := wordF_lt s j
  simp
  omega
/-- Keys that may be have words of their own. -/
theorem wordU_inj {s t : ByteArray} (hs : s.size ≤ 16) (ht : t.size ≤ 16) (h : wordU s = wordU t) : s = t := by
  have hw : ∀ i, i < 17 → wordF s i = wordF t i := by
    intro i hi
    have e := congrArg (fun l : List UInt8 => l[i]?) h
    simp [wordU, hi] at e
    have e2 := congrArg UInt8.toNat e
    have h1 := wordF_lt s i
    have h2 := wordF_lt t i
    simp at e2
    omega
  have hsz : s.size = t.size := by
    have := hw 16 (by omega)
    unfold wordF at this
    simp at this
    omega
  apply ByteArray.ext
  apply Array.ext hsz
  intro i h1 h2
  have h1' : i < s.size := h1
  have h2' : i < t.size := h2
  have := hw i (by omega)
  unfold wordF at this
  rw [if_pos (by omega), if_pos (by omega), dif_pos h1', dif_pos h2'] at this
  exact UInt8.toNat_inj.1 this
theorem wordU_beq {s t : ByteArray} (hs : s.size ≤ 16) (ht : t.size ≤ 16) : (wordU s == wordU t) = decide (s = t) := by
  by_cases h : s = t
  · subst h; simp
  · rw [decide_eq_false h, beq_eq_false_iff_ne]
    exact fun e => h (wordU_inj hs ht e)
section
variable {P : Program} {ops : Array Oper} {rest : List Oper} {o : Oper} {a : Act} {w : World} {Q : Act → Prop}
theorem wpStill_load_mid (hw : Region.wanted o (yielded ops a.tmps) = true) (ty : TypeId) (x : Operand) (ho : o.op = .load ty x)
    (b off : Nat) (hx : a.eval x = .pointer (some ⟨b, off, none⟩)) (cs : List Value) (d : TypeDesc) (hc : w.rangeAt b off cs)
    (hu : P.underlying ty = some d) (hd : d.isRow = true) (hi : (P.info? ty).map (·.size) = some cs.length)
    (h : wpStill P ops w Q rest (a.put o.dst (.agg cs.toArray))) : wpStill P ops w Q (o :: rest) a := by
  unfold wpStill
  rw [if_pos hw]
  unfold Oper.still execOp
  simp only [ho, hx, Instr.loadAt, Instr.sureAddr, Sem.run_bind, Sem.run_pure, Result.andThen_ok, run_loadVar_mid w b off ty cs d hc hu hd hi]
  exact ⟨rfl, h⟩
theorem wpStill_eql_bytes (hw : Region.wanted o (yielded ops a.tmps) = true) (t t2 e : TypeId) (n : Nat) (x y : Operand) (ho : o.op = .binOp .eql t x y t2) (xs ys : List UInt8)
    (hx : a.eval x = .agg (xs.map u8c).toArray) (hy : a.eval y = .agg (ys.map u8c).toArray) (ht : P.underlying t = some (.array n e)) (he : P.underlying e = some (.int .u8)) (hsz : ∀ w, (sizeOf e).run P w = .ok 1 w) (hxl : xs.length = n) (hyl : ys.length = n) (hm : P.eqGuardType P.depth t = false)
    (h : wpStill P ops w Q rest (a.put o.dst (.bool (xs == ys)))) : wpStill P ops w Q (o :: rest) a := by
  unfold wpStill
  rw [if_pos hw]
  unfold Oper.still execOp
  simp only [ho, hx, hy, run_eqGuard_agg w _ _ _ _ _ _ hm, Sem.run_bind, Sem.run_pure, Result.andThen_ok, run_eql_bytes w t e n ht he hsz xs ys hxl hyl]
  exact ⟨rfl, h⟩
end
theorem NodeAt.word {B : Nat} {w : World} {b : Nat} {x : SNode} (h : NodeAt B w b x) (s : ByteArray) (hx : x.word = wordF s) : w.rangeAt b 1 ((wordU s).map u8c) := by
  intro j v hv
  obtain ⟨hj, rfl⟩ := wordU_at s j v hv
  refine (h.blk.cell (1 + j) (by omega)).trans ?_
  unfold nodeCell
  rw [if_neg (by omega), if_pos (by omega), hx, show 1 + j - 1 = j by omega]
theorem SoAt.word {B : Nat} {w : World} {o l : Nat} {op : SOp} (h : SoAt B w o l op) (s : ByteArray) (hx : op.word = wordF s) : w.rangeAt o 3 ((wordU s).map u8c) := by
  intro j v hv
  obtain ⟨hj, rfl⟩ := wordU_at s j v hv
  refine (h.cell (3 + j) (by omega)).trans ?_
  unfold sopCell
  rw [if_neg (by omega), if_neg (by omega), if_neg (by omega), if_pos (by omega), hx, show 3 + j - 3 = j by omega]
set_option maxRecDepth 100000 in
theorem sizeOf5 (w : World) : (sizeOf 5).run Tryd.prog w = .ok 1 w := by
  have h : (Tryd.prog.info? 5).map (·.size) = some 1 := by kernel_rfl
  cases hq : Tryd.prog.info? 5 with
  | none => rw [hq] at h; cases h
  | some i =>
    rw [hq] at h
    injection h with h
    simp [sizeOf, typeInfo, hq, h]
theorem SoAt.c1 {B : Nat} {w : World} {o l : Nat} {op : SOp} (h : SoAt B w o l op) : w.cell? ⟨o, 1, none⟩ = some (.int .i64 0) := h.cell 1 (by omega)
theorem wrap_i64_nat (n : Nat) (h : n < 1000000) : IntKind.i64.wrap (n : Int) = (n : Int) := by rw [IntKind.wrap_i64]; omega
end Go.Proofs.YtmemkmnnededgaaDoor.H
