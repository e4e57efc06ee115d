/- Contracts of the program's package record: the reader's methods. -/
import Derived.Test.YtmemkmnnededgaaHB
namespace Go.Proofs.Ytmemkmnnededgaa.H
open Go.RowKit Go.Proofs.YtmemkmnnededgaaW.PrintWords Go.Proofs.YtmemkmnnededgaaW.PrintLast Go.Proofs.YtmemkmnnededgaaW.PrintMore
attribute [local go_sem] max2_int min2_int max_two min_two max_three min_three max_four min_four
set_option linter.unusedVariables false
set_option linter.unusedSimpArgs false

/-- Where a reader is, and the place of the first fault (below 0: none yet). -/
structure St where
  at_ : Int
  bad : Int
def rdNum (b : List Int) (most : Int) (s : St) : Int × St :=
  if 0 ≤ s.bad then (0, s)
  else if (takeR b s.at_).2.2 = true ∧ (takeR b s.at_).1 ≤ most then ((takeR b s.at_).1, ⟨(takeR b s.at_).2.1, s.bad⟩)
  else (0, ⟨s.at_, s.at_⟩)
def rdText (b : List Int) (most : Int) (s : St) : ByteArray × St :=
  if 0 ≤ s.bad then (⟨#[]⟩, s)
  else if (takeTextR b s.at_ most).2.2 = true then ((takeTextR b s.at_ most).1, ⟨(takeTextR b s.at_ most).2.1, s.bad⟩)
  else (⟨#[]⟩, ⟨s.at_, s.at_⟩)
def rdFlag (b : List Int) (s : St) : Bool × St :=
  if 0 ≤ s.bad then (false, s)
  else if s.at_ < b.length ∧ b.getD s.at_.toNat 0 ≤ 1 then (b.getD s.at_.toNat 0 == 1, ⟨s.at_ + 1, s.bad⟩)
  else (false, ⟨s.at_, s.at_⟩)

def TR : List TypeId := [108]
/-- The program's reader at block g of w; its bytes came in by w0. -/
structure RdAt (w0 w : World) (g : Nat) (b : List Int) (s : St) : Prop where
  blk : ∃ A c, w.heap[g]? = some (.cells #[.slice A b.length c, .int .i64 s.at_, .bool (decide (0 ≤ s.bad))] 108 (0, 0)) ∧ U8.C w0 A b.length b ∧ b.length ≤ c
  old : Below w0.heap.size w0 w
  ge : w0.heap.size ≤ g
  len : b.length < 140737488355328
  bytes : Bytes b
  pos : 0 ≤ s.at_ ∧ s.at_ ≤ 140737488355328

/-! ### The methods -/
section
variable {w0 w w' : World} {g : Nat} {b : List Int} {s : St}
theorem RdAt.drewN (h : RdAt w0 w g b s) (n : Nat) : RdAt w0 (w.drewN n) g b s := ⟨h.blk, pw_below_drewN h.old n, h.ge, h.len, h.bytes, h.pos⟩
theorem RdAt.drew (h : RdAt w0 w g b s) : RdAt w0 w.drew g b s := ⟨h.blk, below_drew h.old, h.ge, h.len, h.bytes, h.pos⟩
theorem RdAt.alloc (h : RdAt w0 w g b s) (o : Obj) : RdAt w0 (w.alloc o) g b s := by
  obtain ⟨A, c, hb, hC, hc⟩ := h.blk
  exact ⟨⟨A, c, blk_alloc hb o, hC, hc⟩, h.old.alloc h.old.size o, h.ge, h.len, h.bytes, h.pos⟩
theorem RdAt.setBad (h : RdAt w0 w g b s) (bad' : Int) (v : Bool) (hv : v = decide (0 ≤ bad')) : RdAt w0 (w.setCell ⟨g, 2, none⟩ (.bool v)) g b ⟨s.at_, bad'⟩ := by
  obtain ⟨A, c, hb, hC, hc⟩ := h.blk
  subst hv
  exact ⟨⟨A, c, blk_put hb 2 _ rfl, hC, hc⟩, h.old.setCell h.ge _, h.ge, h.len, h.bytes, h.pos⟩
theorem RdAt.setPos (h : RdAt w0 w g b s) (a' : Int) (h0 : 0 ≤ a') (h1 : a' ≤ 140737488355328) : RdAt w0 (w.setCell ⟨g, 1, none⟩ (.int .i64 a')) g b ⟨a', s.bad⟩ := by
  obtain ⟨A, c, hb, hC, hc⟩ := h.blk
  exact ⟨⟨A, c, blk_put hb 1 _ rfl, hC, hc⟩, h.old.setCell h.ge _, h.ge, h.len, h.bytes, ⟨h0, h1⟩⟩
theorem RdAt.lt (h : RdAt w0 w g b s) : g < w.heap.size := by
  obtain ⟨A, c, hb, _⟩ := h.blk
  exact blk_lt hb
theorem RdAt.frSet (h : RdAt w0 w g b s) {wa : World} (hf : FrT TR w0.heap.size wa w) (j : Nat) (u : Value) : FrT TR w0.heap.size wa (w.setCell ⟨g, j, none⟩ u) := by
  obtain ⟨A, c, hb, _⟩ := h.blk
  exact hf.setCell hb (by simp [TR]) h.ge j u
end

set_option maxRecDepth 100000 in
set_option maxHeartbeats 1600000 in
theorem num_bad (w0 : World) (g : Nat) (b : List Int) (most a bad : Int) (w : World) (hr : RdAt w0 w g b ⟨a, bad⟩) (hb : 0 ≤ bad) :
    Calls Try.prog 47 #[.pointer (some ⟨g, 0, none⟩), .int .i64 most] w fun e w' => e = .returned (.int .i64 0) ∧ RdAt w0 w' g b ⟨a, bad⟩ ∧ FrT TR w0.heap.size w w' := by
  obtain ⟨A, c, hblk, hC, hc⟩ := hr.blk
  have hd : decide (0 ≤ bad) = true := decide_eq_true hb
  simp only [hd] at hblk
  have HR := Aside0.mk hr
  have HC := Aside0.mk (Kd.C_below hC hr.old)
  have h0 : w.cell? ⟨g, 0, none⟩ = some (.slice A b.length c) := (blk_cell hblk 0).trans rfl
  have h1 : w.cell? ⟨g, 1, none⟩ = some (.int .i64 a) := (blk_cell hblk 1).trans rfl
  have h2 : w.cell? ⟨g, 2, none⟩ = some (.bool true) := (blk_cell hblk 2).trans rfl
  have h3 : w.frozen? ⟨g, 2, none⟩ = false := blk_frozen hblk 2
  have h4 : w.frozen? ⟨g, 1, none⟩ = false := blk_frozen hblk 1
  have HT := Aside0.mk (fun n => take_any A c b a (w.drewN n) (Kd.C_drewN HC.out n) hc hr.len hr.bytes)
  have HBAD := Aside0.mk hb
  generalize takeR b a = r at *
  obtain ⟨n, nx, ok⟩ := r
  clear hb
  simp only [takeV] at HT
  clear hr hblk hC hd
  go_enter Try.func47, Try.ntmps47
  go_wp2_with fail
  go_quiet ((go_at_call 78; exact Calls.quiet_of_same (HT.out _)))
  go_wp2_with fail
  go_ret
  exact ⟨rfl, (HR.out.drewN nq).setBad bad true (decide_eq_true HBAD.out).symm, (HR.out.drewN nq).frSet ((FrT.refl _ _ _).drewN nq) 2 _⟩

set_option maxRecDepth 100000 in
set_option maxHeartbeats 1600000 in
theorem num_none (w0 : World) (g : Nat) (b : List Int) (most a bad : Int) (w : World) (hr : RdAt w0 w g b ⟨a, bad⟩) (hb : bad < 0) (hok : (takeR b a).2.2 = false) :
    Calls Try.prog 47 #[.pointer (some ⟨g, 0, none⟩), .int .i64 most] w fun e w' => e = .returned (.int .i64 0) ∧ RdAt w0 w' g b ⟨a, a⟩ ∧ FrT TR w0.heap.size w w' := by
  obtain ⟨A, c, hblk, hC, hc⟩ := hr.blk
  have hd : decide (0 ≤ bad) = false := decide_eq_false (by omega)
  simp only [hd] at hblk
  have HR := Aside0.mk hr
  have HC := Aside0.mk (Kd.C_below hC hr.old)
  have h0 : w.cell? ⟨g, 0, none⟩ = some (.slice A b.length c) := (blk_cell hblk 0).trans rfl
  have h1 : w.cell? ⟨g, 1, none⟩ = some (.int .i64 a) := (blk_cell hblk 1).trans rfl
  have h2 : w.cell? ⟨g, 2, none⟩ = some (.bool false) := (blk_cell hblk 2).trans rfl
  have h3 : w.frozen? ⟨g, 2, none⟩ = false := blk_frozen hblk 2
  have h4 : w.frozen? ⟨g, 1, none⟩ = false := blk_frozen hblk 1
  have HT := Aside0.mk (fun n => take_any A c b a (w.drewN n) (Kd.C_drewN HC.out n) hc hr.len hr.bytes)
  have HP := Aside0.mk (show 0 ≤ a from hr.pos.1)
  generalize takeR b a = r at *
  obtain ⟨n, nx, ok⟩ := r
  simp only at hok
  subst hok
  simp only [takeV] at HT
  clear hr hblk hC hd
  go_enter Try.func47, Try.ntmps47
  go_wp2_with fail
  go_quiet ((go_at_call 78; exact Calls.quiet_of_same (HT.out _)))
  go_wp2_with fail
  go_ret
  exact ⟨rfl, (HR.out.drewN nq).setBad a true (decide_eq_true HP.out).symm, (HR.out.drewN nq).frSet ((FrT.refl _ _ _).drewN nq) 2 _⟩

set_option maxRecDepth 100000 in
set_option maxHeartbeats 1600000 in
theorem num_more (w0 : World) (g : Nat) (b : List Int) (most a bad : Int) (w : World) (hr : RdAt w0 w g b ⟨a, bad⟩) (hb : bad < 0) (hok : (takeR b a).2.2 = true) (hmost : most < (takeR b a).1) (hm0 : 0 ≤ most) (hm1 : most < 9223372036854775808) :
    Calls Try.prog 47 #[.pointer (some ⟨g, 0, none⟩), .int .i64 most] w fun e w' => e = .returned (.int .i64 0) ∧ RdAt w0 w' g b ⟨a, a⟩ ∧ FrT TR w0.heap.size w w' := by
  obtain ⟨A, c, hblk, hC, hc⟩ := hr.blk
  have hd : decide (0 ≤ bad) = false := decide_eq_false (by omega)
  simp only [hd] at hblk
  have HR := Aside0.mk hr
  have HC := Aside0.mk (Kd.C_below hC hr.old)
  have h0 : w.cell? ⟨g, 0, none⟩ = some (.slice A b.length c) := (blk_cell hblk 0).trans rfl
  have h1 : w.cell? ⟨g, 1, none⟩ = some (.int .i64 a) := (blk_cell hblk 1).trans rfl
  have h2 : w.cell? ⟨g, 2, none⟩ = some (.bool false) := (blk_cell hblk 2).trans rfl
  have h3 : w.frozen? ⟨g, 2, none⟩ = false := blk_frozen hblk 2
  have h4 : w.frozen? ⟨g, 1, none⟩ = false := blk_frozen hblk 1
  have HT := Aside0.mk (fun n => take_any A c b a (w.drewN n) (Kd.C_drewN HC.out n) hc hr.len hr.bytes)
  have HP := Aside0.mk (show 0 ≤ a from hr.pos.1)
  obtain ⟨n0, n1, _⟩ := takeR_bounds b a hok
  generalize takeR b a = r at *
  obtain ⟨n, nx, ok⟩ := r
  simp only at hok hmost n0 n1
  subst hok
  simp only [takeV] at HT
  clear hr hblk hC hd
  go_enter Try.func47, Try.ntmps47
  go_wp2_with fail
  go_quiet ((go_at_call 78; exact Calls.quiet_of_same (HT.out _)))
  go_wp2_with fail
  go_ret
  exact ⟨rfl, (HR.out.drewN nq).setBad a true (decide_eq_true HP.out).symm, (HR.out.drewN nq).frSet ((FrT.refl _ _ _).drewN nq) 2 _⟩

set_option maxRecDepth 100000 in
set_option maxHeartbeats 1600000 in
theorem num_good (w0 : World) (g : Nat) (b : List Int) (most a bad : Int) (w : World) (hr : RdAt w0 w g b ⟨a, bad⟩) (hb : bad < 0) (hok : (takeR b a).2.2 = true) (hmost : (takeR b a).1 ≤ most) (hm1 : most < 9223372036854775808) :
    Calls Try.prog 47 #[.pointer (some ⟨g, 0, none⟩), .int .i64 most] w fun e w' => e = .returned (.int .i64 (takeR b a).1) ∧ RdAt w0 w' g b ⟨(takeR b a).2.1, bad⟩ ∧ FrT TR w0.heap.size w w' := by
  obtain ⟨A, c, hblk, hC, hc⟩ := hr.blk
  have hd : decide (0 ≤ bad) = false := decide_eq_false (by omega)
  simp only [hd] at hblk
  have HR := Aside0.mk hr
  have HC := Aside0.mk (Kd.C_below hC hr.old)
  have h0 : w.cell? ⟨g, 0, none⟩ = some (.slice A b.length c) := (blk_cell hblk 0).trans rfl
  have h1 : w.cell? ⟨g, 1, none⟩ = some (.int .i64 a) := (blk_cell hblk 1).trans rfl
  have h2 : w.cell? ⟨g, 2, none⟩ = some (.bool false) := (blk_cell hblk 2).trans rfl
  have h3 : w.frozen? ⟨g, 2, none⟩ = false := blk_frozen hblk 2
  have h4 : w.frozen? ⟨g, 1, none⟩ = false := blk_frozen hblk 1
  have HT := Aside0.mk (fun n => take_any A c b a (w.drewN n) (Kd.C_drewN HC.out n) hc hr.len hr.bytes)
  obtain ⟨n0, n1, p0, p1, p2⟩ := takeR_bounds b a hok
  have hlen := hr.len
  have HBD := Aside0.mk (decide_eq_false (show ¬ 0 ≤ bad by omega)).symm
  generalize takeR b a = r at *
  obtain ⟨n, nx, ok⟩ := r
  simp only at hok hmost n0 n1 p1 p2 ⊢
  subst hok
  have hmf : decide (most < n) = false := decide_eq_false (by omega)
  simp only [takeV] at HT
  clear hr hblk hC hd
  go_enter Try.func47, Try.ntmps47
  go_wp2_with fail
  go_quiet ((go_at_call 78; exact Calls.quiet_of_same (HT.out _)))
  go_wp2_with fail
  go_ret
  exact ⟨rfl, (((HR.out.drewN nq).setBad bad false HBD.out).setPos nx (by omega) (by omega)), ((HR.out.drewN nq).setBad bad false HBD.out).frSet ((HR.out.drewN nq).frSet ((FrT.refl _ _ _).drewN nq) 2 _) 1 _⟩

theorem takeTextR_bounds (b : List Int) (p most : Int) (h : (takeTextR b p most).2.2 = true) : 0 ≤ (takeTextR b p most).2.1 ∧ (takeTextR b p most).2.1 ≤ b.length := by
  unfold takeTextR at h ⊢
  split at h
  · rename_i hc
    rw [if_pos hc]
    obtain ⟨n0, n1, p0, p1, p2⟩ := takeR_bounds b p hc.1
    simp only
    omega
  · cases h

set_option maxRecDepth 100000 in
set_option maxHeartbeats 1600000 in
theorem text_bad (w0 : World) (g : Nat) (b : List Int) (most a bad : Int) (w : World) (hr : RdAt w0 w g b ⟨a, bad⟩) (hb : 0 ≤ bad) (hm : most < 9223372036854775808) :
    Calls Try.prog 39 #[.pointer (some ⟨g, 0, none⟩), .int .i64 most] w fun e w' => e = .returned (.string ⟨#[]⟩) ∧ RdAt w0 w' g b ⟨a, bad⟩ ∧ FrT TR w0.heap.size w w' := by
  obtain ⟨A, c, hblk, hC, hc⟩ := hr.blk
  have hd : decide (0 ≤ bad) = true := decide_eq_true hb
  simp only [hd] at hblk
  have HR := Aside0.mk hr
  have HC := Aside0.mk (Kd.C_below hC hr.old)
  have h0 : w.cell? ⟨g, 0, none⟩ = some (.slice A b.length c) := (blk_cell hblk 0).trans rfl
  have h1 : w.cell? ⟨g, 1, none⟩ = some (.int .i64 a) := (blk_cell hblk 1).trans rfl
  have h2 : w.cell? ⟨g, 2, none⟩ = some (.bool true) := (blk_cell hblk 2).trans rfl
  have h3 : w.frozen? ⟨g, 2, none⟩ = false := blk_frozen hblk 2
  have h4 : w.frozen? ⟨g, 1, none⟩ = false := blk_frozen hblk 1
  have HT := Aside0.mk (fun n => takeText_any A c b a most (w.drewN n) (Kd.C_drewN HC.out n) hc hr.len hr.bytes hm)
  have HBAD := Aside0.mk hb
  generalize takeTextR b a most = r at *
  obtain ⟨n, nx, ok⟩ := r
  clear hb
  simp only [takeTextV] at HT
  clear hr hblk hC hd
  go_enter Try.func39, Try.ntmps39
  go_wp2_with fail
  go_quiet ((go_at_call 74; exact Calls.quiet_of_same (HT.out _)))
  go_wp2_with fail
  go_ret
  exact ⟨rfl, (HR.out.drewN nq).setBad bad true (decide_eq_true HBAD.out).symm, (HR.out.drewN nq).frSet ((FrT.refl _ _ _).drewN nq) 2 _⟩

set_option maxRecDepth 100000 in
set_option maxHeartbeats 1600000 in
theorem text_none (w0 : World) (g : Nat) (b : List Int) (most a bad : Int) (w : World) (hr : RdAt w0 w g b ⟨a, bad⟩) (hb : bad < 0) (hok : (takeTextR b a most).2.2 = false) (hm : most < 9223372036854775808) :
    Calls Try.prog 39 #[.pointer (some ⟨g, 0, none⟩), .int .i64 most] w fun e w' => e = .returned (.string ⟨#[]⟩) ∧ RdAt w0 w' g b ⟨a, a⟩ ∧ FrT TR w0.heap.size w w' := by
  obtain ⟨A, c, hblk, hC, hc⟩ := hr.blk
  have hd : decide (0 ≤ bad) = false := decide_eq_false (by omega)
  simp only [hd] at hblk
  have HR := Aside0.mk hr
  have HC := Aside0.mk (Kd.C_below hC hr.old)
  have h0 : w.cell? ⟨g, 0, none⟩ = some (.slice A b.length c) := (blk_cell hblk 0).trans rfl
  have h1 : w.cell? ⟨g, 1, none⟩ = some (.int .i64 a) := (blk_cell hblk 1).trans rfl
  have h2 : w.cell? ⟨g, 2, none⟩ = some (.bool false) := (blk_cell hblk 2).trans rfl
  have h3 : w.frozen? ⟨g, 2, none⟩ = false := blk_frozen hblk 2
  have h4 : w.frozen? ⟨g, 1, none⟩ = false := blk_frozen hblk 1
  have HT := Aside0.mk (fun n => takeText_any A c b a most (w.drewN n) (Kd.C_drewN HC.out n) hc hr.len hr.bytes hm)
  have HP := Aside0.mk (show 0 ≤ a from hr.pos.1)
  generalize takeTextR b a most = r at *
  obtain ⟨n, nx, ok⟩ := r
  simp only at hok
  subst hok
  simp only [takeTextV] at HT
  clear hr hblk hC hd
  go_enter Try.func39, Try.ntmps39
  go_wp2_with fail
  go_quiet ((go_at_call 74; exact Calls.quiet_of_same (HT.out _)))
  go_wp2_with fail
  go_ret
  exact ⟨rfl, (HR.out.drewN nq).setBad a true (decide_eq_true HP.out).symm, (HR.out.drewN nq).frSet ((FrT.refl _ _ _).drewN nq) 2 _⟩

set_option maxRecDepth 100000 in
set_option maxHeartbeats 1600000 in
theorem text_good (w0 : World) (g : Nat) (b : List Int) (most a bad : Int) (w : World) (hr : RdAt w0 w g b ⟨a, bad⟩) (hb : bad < 0) (hok : (takeTextR b a most).2.2 = true) (hm : most < 9223372036854775808) :
    Calls Try.prog 39 #[.pointer (some ⟨g, 0, none⟩), .int .i64 most] w fun e w' => e = .returned (.string (takeTextR b a most).1) ∧ RdAt w0 w' g b ⟨(takeTextR b a most).2.1, bad⟩ ∧ FrT TR w0.heap.size w w' := by
  obtain ⟨A, c, hblk, hC, hc⟩ := hr.blk
  have hd : decide (0 ≤ bad) = false := decide_eq_false (by omega)
  simp only [hd] at hblk
  have HR := Aside0.mk hr
  have HC := Aside0.mk (Kd.C_below hC hr.old)
  have h0 : w.cell? ⟨g, 0, none⟩ = some (.slice A b.length c) := (blk_cell hblk 0).trans rfl
  have h1 : w.cell? ⟨g, 1, none⟩ = some (.int .i64 a) := (blk_cell hblk 1).trans rfl
  have h2 : w.cell? ⟨g, 2, none⟩ = some (.bool false) := (blk_cell hblk 2).trans rfl
  have h3 : w.frozen? ⟨g, 2, none⟩ = false := blk_frozen hblk 2
  have h4 : w.frozen? ⟨g, 1, none⟩ = false := blk_frozen hblk 1
  have HT := Aside0.mk (fun n => takeText_any A c b a most (w.drewN n) (Kd.C_drewN HC.out n) hc hr.len hr.bytes hm)
  obtain ⟨p0, p1⟩ := takeTextR_bounds b a most hok
  have hlen := hr.len
  have HBD := Aside0.mk (decide_eq_false (show ¬ 0 ≤ bad by omega)).symm
  generalize takeTextR b a most = r at *
  obtain ⟨n, nx, ok⟩ := r
  simp only at hok p0 p1 ⊢
  subst hok
  simp only [takeTextV] at HT
  clear hr hblk hC hd
  go_enter Try.func39, Try.ntmps39
  go_wp2_with fail
  go_quiet ((go_at_call 74; exact Calls.quiet_of_same (HT.out _)))
  go_wp2_with fail
  go_ret
  exact ⟨rfl, (((HR.out.drewN nq).setBad bad false HBD.out).setPos nx (by omega) (by omega)), ((HR.out.drewN nq).setBad bad false HBD.out).frSet ((HR.out.drewN nq).frSet ((FrT.refl _ _ _).drewN nq) 2 _) 1 _⟩

theorem rnum_any (w0 : World) (g : Nat) (b : List Int) (most : Int) (s : St) (w : World) (hr : RdAt w0 w g b s) (hm0 : 0 ≤ most) (hm1 : most < 9223372036854775808) :
    Calls Try.prog 47 #[.pointer (some ⟨g, 0, none⟩), .int .i64 most] w fun e w' => e = .returned (.int .i64 (rdNum b most s).1) ∧ RdAt w0 w' g b (rdNum b most s).2 ∧ FrT TR w0.heap.size w w' := by
  obtain ⟨a, bad⟩ := s
  unfold rdNum
  simp only
  by_cases hb : 0 ≤ bad
  · rw [if_pos hb]
    exact num_bad w0 g b most a bad w hr hb
  · rw [if_neg hb]
    by_cases h1 : (takeR b a).2.2 = true
    · by_cases h2 : (takeR b a).1 ≤ most
      · rw [if_pos ⟨h1, h2⟩]
        exact num_good w0 g b most a bad w hr (by omega) h1 h2 hm1
      · rw [if_neg (fun h => h2 h.2)]
        exact num_more w0 g b most a bad w hr (by omega) h1 (by omega) hm0 hm1
    · rw [if_neg (fun h => h1 h.1)]
      exact num_none w0 g b most a bad w hr (by omega) (by simpa using h1)
theorem rtext_any (w0 : World) (g : Nat) (b : List Int) (most : Int) (s : St) (w : World) (hr : RdAt w0 w g b s) (hm1 : most < 9223372036854775808) :
    Calls Try.prog 39 #[.pointer (some ⟨g, 0, none⟩), .int .i64 most] w fun e w' => e = .returned (.string (rdText b most s).1) ∧ RdAt w0 w' g b (rdText b most s).2 ∧ FrT TR w0.heap.size w w' := by
  obtain ⟨a, bad⟩ := s
  unfold rdText
  simp only
  by_cases hb : 0 ≤ bad
  · rw [if_pos hb]
    exact text_bad w0 g b most a bad w hr hb hm1
  · rw [if_neg hb]
    by_cases h1 : (takeTextR b a most).2.2 = true
    · rw [if_pos h1]
      exact text_good w0 g b most a bad w hr (by omega) h1 hm1
    · rw [if_neg h1]
      exact text_none w0 g b most a bad w hr (by omega) (by simpa using h1) hm1
set_option maxHeartbeats 800000 in
theorem rtime_any (w0 : World) (g : Nat) (b : List Int) (s : St) (w : World) (hr : RdAt w0 w g b s) :
    Calls Try.prog 35 #[.pointer (some ⟨g, 0, none⟩)] w fun e w' => e = .returned (.int .i64 (rdNum b 1099511627775 s).1) ∧ RdAt w0 w' g b (rdNum b 1099511627775 s).2 ∧ FrT TR w0.heap.size w w' := by
  have HT := Aside0.mk (rnum_any w0 g b 1099511627775 s w hr (by omega) (by omega))
  generalize rdNum b 1099511627775 s = r at *
  clear hr
  go_enter Try.func35, Try.ntmps35
  go_wp2_with fail
  refine HT.out.mono ?_
  rintro e w1 ⟨rfl, h1, h2⟩
  have H1 := Aside0.mk (And.intro h1 h2)
  clear h1 h2
  go_wp2_with fail
  go_ret
  exact ⟨rfl, H1.out.1, H1.out.2⟩
end Go.Proofs.Ytmemkmnnededgaa.H
