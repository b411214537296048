/- The closures of line and token. -/
import Derived.Test.YtdoaeapahgmfoaaGreatDoorL1
namespace Go.Proofs.YtdoaeapahgmfoaaGreatDoor
open Go.RowKit

theorem enters_blank (args : Array Value) (w : World) : (callFunc 81 args).run Tryz.prog w = .ok (.enter 81 args) w := by kernel_rfl
set_option maxHeartbeats 400000 in
theorem blank_fn : ByteFn 81 (fun b => b.toNat == 32) := by
  refine ⟨enters_blank, fun b w => ?_⟩
  go_enter Tryz.func81, Tryz.ntmps81
  go_wp2
  all_goals (go_ret; refine ⟨ret_bool ?_, rfl⟩; rw [Bool.eq_iff_iff]; simp; try omega)

theorem enters_nonl (args : Array Value) (w : World) : (callFunc 85 args).run Tryz.prog w = .ok (.enter 85 args) w := by kernel_rfl
set_option maxHeartbeats 400000 in
theorem nonl_fn : ByteFn 85 (fun b => b.toNat != 10) := by
  refine ⟨enters_nonl, fun b w => ?_⟩
  go_enter Tryz.func85, Tryz.ntmps85
  go_wp2
  all_goals (go_ret; refine ⟨ret_bool ?_, rfl⟩; rw [Bool.eq_iff_iff]; simp; try omega)

theorem enters_digit (args : Array Value) (w : World) : (callFunc 133 args).run Tryz.prog w = .ok (.enter 133 args) w := by kernel_rfl
theorem digit_fn : ByteFn 133 digitB := ⟨enters_digit, digit_any⟩

def wordB (b : UInt8) : Bool := lowB b || digitB b
theorem enters_word (args : Array Value) (w : World) : (callFunc 132 args).run Tryz.prog w = .ok (.enter 132 args) w := by kernel_rfl
set_option maxHeartbeats 400000 in
theorem word_fn : ByteFn 132 wordB := by
  refine ⟨enters_word, fun b w => ?_⟩
  by_cases hl : lowB b = true
  · go_enter Tryz.func132, Tryz.ntmps132
    go_wp2_with fail
    refine (low_any _ _).mono ?_; rintro e w' ⟨rfl, rfl⟩
    go_wp2_with fail
    all_goals (go_ret; refine ⟨ret_bool ?_, rfl⟩; simp [wordB, hl])
  · have hl' : lowB b = false := by simpa using hl
    clear hl
    go_enter Tryz.func132, Tryz.ntmps132
    go_wp2_with fail
    refine (low_any _ _).mono ?_; rintro e w' ⟨rfl, rfl⟩
    go_wp2_with fail
    refine (digit_any _ _).mono ?_; rintro e w' ⟨rfl, rfl⟩
    go_wp2_with fail
    all_goals (go_ret; refine ⟨ret_bool ?_, rfl⟩; simp [wordB, hl'])

/-- The end of a line, or of the text. -/
def endB (l : List UInt8) (i : Nat) : Bool := match l[i]? with
  | none => true
  | some b => b.toNat == 10

set_option maxRecDepth 100000 in
set_option maxHeartbeats 400000 in
theorem end_any {w : World} {x i bx : Nat} {s : ByteArray} {vo vp : Value} {ts : List Tok} {os : List Nat} (h : LexC w x s i vo vp ts os) (hi : i ≤ s.size)
    (hb : w.cell? ⟨bx, 0, none⟩ = some (.pointer (some ⟨x, 0, none⟩))) :
    Calls Tryz.prog 83 #[.pointer (some ⟨bx, 0, none⟩)] w fun e w' => e = .returned (.bool (endB s.data.toList i)) ∧ ∃ n, w' = w.drewN n := by
  have c0 := h.c0
  have c1 := h.c1
  by_cases hlt : i < s.size
  · have hne : ((i : Int) == (s.size : Int)) = false := by rw [beq_eq_false_iff_ne]; omega
    have hE : endB s.data.toList i = (s[i].toNat == 10) := by
      unfold endB; rw [List.getElem?_eq_getElem (by simpa using hlt)]; rfl
    have HE := Lib.hid hE; clear hE h
    go_enter Tryz.func83, Tryz.ntmps83
    go_wp2_with fail
    go_quiet (fail)
    go_wp2_with fail
    go_ret
    exact ⟨ret_bool (by rw [HE.out, Bool.eq_iff_iff]; simp; omega), nq, rfl⟩
  · have he : i = s.size := by omega
    have hE : endB s.data.toList i = true := by
      unfold endB; rw [List.getElem?_eq_none (by simp; omega)]
    have HE := Lib.hid hE; clear hE h
    have hne : ((i : Int) == (s.size : Int)) = true := by rw [beq_iff_eq]; omega
    clear he
    go_enter Tryz.func83, Tryz.ntmps83
    go_wp2_with fail
    go_quiet (fail)
    go_wp2_with fail
    go_ret
    exact ⟨ret_bool (by rw [HE.out]), nq, rfl⟩

theorem enters_end (args : Array Value) (w : World) : (callFunc 83 args).run Tryz.prog w = .ok (.enter 83 args) w := by kernel_rfl

theorem end_quiet {w : World} {x i bx : Nat} {s : ByteArray} {vo vp : Value} {ts : List Tok} {os : List Nat} (h : LexC w x s i vo vp ts os) (hi : i ≤ s.size)
    (hb : w.cell? ⟨bx, 0, none⟩ = some (.pointer (some ⟨x, 0, none⟩))) {b : Bool} (hE : endB s.data.toList i = b) (n : Nat) :
    Calls Tryz.prog 83 #[.pointer (some ⟨bx, 0, none⟩)] (w.drewN n) fun e w'' => e = .returned (.bool b) ∧ ∃ m, w'' = w.drewN m := by
  subst hE
  exact Calls.quiet_of (end_any (h.drewN n) hi hb)

/-- Behind a comment, if one begins here. -/
def commentL (l : List UInt8) (i : Nat) : Nat := match l[i]? with
  | none => i
  | some b => if b.toNat = 35 then spanL (fun b => b.toNat != 10) l i else i
theorem commentL_le (l : List UInt8) (i : Nat) (h : i ≤ l.length) : i ≤ commentL l i ∧ commentL l i ≤ l.length := by
  unfold commentL; split
  · omega
  · split
    · exact spanL_le _ _ _ h
    · omega

theorem quiet_add {P : Program} {f : FuncId} {args : Array Value} {w : World} {a n : Nat} {v : Value}
    (h : Calls P f args (w.drewN (a + n)) fun e w' => e = .returned v ∧ ∃ m, w' = (w.drewN (a + n)).drewN m) :
    Calls P f args (w.drewN (a + n)) fun e w'' => e = .returned v ∧ ∃ m, w'' = w.drewN (a + m) :=
  h.mono fun _ _ ⟨he, m, hm⟩ => ⟨he, n + m, by rw [hm, World.drewN_drewN, Nat.add_assoc]⟩
theorem quiet_left {P : Program} {f : FuncId} {args : Array Value} {w : World} {n : Nat} {v : Value}
    (h : Calls P f args (w.drewN n) fun e w' => e = .returned v ∧ w.drewN n = w') : Calls P f args (w.drewN n) fun e w'' => e = .returned v ∧ ∃ m, w'' = w.drewN m :=
  h.mono fun _ _ ⟨he, hm⟩ => ⟨he, n, hm.symm⟩

set_option maxRecDepth 100000 in
set_option maxHeartbeats 400000 in
theorem comment_any {w : World} {x i bx be : Nat} {s : ByteArray} {vo vp : Value} {ts : List Tok} {os : List Nat} (h : LexC w x s i vo vp ts os) (hs : s.size ≤ 6000) (hi : i ≤ s.size)
    (hb : w.cell? ⟨bx, 0, none⟩ = some (.pointer (some ⟨x, 0, none⟩))) (hbe : w.cell? ⟨be, 0, none⟩ = some (.func (.func 83) #[] #[.pointer (some ⟨bx, 0, none⟩)])) :
    Calls Tryz.prog 84 #[.pointer (some ⟨be, 0, none⟩), .pointer (some ⟨bx, 0, none⟩)] w fun e w' => e = .returned (.tuple #[]) ∧
      LexC w' x s (commentL s.data.toList i) vo vp ts os ∧ Stp x w w' := by
  have c0 := h.c0
  have c1 := h.c1
  have he := enters_end
  by_cases hE : endB s.data.toList i = true
  · have hC : commentL s.data.toList i = i := by
      unfold endB at hE; unfold commentL
      split
      · rfl
      · rename_i b hb; rw [hb] at hE; simp only [beq_iff_eq] at hE
        rw [if_neg (by omega)]
    have HE := Lib.hid hE; clear hE
    have HC := Lib.hid hC; clear hC
    go_enter Tryz.func84, Tryz.ntmps84
    go_wp2_with fail
    go_quiet ((go_at_call 83; exact end_quiet h hi hb HE.out _))
    go_wp2_with fail
    go_end0
    refine ⟨rfl, ?_, Stp.drewN _ _ _⟩
    rw [HC.out]; exact h.drewN nq
  · have hlt : i < s.size := by
      rcases Nat.lt_or_ge i s.size with h1 | h1
      · exact h1
      · exfalso; apply hE; unfold endB; rw [List.getElem?_eq_none (by simpa using h1)]
    have hE' : endB s.data.toList i = false := by simpa using hE
    have HE := Lib.hid hE'; clear hE hE'
    go_enter Tryz.func84, Tryz.ntmps84
    go_wp2_with fail
    go_quiet ((go_at_call 83; exact end_quiet h hi hb HE.out _))
    have h2 := h.drewN nq
    have b2 : (w.drewN nq).cell? ⟨bx, 0, none⟩ = some (.pointer (some ⟨x, 0, none⟩)) := hb
    have s2 := Stp.drewN x w nq
    clear c0 c1 hb hbe h
    generalize w.drewN nq = w2 at *
    go_wp2_with fail
    · refine region_still_tail 9 (by kernel_rfl) (by kernel_rfl) (fun w3 hw3 => ?_)
      have h3 : LexC w3 x s i vo vp ts os := by rw [hw3]; exact h2.drewN 1
      have b3 : w3.cell? ⟨bx, 0, none⟩ = some (.pointer (some ⟨x, 0, none⟩)) := by rw [hw3]; exact b2
      have s3 : Stp x w w3 := s2.trans (by rw [hw3]; exact Stp.drewN x w2 1)
      have c0 := h3.c0
      have c1 := h3.c1
      have f1 := h3.f 1
      clear hw3 h2 b2 s2
      simp only [List.take_succ_cons, List.take_zero, List.drop_succ_cons, List.drop_zero]
      repeat still_step
      still_call ((span_any _ _ nonl_fn x s i _ hs hi c0).mono fun _ _ ⟨h1, h2⟩ => ⟨h1, h2.symm⟩)
      repeat still_step
      refine wpStill_nil ?_
      go_wp2_with fail
      go_end0
      have hx : ((s[i].toNat : Int) == 35) = true := by assumption
      have hx' : s[i].toNat = 35 := by simp at hx; omega
      have hC : commentL s.data.toList i = spanL (fun b => b.toNat != 10) s.data.toList i := by
        unfold commentL; rw [List.getElem?_eq_getElem (by simpa using hlt)]; exact if_pos hx'
      rw [hC]
      have h4 := h3.setAt (spanL (fun b => b.toNat != 10) s.data.toList i)
      exact ⟨rfl, h4.1, s3.trans h4.2⟩
    · go_end0
      have hx : ((s[i].toNat : Int) == 35) = false := by assumption
      have hx' : s[i].toNat ≠ 35 := by intro e; rw [e] at hx; simp at hx
      have hC : commentL s.data.toList i = i := by
        unfold commentL; rw [List.getElem?_eq_getElem (by simpa using hlt)]; exact if_neg hx'
      rw [hC]
      exact ⟨rfl, h2, s2⟩

theorem enters_comment (args : Array Value) (w : World) : (callFunc 84 args).run Tryz.prog w = .ok (.enter 84 args) w := by kernel_rfl
end Go.Proofs.YtdoaeapahgmfoaaGreatDoor
