/- Small functions of package lex: low, digit, span: what each computes. -/
import Derived.Test.YtdoaeapahgmfoaaGreatDoorProg
import Derived.WalkKit
import Derived.WalkLawsBesides
import Derived.Lib.Hide
namespace Go.Proofs.YtdoaeapahgmfoaaGreatDoor
open Go.RowKit

def lowB (b : UInt8) : Bool := decide (97 ≤ b.toNat ∧ b.toNat ≤ 122 ∨ b.toNat = 95)
def digitB (b : UInt8) : Bool := decide (48 ≤ b.toNat ∧ b.toNat ≤ 57)

theorem ret_bool {a b : Bool} (h : a = b) : Ending.returned (.bool a) = .returned (.bool b) := by rw [h]
theorem ret_i64 {a b : Int} (h : a = b) : Ending.returned (.int .i64 a) = .returned (.int .i64 b) := by rw [h]

set_option maxHeartbeats 400000 in
theorem digit_any (b : UInt8) (w : World) :
    Calls Tryz.prog 133 #[.int .u8 b.toNat] w fun e w' => e = .returned (.bool (digitB b)) ∧ w = w' := by
  go_enter Tryz.func133, Tryz.ntmps133
  go_wp2
  all_goals (go_ret; refine ⟨ret_bool ?_, rfl⟩; rw [Bool.eq_iff_iff]; simp [digitB]; omega)

set_option maxHeartbeats 400000 in
theorem low_any (b : UInt8) (w : World) :
    Calls Tryz.prog 131 #[.int .u8 b.toNat] w fun e w' => e = .returned (.bool (lowB b)) ∧ w = w' := by
  go_enter Tryz.func131, Tryz.ntmps131
  go_wp2
  all_goals (go_ret; refine ⟨ret_bool ?_, rfl⟩; rw [Bool.eq_iff_iff]; simp [lowB]; omega)

def spanL (p : UInt8 → Bool) (l : List UInt8) (i : Nat) : Nat := i + ((l.drop i).takeWhile p).length
theorem spanL_end (p : UInt8 → Bool) (l : List UInt8) (i : Nat) (h : l.length ≤ i) : spanL p l i = i := by
  simp [spanL, List.drop_eq_nil_of_le h]
theorem spanL_yes (p : UInt8 → Bool) (l : List UInt8) (i : Nat) (h : i < l.length) (hp : p l[i] = true) : spanL p l i = spanL p l (i + 1) := by
  simp only [spanL]; rw [List.drop_eq_getElem_cons h, List.takeWhile_cons, if_pos hp]; simp; omega
theorem spanL_no (p : UInt8 → Bool) (l : List UInt8) (i : Nat) (h : i < l.length) (hp : p l[i] = false) : spanL p l i = i := by
  simp only [spanL]; rw [List.drop_eq_getElem_cons h, List.takeWhile_cons, if_neg (by simp [hp])]; simp
theorem spanL_le (p : UInt8 → Bool) (l : List UInt8) (i : Nat) (h : i ≤ l.length) : i ≤ spanL p l i ∧ spanL p l i ≤ l.length := by
  have h1 := (List.takeWhile_sublist (l := l.drop i) p).length_le
  simp only [List.length_drop] at h1
  unfold spanL; omega

/-- A function value of a byte that answers p. -/
structure ByteFn (f : Nat) (p : UInt8 → Bool) : Prop where
  enters : ∀ (args : Array Value) (w : World), (callFunc f args).run Tryz.prog w = .ok (.enter f args) w
  answers : ∀ (b : UInt8) (w : World), Calls Tryz.prog f #[.int .u8 b.toNat] w fun e w' => e = .returned (.bool (p b)) ∧ w = w'

set_option maxRecDepth 100000 in
set_option maxHeartbeats 400000 in
theorem span_any (f : Nat) (p : UInt8 → Bool) (hf : ByteFn f p)
    (x : Nat) (s : ByteArray) (i : Nat) (w : World) (hs : s.size ≤ 6000) (hi : i ≤ s.size) (hc : w.cell? ⟨x, 0, none⟩ = some (.string s)) :
    Calls Tryz.prog 82 #[.pointer (some ⟨x, 0, none⟩), .int .i64 i, .func (.func f) #[] #[]] w fun e w' => e = .returned (.int .i64 (spanL p s.data.toList i)) ∧ w = w' := by
  have he := hf.enters
  go_enter Tryz.func82, Tryz.ntmps82
  go_wp2_with fail
  go_loop [1] (fun v => ∃ k : Nat, i ≤ k ∧ k ≤ s.size ∧ v = .int .i64 k ∧ spanL p s.data.toList k = spanL p s.data.toList i) (fun v => s.size - (intOf v).toNat)
  case atStart => exact ⟨i, Nat.le_refl _, hi, rfl, rfl⟩
  case round =>
    obtain ⟨k, hk, hk2, rfl, hsp⟩ := hrel
    have Hsp := Lib.hid hsp; clear hsp
    by_cases hlt : k < s.size
    · go_wp2_with fail
      refine (hf.answers _ _).mono ?_; rintro e w' ⟨rfl, rfl⟩
      by_cases hp : p s[k] = true
      · have hn := spanL_yes p s.data.toList k (by simpa using hlt) hp
        have Hn := Lib.hid hn; clear hn
        go_wp2_with fail
        go_round
        case rel => exact ⟨k + 1, by omega, by omega, by go_num, by rw [← Hsp.out, Hn.out]⟩
        case measure => simp [intOf]; omega
      · have hp' : p s[k] = false := by simpa using hp
        have hn := spanL_no p s.data.toList k (by simpa using hlt) hp'
        have Hn := Lib.hid hn; clear hn
        go_wp2_with fail
        go_ret
        exact ⟨ret_i64 (by rw [← Hsp.out, Hn.out]), rfl⟩
    · have hn := spanL_end p s.data.toList k (by simp; omega)
      have Hn := Lib.hid hn; clear hn
      go_wp2_with fail
      go_ret
      exact ⟨ret_i64 (by rw [← Hsp.out, Hn.out]), rfl⟩

theorem enters133 (args : Array Value) (w : World) : (callFunc 133 args).run Tryz.prog w = .ok (.enter 133 args) w := by kernel_rfl
