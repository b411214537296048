/- strconv.ParseUint of two small hexadecimal digits. -/
import Derived.Test.YtdoaeapahgmfoaaGreatDoorL2
namespace Go.Proofs.YtdoaeapahgmfoaaGreatDoor
open Go.RowKit

/-- A digit of 16. -/
def hexV (b : UInt8) : Option Nat :=
  if 48 ≤ b.toNat ∧ b.toNat ≤ 57 then some (b.toNat - 48) else if 97 ≤ b.toNat ∧ b.toNat ≤ 102 then some (b.toNat - 87) else none

theorem lower_hex (b : UInt8) (h : 97 ≤ b.toNat) (h2 : b.toNat ≤ 102) (w : World) :
    Calls Tryz.prog 191 #[.int .u8 b.toNat] w fun e w' => e = .returned (.int .u8 b.toNat) ∧ w = w' := by
  have hb : ∀ b : UInt8, 97 ≤ b.toNat → b.toNat ≤ 102 → bits BinOp.or IntKind.u8 (b.toNat : Int) 32 = (b.toNat : Int) := by
    intro b h h2
    have hh : b.toNat = 97 ∨ b.toNat = 98 ∨ b.toNat = 99 ∨ b.toNat = 100 ∨ b.toNat = 101 ∨ b.toNat = 102 := by omega
    rcases hh with e | e | e | e | e | e <;> rw [e] <;> decide
  have hb1 := hb b h h2
  clear hb
  have Hb := Lib.hid hb1; clear hb1
  go_enter Tryz.func191, Tryz.ntmps191
  go_wp2
  go_ret
  exact ⟨by show Ending.returned (.int .u8 (bits BinOp.or IntKind.u8 b.toNat 32)) = _; rw [Hb.out], rfl⟩

theorem conv_two (a b : UInt8) (w : World) : ∃ cap W, (convert 9 75 (.string ⟨#[a, b]⟩)).run Tryz.prog w = .ok (.slice (some ⟨w.heap.size, 0, none⟩) 2 cap) W ∧
    W.cell? ⟨w.heap.size, 0, none⟩ = some (.int .u8 a.toNat) ∧ W.cell? ⟨w.heap.size, 1, none⟩ = some (.int .u8 b.toNat) ∧ Below w.heap.size w W := by
  refine ⟨_, _, run_bytes_of_string w 9 75 5 ⟨#[a, b]⟩ Tryz.underlying9 Tryz.underlying75 Tryz.underlying5, ?_, ?_, ?_⟩
  · exact (World.cell?_alloc_mark w.drew _ _ _ 0).trans (bytesRow_at ⟨#[a, b]⟩ _ 0 (by simp))
  · exact (World.cell?_alloc_mark w.drew _ _ _ 1).trans (bytesRow_at ⟨#[a, b]⟩ _ 1 (by simp))
  · exact ((Below.refl _ _).drew).alloc (Nat.le_refl _) _

theorem vint {k : IntKind} {a b : Int} (h : a = b) : Value.int k a = Value.int k b := by rw [h]

/-- The value of the first k of two digits. -/
def val2 (x y : Nat) : Nat → Nat
  | 0 => 0
  | 1 => x
  | _ => 16 * x + y

theorem hexV_lt {b : UInt8} {x : Nat} (h : hexV b = some x) : x < 16 ∧ (48 ≤ b.toNat ∧ b.toNat ≤ 57 ∧ x = b.toNat - 48 ∨ 97 ≤ b.toNat ∧ b.toNat ≤ 102 ∧ x = b.toNat - 87) := by
  unfold hexV at h
  split at h
  · injection h with h; omega
  · split at h
    · injection h with h; omega
    · cases h

set_option maxRecDepth 100000 in
set_option maxHeartbeats 1000000 in
theorem iparse16 (a b : UInt8) (x y : Nat) (ha : hexV a = some x) (hb : hexV b = some y) (w : World) :
    Calls Tryz.prog 174 #[.string ⟨#[a, b]⟩, .int .i64 16, .int .i64 8] w fun e w' => e = .returned (.tuple #[.int .u64 ((16 * x + y : Nat) : Int), .nilIface]) ∧ Below w.heap.size w w' := by
  obtain ⟨cap, W, kc, k0, k1, hB⟩ := conv_two a b w
  have Ha := Lib.hid ha; have Hb := Lib.hid hb; clear ha hb
  go_enter Tryz.func174, Tryz.ntmps174
  go_wp2_with fail
  go_loop [12, 13, 101] (fun u n i => ∃ k : Nat, k ≤ 2 ∧ u = .bool false ∧ i = .int .i64 k ∧ n = .int .u64 (val2 x y k)) (fun _ _ i => 2 - (intOf i).toNat)
  case atStart => exact ⟨0, by omega, rfl, rfl, rfl⟩
  case round =>
    obtain ⟨k, hk, rfl, rfl, rfl⟩ := hrel
    have hx := (hexV_lt Ha.out).1
    have hy := (hexV_lt Hb.out).1
    match k, hk with
    | 0, _ =>
      simp only [val2]
      rcases (hexV_lt Ha.out).2 with ⟨h1, h2, h3⟩ | ⟨h1, h2, h3⟩
      · have H3 := Lib.hid h3; clear h3
        go_wp2_with fail
        go_round
        case rel => exact ⟨1, by omega, rfl, rfl, vint (by show _ = (x : Int); rw [H3.out]; omega)⟩
        case measure => simp [intOf]
      · have H3 := Lib.hid h3; clear h3
        go_wp2_with (refine (lower_hex _ (by omega) (by omega) _).mono ?_; rintro e w' ⟨rfl, rfl⟩)
        go_round
        case rel => exact ⟨1, by omega, rfl, rfl, vint (by show _ = (x : Int); rw [H3.out]; omega)⟩
        case measure => simp [intOf]
    | 1, _ =>
      simp only [val2]
      obtain ⟨m, hm⟩ : ∃ m : Int, (x : Int) = m := ⟨_, rfl⟩
      have hm0 : 0 ≤ m := by omega
      have hm1 : m ≤ 15 := by omega
      rw [hm]
      have Hm := Lib.hid hm; clear hm hx
      rcases (hexV_lt Hb.out).2 with ⟨h1, h2, h3⟩ | ⟨h1, h2, h3⟩
      · have H3 := Lib.hid h3; clear h3
        go_wp2_with fail
        go_round
        case rel => exact ⟨2, by omega, rfl, rfl, vint (by show _ = ((16 * x + y : Nat) : Int); have e1 := Hm.out; have e2 := H3.out; omega)⟩
        case measure => simp [intOf]
      · have H3 := Lib.hid h3; clear h3
        go_wp2_with (refine (lower_hex _ (by omega) (by omega) _).mono ?_; rintro e w' ⟨rfl, rfl⟩)
        go_round
        case rel => exact ⟨2, by omega, rfl, rfl, vint (by show _ = ((16 * x + y : Nat) : Int); have e1 := Hm.out; have e2 := H3.out; omega)⟩
        case measure => simp [intOf]
    | 2, _ =>
      go_wp2_with fail
      go_ret2
      exact ⟨rfl, hB⟩

set_option maxRecDepth 100000 in
set_option maxHeartbeats 400000 in
/-- strconv.ParseUint of two digits of 16. -/
theorem parse16 (a b : UInt8) (x y : Nat) (ha : hexV a = some x) (hb : hexV b = some y) (w : World) :
    Calls Tryz.prog 163 #[.string ⟨#[a, b]⟩, .int .i64 16, .int .i64 8] w fun e w' => e = .returned (.tuple #[.int .u64 ((16 * x + y : Nat) : Int), .nilIface]) ∧ Below w.heap.size w w' := by
  go_enter Tryz.func163, Tryz.ntmps163
  go_wp2_with fail
  refine (iparse16 a b x y ha hb _).mono ?_
  rintro e w' ⟨rfl, hB⟩
  clear ha hb
  go_wp2_with fail
  go_ret2
  exact ⟨rfl, hB⟩
end Go.Proofs.YtdoaeapahgmfoaaGreatDoor
