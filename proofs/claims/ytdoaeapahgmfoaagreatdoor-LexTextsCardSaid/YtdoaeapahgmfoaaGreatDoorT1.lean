/- The first of the ops that begins a text. -/
import Derived.Test.YtdoaeapahgmfoaaGreatDoorU2
namespace Go.Proofs.YtdoaeapahgmfoaaGreatDoor
open Go.RowKit

/-- A function value of a text (it has captured one pointer) that answers p in the world w. -/
structure TextFn (f : Nat) (cap : Value) (p : ByteArray → Bool) (w : World) : Prop where
  enters : ∀ (args : Array Value) (w : World), (callFunc f args).run Tryz.prog w = .ok (.enter f args) w
  answers : ∀ (o : ByteArray), Calls Tryz.prog f #[.string o, cap] w fun e w' => e = .returned (.bool (p o)) ∧ w = w'

/-- The number of the first one that answers yes; -1: none. -/
def firstI (p : ByteArray → Bool) (zs : List ByteArray) : Int := match zs.findIdx? p with
  | some k => (k : Int)
  | none => -1

theorem firstI_found {p : ByteArray → Bool} {zs : List ByteArray} {k : Nat} (hk : k < zs.length) (h : ∀ j (hj : j < k), p (zs[j]'(by omega)) = false) (hp : p zs[k] = true) : firstI p zs = (k : Int) := by
  have : zs.findIdx? p = some k := by
    rw [List.findIdx?_eq_some_iff_getElem]
    exact ⟨hk, hp, fun j hj => by simpa using h j hj⟩
  simp [firstI, this]
theorem firstI_none {p : ByteArray → Bool} {zs : List ByteArray} (h : ∀ j (hj : j < zs.length), p zs[j] = false) : firstI p zs = -1 := by
  have : zs.findIdx? p = none := by
    rw [List.findIdx?_eq_none_iff]
    intro z hz
    obtain ⟨j, hj, rfl⟩ := List.mem_iff_getElem.1 hz
    simpa using h j hj
  simp [firstI, this]

set_option maxRecDepth 100000 in
set_option maxHeartbeats 400000 in
theorem indexFunc_any (f : Nat) (cap : Value) (p : ByteArray → Bool) (w : World) (hf : TextFn f cap p w) (b off n c : Nat) (zs : List ByteArray) (hz : zs.length = n) (hn : n ≤ 1000)
    (hc : ∀ j (hj : j < zs.length), w.cell? ⟨b, off + j, none⟩ = some (.string zs[j])) :
    Calls Tryz.prog 136 #[.slice (some ⟨b, off, none⟩) n c, .func (.func f) #[] #[cap]] w fun e w' => e = .returned (.int .i64 (firstI p zs)) ∧ w = w' := by
  subst hz
  have he := hf.enters
  have Hc := Lib.hid hc; clear hc
  go_enter Tryz.func136, Tryz.ntmps136
  go_wp2_with fail
  go_loop [8] (fun i => ∃ k : Nat, k ≤ zs.length ∧ i = .int .i64 k ∧ ∀ j (hj : j < k) (hj2 : j < zs.length), p zs[j] = false) (fun i => zs.length - (intOf i).toNat)
  case atStart => exact ⟨0, by omega, rfl, fun j hj => by omega⟩
  case round =>
    obtain ⟨k, hk, rfl, hno⟩ := hrel
    have Hno := Lib.hid hno; clear hno
    by_cases hlt : k < zs.length
    · have hcell : w.cell? ⟨b, off + k, none⟩ = some (.string zs[k]) := Hc.out k hlt
      obtain ⟨o, ho⟩ : ∃ o, zs[k] = o := ⟨_, rfl⟩
      rw [ho] at hcell
      have Ho := Lib.hid ho; clear ho
      go_wp2_with fail
      refine (hf.answers o).mono ?_; rintro e w' ⟨rfl, rfl⟩
      by_cases hp : p o = true
      · go_wp2_with fail
        go_ret
        exact ⟨ret_i64 (by rw [firstI_found hlt (fun j hj => Hno.out j hj (by omega)) (by rw [Ho.out]; exact hp)]), rfl⟩
      · have hp' : p o = false := by simpa using hp
        clear hp
        go_wp2_with fail
        go_round
        case rel => exact ⟨k + 1, by omega, by go_num, fun j hj hj2 => by
          by_cases e : j = k
          · subst e; rw [Ho.out]; exact hp'
          · exact Hno.out j (by omega) hj2⟩
        case measure => simp [intOf]; omega
    · go_wp2_with fail
      go_ret
      exact ⟨ret_i64 (by rw [firstI_none (fun j hj => Hno.out j (by omega) hj)]), rfl⟩

theorem enters_isop (args : Array Value) (w : World) : (callFunc 137 args).run Tryz.prog w = .ok (.enter 137 args) w := by kernel_rfl
set_option maxHeartbeats 400000 in
theorem isop_any (r o : ByteArray) (b : Nat) (w : World) (hb : w.cell? ⟨b, 0, none⟩ = some (.string r)) :
    Calls Tryz.prog 137 #[.string o, .pointer (some ⟨b, 0, none⟩)] w fun e w' => e = .returned (.bool (Lib.hasPrefix r.data.toList o.data.toList)) ∧ w = w' := by
  go_enter Tryz.func137, Tryz.ntmps137
  go_wp2_with fail
  refine (Tryz.strings_HasPrefix r o _).mono ?_
  rintro e w' ⟨rfl, rfl⟩
  go_wp2_with fail
  go_ret
  exact ⟨rfl, rfl⟩
theorem isop_fn (r : ByteArray) (b : Nat) (w : World) (hb : w.cell? ⟨b, 0, none⟩ = some (.string r)) :
    TextFn 137 (.pointer (some ⟨b, 0, none⟩)) (fun o => Lib.hasPrefix r.data.toList o.data.toList) w := ⟨enters_isop, fun o => isop_any r o b w hb⟩
end Go.Proofs.YtdoaeapahgmfoaaGreatDoor
