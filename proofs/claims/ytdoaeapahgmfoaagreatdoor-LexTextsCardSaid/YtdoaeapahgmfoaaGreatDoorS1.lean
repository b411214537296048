/- The document's lexer: its small functions. -/
import Derived.Test.YtdoaeapahgmfoaaGreatDoorM1
import Derived.BigQuiet
namespace Go.Proofs.YtdoaeapahgmfoaaGreatDoor
open Go.RowKit

set_option maxHeartbeats 400000 in
theorem rLow_any (b : UInt8) (w : World) :
    Calls Tryz.prog 87 #[.int .u8 b.toNat] w fun e w' => e = .returned (.bool (lowB b)) ∧ w = w' := by
  go_enter Tryz.func87, Tryz.ntmps87
  go_wp2
  all_goals (go_ret; refine ⟨ret_bool ?_, rfl⟩; rw [Bool.eq_iff_iff]; simp [lowB]; omega)
set_option maxHeartbeats 400000 in
theorem rHigh_any (b : UInt8) (w : World) :
    Calls Tryz.prog 88 #[.int .u8 b.toNat] w fun e w' => e = .returned (.bool (upB b)) ∧ w = w' := by
  go_enter Tryz.func88, Tryz.ntmps88
  go_wp2
  all_goals (go_ret; refine ⟨ret_bool ?_, rfl⟩; rw [Bool.eq_iff_iff]; simp [upB]; omega)
set_option maxHeartbeats 400000 in
theorem rDigit_any (b : UInt8) (w : World) :
    Calls Tryz.prog 89 #[.int .u8 b.toNat] w fun e w' => e = .returned (.bool (digitB b)) ∧ w = w' := by
  go_enter Tryz.func89, Tryz.ntmps89
  go_wp2
  all_goals (go_ret; refine ⟨ret_bool ?_, rfl⟩; rw [Bool.eq_iff_iff]; simp [digitB]; omega)

/-- A digit of 16, or -1. -/
def hexI (b : UInt8) : Int := match hexV b with
  | some x => x
  | none => -1
theorem hexI_eq (b : UInt8) : hexI b = if 48 ≤ b.toNat ∧ b.toNat ≤ 57 then (b.toNat : Int) - 48 else if 97 ≤ b.toNat ∧ b.toNat ≤ 102 then (b.toNat : Int) - 87 else -1 := by
  unfold hexI hexV
  split
  · rename_i h
    split at h
    · injection h with h; rw [if_pos (by assumption)]; omega
    · split at h
      · injection h with h; rw [if_neg (by assumption), if_pos (by assumption)]; omega
      · cases h
  · rename_i h
    split at h
    · cases h
    · split at h
      · cases h
      · rw [if_neg (by assumption), if_neg (by assumption)]
set_option maxRecDepth 100000 in
set_option maxHeartbeats 1000000 in
theorem rHex_any (b : UInt8) (w : World) :
    Calls Tryz.prog 138 #[.int .u8 b.toNat] w fun e w' => e = .returned (.int .i64 (hexI b)) ∧ w = w' := by
  have hb := b.toNat_lt
  by_cases h1 : 48 ≤ b.toNat ∧ b.toNat ≤ 57
  · have hd : digitB b = true := by simp [digitB, h1]
    have he : hexI b = (b.toNat : Int) - 48 := by rw [hexI_eq, if_pos h1]
    have He := Lib.hid he; clear he
    go_enter Tryz.func138, Tryz.ntmps138
    go_wp2_with fail
    refine (rDigit_any b w).mono ?_; rintro e w' ⟨rfl, rfl⟩
    rw [hd]
    go_wp2_with fail
    go_ret
    exact ⟨ret_i64 (by rw [He.out]), rfl⟩
  · have hd : digitB b = false := by simp [digitB]; omega
    by_cases h2 : 97 ≤ b.toNat ∧ b.toNat ≤ 102
    · have he : hexI b = (b.toNat : Int) - 97 + 10 := by rw [hexI_eq, if_neg h1, if_pos h2]; omega
      have He := Lib.hid he; clear he
      go_enter Tryz.func138, Tryz.ntmps138
      go_wp2_with fail
      refine (rDigit_any b w).mono ?_; rintro e w' ⟨rfl, rfl⟩
      rw [hd]
      go_wp2_with fail
      go_ret
      exact ⟨ret_i64 (by rw [He.out]), rfl⟩
    · have he : hexI b = -1 := by rw [hexI_eq, if_neg h1, if_neg h2]
      have He := Lib.hid he; clear he
      go_enter Tryz.func138, Tryz.ntmps138
      go_wp2_with fail
      refine (rDigit_any b w).mono ?_; rintro e w' ⟨rfl, rfl⟩
      rw [hd]
      by_cases h3 : b.toNat < 97
      · have t1 : decide ((97 : Int) ≤ (b.toNat : Int)) = false := by simp; omega
        go_wp2_with fail
        go_ret
        exact ⟨ret_i64 (by rw [He.out]), rfl⟩
      · have t1 : decide ((97 : Int) ≤ (b.toNat : Int)) = true := by simp; omega
        have t2 : decide ((b.toNat : Int) ≤ 102) = false := by simp; omega
        go_wp2_with fail
        go_ret
        exact ⟨ret_i64 (by rw [He.out]), rfl⟩

set_option maxRecDepth 100000 in
set_option maxHeartbeats 1000000 in
/-- The first place of a text in a list of texts; none: -1. -/
theorem rIndex_any (zs : List (List UInt8)) (x : List UInt8) (g cap : Nat) (w : World) (hz : zs.length ≤ 1000) (hc : ∀ j (hj : j < zs.length), w.cell? ⟨g, j, none⟩ = some (.string (toBA zs[j]))) :
    Calls Tryz.prog 62 #[.slice (some ⟨g, 0, none⟩) zs.length cap, .string (toBA x)] w fun e w' => (∃ r : Int, e = .returned (.int .i64 r) ∧ (0 ≤ r ↔ x ∈ zs)) ∧ w = w' := by
  have Hc := Lib.hid hc; clear hc
  go_enter Tryz.func62, Tryz.ntmps62
  go_wp2_with fail
  go_loop [5] (fun i => ∃ k : Nat, k ≤ zs.length ∧ i = .int .i64 k ∧ ∀ j (hj : j < zs.length), j < k → zs[j] ≠ x) (fun i => zs.length - (intOf i).toNat)
  case atStart => exact ⟨0, by omega, rfl, fun _ _ h => by omega⟩
  case round =>
    obtain ⟨k, hk, rfl, hno⟩ := hrel
    have Hno := Lib.hid hno; clear hno
    by_cases hlt : k < zs.length
    · have t1 : decide ((k : Int) < (zs.length : Int)) = true := by simp; omega
      have hcell := Hc.out k hlt
      obtain ⟨z, hzz⟩ : ∃ z, z = zs[k] := ⟨_, rfl⟩
      rw [← hzz] at hcell
      have Hz := Lib.hid hzz; clear hzz
      by_cases he : z = x
      · have f1 : ((toBA z).toList == (toBA x).toList) = true := by rw [m_toList, m_toList]; simp [he]
        have hcon : x ∈ zs := by rw [← he, Hz.out]; exact List.getElem_mem hlt
        have Hcon := Lib.hid hcon; clear hcon he
        go_wp2_with fail
        go_ret
        exact ⟨⟨_, rfl, fun _ => Hcon.out, fun _ => by omega⟩, rfl⟩
      · have f1 : ((toBA z).toList == (toBA x).toList) = false := by rw [m_toList, m_toList]; simp [he]
        have He := Lib.hid he; clear he
        go_wp2_with fail
        go_round
        case rel =>
          refine ⟨k + 1, by omega, by go_num, fun j hj hjk => ?_⟩
          rcases Nat.lt_or_ge j k with h' | h'
          · exact Hno.out j hj h'
          · have : j = k := by omega
            subst this
            rw [← Hz.out]; exact He.out
        case measure => simp [intOf]; omega
    · have t1 : decide ((k : Int) < (zs.length : Int)) = false := by simp; omega
      have hcon : x ∉ zs := by
        intro h
        obtain ⟨j, hj, e⟩ := List.getElem_of_mem h
        exact Hno.out j hj (by omega) e
      have Hcon := Lib.hid hcon; clear hcon
      go_wp2_with fail
      go_ret
      exact ⟨⟨_, rfl, fun h => by omega, fun h => absurd h Hcon.out⟩, rfl⟩

set_option maxRecDepth 100000 in
set_option maxHeartbeats 1000000 in
theorem rHas_any (zs : List (List UInt8)) (x : List UInt8) (g cap : Nat) (w : World) (hz : zs.length ≤ 1000) (hc : ∀ j (hj : j < zs.length), w.cell? ⟨g, j, none⟩ = some (.string (toBA zs[j]))) :
    Calls Tryz.prog 29 #[.slice (some ⟨g, 0, none⟩) zs.length cap, .string (toBA x)] w fun e w' => e = .returned (.bool (zs.contains x)) ∧ w = w' := by
  go_enter Tryz.func29, Tryz.ntmps29
  go_wp2_with fail
  refine (rIndex_any zs x g cap w hz hc).mono ?_
  rintro e w' ⟨⟨r, rfl, hr⟩, rfl⟩
  clear hc
  have hb : zs.contains x = decide (0 ≤ r) := by
    rw [Bool.eq_iff_iff, List.contains_iff_mem, decide_eq_true_iff]; exact hr.symm
  have Hb := Lib.hid hb; clear hb hr
  go_wp2_with fail
  go_ret
  exact ⟨by rw [Hb.out]; rfl, rfl⟩

def wordCells : Array Value := (wordsL.map fun z => Value.string (toBA z)).toArray
set_option maxRecDepth 100000 in
set_option maxHeartbeats 1000000 in
theorem rWords_any (w : World) :
    Calls Tryz.prog 90 #[] w fun e w' => e = .returned (.slice (some ⟨w.heap.size, 0, none⟩) 25 25) ∧ w' = w.alloc (.cells wordCells 9) := by
  go_enter Tryz.func90, Tryz.ntmps90
  go_wp2_with fail
  go_ret
  exact ⟨rfl, rfl⟩
theorem words_cells (w : World) (j : Nat) (hj : j < wordsL.length) : (w.alloc (.cells wordCells 9)).cell? ⟨w.heap.size, j, none⟩ = some (.string (toBA wordsL[j])) := by
  rw [cell_of_blk (heap_alloc_new w _)]
  simp [wordCells, hj]
end Go.Proofs.YtdoaeapahgmfoaaGreatDoor
