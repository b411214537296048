/- The document's IntOf: is a row of digits an int. -/
import Derived.Test.YtdoaeapahgmfoaaGreatDoorS2
namespace Go.Proofs.YtdoaeapahgmfoaaGreatDoor
open Go.RowKit

def decV : Nat → List UInt8 → Nat
  | acc, [] => acc
  | acc, c :: r => decV (acc * 10 + (c.toNat - 48)) r
theorem decV_ge : ∀ (l : List UInt8) (acc : Nat), acc ≤ decV acc l
  | [], _ => Nat.le_refl _
  | c :: r, acc => by
    have := decV_ge r (acc * 10 + (c.toNat - 48))
    show acc ≤ decV (acc * 10 + (c.toNat - 48)) r
    omega
theorem decV_app : ∀ (a b : List UInt8) (acc : Nat), decV acc (a ++ b) = decV (decV acc a) b
  | [], _, _ => rfl
  | _ :: r, b, _ => decV_app r b _
theorem parseUintM_dec : ∀ (l : List UInt8) (acc : Nat), (∀ b ∈ l, digitB b = true) → acc ≤ 2 ^ 64 - 1 →
    Lib.parseUintM (2 ^ 64 - 1) acc l = if decV acc l ≤ 2 ^ 64 - 1 then .ok (decV acc l) else .range
  | [], acc, _, h => by show _ = if acc ≤ _ then _ else _; rw [if_pos h]; rfl
  | c :: r, acc, hd, h => by
    have hc := hd c (by simp)
    have hc' : 48 ≤ c.toNat ∧ c.toNat ≤ 57 := by simpa [digitB] using hc
    have hge := decV_ge r (acc * 10 + (c.toNat - 48))
    show (if 48 ≤ c.toNat ∧ c.toNat ≤ 57 then if 1844674407370955162 ≤ acc then Lib.NumEnd.range else if 2 ^ 64 - 1 < acc * 10 + (c.toNat - 48) then .range else Lib.parseUintM (2 ^ 64 - 1) (acc * 10 + (c.toNat - 48)) r else .syntax) = if decV (acc * 10 + (c.toNat - 48)) r ≤ 2 ^ 64 - 1 then .ok (decV (acc * 10 + (c.toNat - 48)) r) else .range
    rw [if_pos hc']
    by_cases h1 : 1844674407370955162 ≤ acc
    · rw [if_pos h1, if_neg (by omega)]
    · rw [if_neg h1]
      by_cases h2 : 2 ^ 64 - 1 < acc * 10 + (c.toNat - 48)
      · rw [if_pos h2, if_neg (by omega)]
      · rw [if_neg h2, parseUintM_dec r _ (fun b hb => hd b (by simp [hb])) (by omega)]
theorem parsesInt_dec (l : List UInt8) (hd : ∀ b ∈ l, digitB b = true) (hne : l ≠ []) : parsesInt l = decide (decV 0 l ≤ 9223372036854775807) := by
  match l, hd, hne with
  | c :: r, hd, _ =>
    have hc : 48 ≤ c.toNat ∧ c.toNat ≤ 57 := by simpa [digitB] using hd c (by simp)
    have hp : Lib.parseUintB 64 (c :: r) = if decV 0 (c :: r) ≤ 2 ^ 64 - 1 then .ok (decV 0 (c :: r)) else .range := by
      unfold Lib.parseUintB
      rw [if_neg (by simp)]
      exact parseUintM_dec (c :: r) 0 hd (by omega)
    unfold parsesInt Lib.parseIntB
    simp only
    rw [if_neg (show ¬ (c.toNat = 43 ∨ c.toNat = 45) by omega), hp]
    have h45 : ¬ c.toNat = 45 := by omega
    by_cases h1 : decV 0 (c :: r) ≤ 2 ^ 64 - 1
    · rw [if_pos h1]
      simp only [h45]
      by_cases h2 : 2 ^ (64 - 1) ≤ decV 0 (c :: r)
      · rw [if_pos ⟨by simp, h2⟩]
        symm; simp only [decide_eq_false_iff_not]; omega
      · rw [if_neg (by intro h; exact h2 h.2), if_neg (by intro h; exact absurd h.1 (by simp))]
        symm; simp only [decide_eq_true_iff]; omega
    · rw [if_neg h1]
      symm; simp only [decide_eq_false_iff_not]; omega

/-- Is a row of digits an int? -/
def intOkL (l : List UInt8) : Bool := parsesInt l && !(decide (1 < l.length ∧ (l.headD 0).toNat = 48))
theorem intOk_no {l : List UInt8} (h : parsesInt l = false) : intOkL l = false := by unfold intOkL; rw [h]; rfl
theorem intOk_zero {l : List UInt8} (h : 1 < l.length ∧ (l.headD 0).toNat = 48) : intOkL l = false := by
  unfold intOkL; rw [decide_eq_true h]; simp
theorem intOk_yes {l : List UInt8} (h1 : parsesInt l = true) (h : ¬ (1 < l.length ∧ (l.headD 0).toNat = 48)) : intOkL l = true := by
  unfold intOkL; rw [decide_eq_false h, h1]; rfl
theorem head_of (s : ByteArray) (h0 : 1 ≤ s.size) : s.data.toList.headD 0 = s[0]'h0 := by
  have hl : 0 < s.data.toList.length := by simp; omega
  rcases hs : s.data.toList with _ | ⟨c, r⟩
  · rw [hs] at hl; simp at hl
  · have e : s.data.toList[0]'hl = s[0]'h0 := rfl
    rw [← e]; simp [hs]

set_option maxRecDepth 100000 in
set_option maxHeartbeats 4000000 in
theorem rInt_any (s : ByteArray) (w : World) (hs : s.size ≤ 6000) (h0 : 1 ≤ s.size) (hd : ∀ b ∈ s.data.toList, digitB b = true) :
    Calls Tryz.prog 91 #[.string s] w fun e w' => (∃ r : Int, e = .returned (.int .i64 r) ∧ (r < 0 ↔ intOkL s.data.toList = false)) ∧ w' = w := by
  have hne : s.data.toList ≠ [] := by
    intro e
    have h1 : s.data.toList.length = s.size := by simp
    rw [e] at h1
    have h2 : ([] : List UInt8).length = 0 := rfl
    omega
  have hp := parsesInt_dec s.data.toList hd hne
  have Hp := Lib.hid hp; have Hd := Lib.hid hd
  clear hp hd hne
  go_enter Tryz.func91, Tryz.ntmps91
  go_wp2_with fail
  go_loop [3, 4] (fun n i => ∃ k v : Nat, k ≤ s.size ∧ i = .int .i64 k ∧ n = .int .i64 v ∧ v = decV 0 (s.data.toList.take k) ∧ v ≤ 9223372036854775807) (fun _ i => s.size - (intOf i).toNat)
  case atStart => exact ⟨0, 0, by omega, rfl, rfl, rfl, by omega⟩
  case round =>
    obtain ⟨k, v, hk, rfl, rfl, hv, hvm⟩ := hrel
    have Hv := Lib.hid hv; clear hv
    by_cases hlt : k < s.size
    · have hl : k < s.data.toList.length := by simpa using hlt
      have t0 : decide ((k : Int) < (s.size : Int)) = true := by simp; omega
      have hdk : digitB (s[k]'hlt) = true := Hd.out _ (List.getElem_mem hl)
      have hc : 48 ≤ (s[k]'hlt).toNat ∧ (s[k]'hlt).toNat ≤ 57 := by simpa [digitB] using hdk
      obtain ⟨d, hdd⟩ : ∃ d : Nat, (s[k]'hlt).toNat = 48 + d := ⟨(s[k]'hlt).toNat - 48, by omega⟩
      have hd9 : d ≤ 9 := by omega
      have hnext : decV 0 (s.data.toList.take (k + 1)) = v * 10 + d := by
        rw [List.take_succ_eq_append_getElem hl, decV_app, ← Hv.out]
        show v * 10 + ((s[k]'hlt).toNat - 48) = _
        omega
      have Hn := Lib.hid hnext; clear hnext hdk hc
      have hix : ∀ w : World, (Instr.index 9 (.string s) (.int .i64 (k : Int))).run Tryz.prog w = .ok (.int .u8 ((48 + d : Nat) : Int)) w := fun w => by
        have := index_far s k 0 (by simpa using hlt) w
        simp only [Nat.add_zero, Int.add_zero, Int.natCast_zero] at this
        rw [← hdd]; simpa using this
      have Hdd := Lib.hid hdd; clear hdd
      go_wp2_with fail
      · rename_i hgt _
        refine bodyPost_ret (results_tmp rfl _ _ _) rfl ?_
        refine ⟨⟨_, rfl, fun _ => ?_, fun _ => by omega⟩, rfl⟩
        refine intOk_no ?_
        rw [Hp.out, decide_eq_false_iff_not]
        intro h1
        have h2 : decV 0 s.data.toList = decV (decV 0 (s.data.toList.take (k + 1))) (s.data.toList.drop (k + 1)) := by
          rw [← decV_app, List.take_append_drop]
        have h3 := decV_ge (s.data.toList.drop (k + 1)) (decV 0 (s.data.toList.take (k + 1)))
        rw [← h2, Hn.out] at h3
        omega
      · rename_i hle
        refine ⟨⟨k + 1, v * 10 + d, by omega, by go_num, ?_, Hn.out.symm, by omega⟩, by simp [intOf]; omega⟩
        congr 1
        omega
    · have hk' : k = s.size := by omega
      subst hk'
      have t0 : decide ((s.size : Int) < (s.size : Int)) = false := by simp
      have hv2 : decV 0 s.data.toList = v := by rw [Hv.out, List.take_of_length_le (by simp)]
      have hpi : parsesInt s.data.toList = true := by rw [Hp.out, hv2]; simpa using hvm
      have Hpi := Lib.hid hpi; clear hpi hv2
      have Hhd := Lib.hid (head_of s h0)
      have Hln := Lib.hid (show s.data.toList.length = s.size by simp)
      by_cases h1 : 1 < s.size
      · have t1 : decide ((1 : Int) < (s.size : Int)) = true := by simp; omega
        by_cases h48 : (s[0]'h0).toNat = 48
        · have t2 : (((s[0]'h0).toNat : Int) == 48) = true := by rw [h48]; rfl
          go_wp2_with fail
          refine bodyPost_ret (results_tmp rfl _ _ _) rfl ?_
          exact ⟨⟨_, rfl, fun _ => intOk_zero ⟨by rw [Hln.out]; exact h1, by rw [Hhd.out]; exact h48⟩, fun _ => by omega⟩, rfl⟩
        · have t2 : (((s[0]'h0).toNat : Int) == 48) = false := by rw [beq_eq_false_iff_ne]; omega
          go_wp2_with fail
          refine bodyPost_ret (results_tmp rfl _ _ _) rfl ?_
          exact ⟨⟨_, rfl, fun h => by omega, fun hh => by rw [intOk_yes Hpi.out (fun h => h48 (by rw [← Hhd.out]; exact h.2))] at hh; cases hh⟩, rfl⟩
      · have t1 : decide ((1 : Int) < (s.size : Int)) = false := by simp; omega
        go_wp2_with fail
        refine bodyPost_ret (results_tmp rfl _ _ _) rfl ?_
        exact ⟨⟨_, rfl, fun h => by omega, fun hh => by rw [intOk_yes Hpi.out (fun h => h1 (by rw [← Hln.out]; exact h.1))] at hh; cases hh⟩, rfl⟩
end Go.Proofs.YtdoaeapahgmfoaaGreatDoor
