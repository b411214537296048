/- The document's tokenOf: ints, strs, ops; all of it. -/
import Derived.Test.YtdoaeapahgmfoaaGreatDoorS4
namespace Go.Proofs.YtdoaeapahgmfoaaGreatDoor
open Go.RowKit

theorem spanL_all (p : UInt8 → Bool) (l : List UInt8) : ∀ b ∈ l.take (spanL p l 0), p b = true := by
  unfold spanL
  rw [List.drop_zero, Nat.zero_add]
  intro b hb
  have h := List.all_takeWhile (p := p) (l := l)
  rw [List.all_eq_true] at h
  refine h b ?_
  have e : l.take (l.takeWhile p).length = l.takeWhile p := by
    have h2 := List.takeWhile_append_dropWhile (p := p) (l := l)
    conv => lhs; rw [← h2]
    rw [List.take_left']
    congr 1
    rw [h2]
  rwa [e] at hb


set_option maxRecDepth 100000 in
set_option maxHeartbeats 20000000 in
theorem rTokenInt {w : World} (s : ByteArray) (hs : s.size ≤ 6000) (h0 : 1 ≤ s.size) (hlo : lowB (s[0]'h0) = false) (hup : upB (s[0]'h0) = false) (hdi : digitB (s[0]'h0) = true) :
    Calls Tryz.prog 48 #[.string s] w fun e w' => (∃ v, e = .returned v ∧ TokAns s.data.toList v) ∧ Below w.heap.size w w' := by
  have h01 : spanL digitB s.data.toList 0 = spanL digitB s.data.toList 1 := spanL_yes _ _ _ (by simp; omega) hdi
  have hall := spanL_all digitB s.data.toList
  have hix : ∀ w : World, (Instr.index 9 (.string s) (.int .i64 0)).run Tryz.prog w = .ok (.int .u8 ((s[0]'h0).toNat : Int)) w := fun w => by
    have := index_far s 0 0 (by omega) w
    simpa using this
  have htk := tokL_head (head_some s h0)
  obtain ⟨c, hcc⟩ : ∃ c, c = s[0]'h0 := ⟨_, rfl⟩
  rw [← hcc] at hlo hup hdi hix htk
  rw [if_neg (by rw [hlo, hup]; simp)] at htk
  rw [if_pos hdi] at htk
  have Hcc := Lib.hid hcc; have H01 := Lib.hid h01; have Htk := Lib.hid htk; have Hall := Lib.hid hall
  clear hcc h01 htk hall
  have hb1 : Below w.heap.size w (w.alloc (.cells #[.string ⟨#[]⟩, .string ⟨#[]⟩, .int .i64 0] 115)) := (Below.refl _ _).alloc (Nat.le_refl _) _
  go_enter Tryz.func48, Tryz.ntmps48
  go_wp2_with fail
  refine (rLow_any c _).mono ?_
  rintro e w1 ⟨rfl, rfl⟩
  rw [hlo]
  go_wp2_with fail
  refine (rHigh_any c _).mono ?_
  rintro e w1 ⟨rfl, rfl⟩
  rw [hup]
  go_wp2_with fail
  refine (rDigit_any c _).mono ?_
  rintro e w1 ⟨rfl, rfl⟩
  rw [hdi]
  clear hlo hup hdi
  go_wp2_with fail
  go_loop [4] (fun v => ∃ n : Nat, 1 ≤ n ∧ n ≤ s.size ∧ v = .int .i64 n ∧ spanL digitB s.data.toList n = spanL digitB s.data.toList 1) (fun v => s.size - (intOf v).toNat)
  case atStart => exact ⟨1, by omega, h0, rfl, rfl⟩
  case round =>
    obtain ⟨n, hn1, hn, rfl, hsp⟩ := hrel
    have Hsp := Lib.hid hsp; clear hsp
    have hsl := head_facts s n hn
    by_cases hgo : ∃ hlt : n < s.size, digitB (s[n]'hlt) = true
    · obtain ⟨hlt, hd⟩ := hgo
      have t0 : decide ((n : Int) < (s.size : Int)) = true := by simp; omega
      have hyes : spanL digitB s.data.toList n = spanL digitB s.data.toList (n + 1) := spanL_yes _ _ _ (by simpa using hlt) hd
      have Hy := Lib.hid hyes; clear hyes
      go_wp2_with fail
      refine (rDigit_any _ _).mono ?_
      rintro e w1 ⟨rfl, rfl⟩
      rw [hd]
      clear hd
      go_wp2_with fail
      go_round
      case rel => exact ⟨n + 1, by omega, by omega, by go_num, by rw [← Hy.out, Hsp.out]⟩
      case measure => simp [intOf]; omega
    · have hnn : spanL digitB s.data.toList 0 = n := by
        rw [H01.out, ← Hsp.out]
        rcases Nat.lt_or_ge n s.size with hlt | hge
        · refine spanL_no _ _ _ (by simpa using hlt) ?_
          rcases hd : digitB (s[n]'hlt) with _ | _
          · exact hd
          · exact absurd ⟨hlt, hd⟩ hgo
        · exact spanL_end _ _ _ (by simp; omega)
      have hdl : ∀ b ∈ (toBA (s.data.toList.take n)).data.toList, digitB b = true := by
        rw [toBA_list, ← hnn]; exact Hall.out
      have hsz : (toBA (s.data.toList.take n)).size = n := by rw [toBA_size]; simp; omega
      have hok : intOkL (s.data.toList.take n) = true ↔ (parsesInt (s.data.toList.take n) = true ∧ ¬ (1 < n ∧ c.toNat = 48)) := by
        have e1 : (s.data.toList.take n).length = n := by simp; omega
        have e2 : (s.data.toList.take n).headD 0 = c := by
          have h := head_some s h0
          rw [Hcc.out]
          rcases hl : s.data.toList with _ | ⟨a, r⟩
          · rw [hl] at h; cases h
          · rw [hl] at h
            injection h with h
            rcases n with _ | m
            · omega
            · simp [h]
        unfold intOkL
        rw [e1, e2, Bool.and_eq_true, Bool.not_eq_true', decide_eq_false_iff_not]
      have hte := Htk.out
      rw [hnn] at hte
      have Hte := Lib.hid hte; have Hok := Lib.hid hok; have Hdl := Lib.hid hdl
      clear hte hok hdl hnn
      by_cases hlt : n < s.size
      · have t0 : decide ((n : Int) < (s.size : Int)) = true := by simp; omega
        have hd : digitB (s[n]'hlt) = false := by
          rcases hd : digitB (s[n]'hlt) with _ | _
          · rfl
          · exact absurd ⟨hlt, hd⟩ hgo
        go_wp2_with fail
        refine (rDigit_any _ _).mono ?_
        rintro e w1 ⟨rfl, rfl⟩
        rw [hd]
        clear hd hgo
        go_wp2_with fail
        refine (rInt_any (toBA (s.data.toList.take n)) _ (by omega) (by omega) Hdl.out).mono ?_
        rintro e w2 ⟨⟨r, rfl, hr⟩, rfl⟩
        rw [toBA_list] at hr
        have Hr := Lib.hid hr; clear hr
        by_cases hneg : r < 0
        · have u1 : decide (r < 0) = true := by simpa using hneg
          have hf := Hr.out.1 hneg
          have hno : tokL s.data.toList = none := by
            rw [Hte.out, if_neg (fun h => by rw [Hok.out.2 h] at hf; cases hf)]
          have Hno := Lib.hid hno; clear hno hf
          go_wp2_with fail
          refine bodyPost_ret (v := .tuple #[.agg #[.string ⟨#[]⟩, .string ⟨#[]⟩, .int .i64 0], .int .i64 (0 : Nat)]) ?_ rfl ⟨⟨_, rfl, ⟨#[]⟩, ⟨#[]⟩, (0 : Nat), rfl, (by rw [Hno.out])⟩, (Below.refl _ _).alloc (Nat.le_refl _) _⟩
          simp [results, Tryz.results48, go_sem]
        · have u1 : decide (r < 0) = false := by simpa using hneg
          have hf : intOkL (s.data.toList.take n) = true := by
            rcases h : intOkL (s.data.toList.take n) with _ | _
            · exact absurd (Hr.out.2 h) hneg
            · rfl
          have hyes : tokL s.data.toList = some (kInt, s.data.toList.take n, n) := by rw [Hte.out, if_pos (Hok.out.1 hf)]
          have Hyes := Lib.hid hyes; clear hyes hf
          go_wp2_with fail
          refine bodyPost_ret (v := .tuple #[.agg #[.string ⟨#[105, 110, 116]⟩, .string (toBA (s.data.toList.take n)), .int .i64 0], .int .i64 n]) ?_ rfl ⟨⟨_, rfl, ⟨#[105, 110, 116]⟩, (toBA (s.data.toList.take n)), n, rfl, (by rw [Hyes.out]; exact ⟨rfl, rfl, rfl⟩)⟩, (Below.refl _ _).alloc (Nat.le_refl _) _⟩
          simp [results, Tryz.results48, go_sem]
      · have t0 : decide ((n : Int) < (s.size : Int)) = false := by simp; omega
        clear hgo
        go_wp2_with fail
        refine (rInt_any (toBA (s.data.toList.take n)) _ (by omega) (by omega) Hdl.out).mono ?_
        rintro e w2 ⟨⟨r, rfl, hr⟩, rfl⟩
        rw [toBA_list] at hr
        have Hr := Lib.hid hr; clear hr
        by_cases hneg : r < 0
        · have u1 : decide (r < 0) = true := by simpa using hneg
          have hf := Hr.out.1 hneg
          have hno : tokL s.data.toList = none := by
            rw [Hte.out, if_neg (fun h => by rw [Hok.out.2 h] at hf; cases hf)]
          have Hno := Lib.hid hno; clear hno hf
          go_wp2_with fail
          refine bodyPost_ret (v := .tuple #[.agg #[.string ⟨#[]⟩, .string ⟨#[]⟩, .int .i64 0], .int .i64 (0 : Nat)]) ?_ rfl ⟨⟨_, rfl, ⟨#[]⟩, ⟨#[]⟩, (0 : Nat), rfl, (by rw [Hno.out])⟩, (Below.refl _ _).alloc (Nat.le_refl _) _⟩
          simp [results, Tryz.results48, go_sem]
        · have u1 : decide (r < 0) = false := by simpa using hneg
          have hf : intOkL (s.data.toList.take n) = true := by
            rcases h : intOkL (s.data.toList.take n) with _ | _
            · exact absurd (Hr.out.2 h) hneg
            · rfl
          have hyes : tokL s.data.toList = some (kInt, s.data.toList.take n, n) := by rw [Hte.out, if_pos (Hok.out.1 hf)]
          have Hyes := Lib.hid hyes; clear hyes hf
          go_wp2_with fail
          refine bodyPost_ret (v := .tuple #[.agg #[.string ⟨#[105, 110, 116]⟩, .string (toBA (s.data.toList.take n)), .int .i64 0], .int .i64 n]) ?_ rfl ⟨⟨_, rfl, ⟨#[105, 110, 116]⟩, (toBA (s.data.toList.take n)), n, rfl, (by rw [Hyes.out]; exact ⟨rfl, rfl, rfl⟩)⟩, (Below.refl _ _).alloc (Nat.le_refl _) _⟩
          simp [results, Tryz.results48, go_sem]
end Go.Proofs.YtdoaeapahgmfoaaGreatDoor
