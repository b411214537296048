/- The document's Bare, Fine, tokenOf. -/
import Derived.Test.YtdoaeapahgmfoaaGreatDoorS3
namespace Go.Proofs.YtdoaeapahgmfoaaGreatDoor
open Go.RowKit

set_option maxRecDepth 100000 in
set_option maxHeartbeats 4000000 in
theorem rBare_any (c : Int) (w : World) : Calls Tryz.prog 47 #[.int .i64 c] w fun e w' => e = .returned (.agg #[.int .i64 c, .int .i64 (-1)]) ∧ Below w.heap.size w w' := by
  go_enter Tryz.func47, Tryz.ntmps47
  go_wp2_with fail
  refine bodyPost_ret (v := .agg #[.int .i64 c, .int .i64 (-1)]) ?_ rfl ⟨rfl, (Below.refl _ _).alloc (Nat.le_refl _) _⟩
  simp [results, Tryz.results47, go_sem]

set_option maxRecDepth 100000 in
set_option maxHeartbeats 4000000 in
theorem rFine_any (w : World) : Calls Tryz.prog 49 #[] w fun e w' => e = .returned (.agg #[.int .i64 0, .int .i64 (-1)]) ∧ Below w.heap.size w w' := by
  go_enter Tryz.func49, Tryz.ntmps49
  go_wp2_with fail
  refine bodyPost_ret (v := .agg #[.int .i64 0, .int .i64 (-1)]) ?_ rfl ⟨rfl, (Below.refl _ _).alloc (Nat.le_refl _) _⟩
  simp [results, Tryz.results49, go_sem]

/-- The text in front of a place. -/
theorem head_facts (s : ByteArray) (n : Nat) (hn : n ≤ s.size) (w : World) :
    (Instr.slice 9 (.string s) none (some (.int .i64 (n : Int))) none).run Tryz.prog w = .ok (.string (toBA (s.data.toList.take n))) w := by
  have e : toBA (s.data.toList.take n) = s.extract 0 n := by
    rw [← toBA_of (s.extract 0 n)]; congr 1; simp
  rw [e, run_slice_string_to_if w 9 s .i64 _ Tryz.underlying9, if_pos ⟨by omega, by omega⟩]
  rfl

theorem tokL_head {l : List UInt8} {c : UInt8} (h : l.head? = some c) : tokL l =
    if lowB c = true ∨ upB c = true then
      if wordsL.contains (l.take (spanL wordB l 1)) then some (kWord, l.take (spanL wordB l 1), spanL wordB l 1)
      else if lowB c = true ∧ spanL wordB l 1 ≤ 16 then some (kName, l.take (spanL wordB l 1), spanL wordB l 1) else none
    else if digitB c = true then
      if parsesInt (l.take (spanL digitB l 0)) = true ∧ ¬ (1 < spanL digitB l 0 ∧ c.toNat = 48) then some (kInt, l.take (spanL digitB l 0), spanL digitB l 0) else none
    else if c.toNat = 34 then match unqS l with
      | some (t, n) => some (kStr, t, n)
      | none => none
    else match opsL.find? (fun o => o.isPrefixOf l) with
      | some o => some (kOp, o, o.length)
      | none => none := by
  match l, h with
  | d :: r, h =>
    injection h with h
    subst h
    rfl
theorem head_some (s : ByteArray) (h0 : 1 ≤ s.size) : s.data.toList.head? = some (s[0]'h0) := by
  have hl : 0 < s.data.toList.length := by simp; omega
  have e : s.data.toList[0]'hl = s[0]'h0 := rfl
  rw [← e, List.head?_eq_getElem?, List.getElem?_eq_getElem hl]

/-- What tokenOf answers. -/
def TokAns (l : List UInt8) (v : Value) : Prop := ∃ (kd tx : ByteArray) (n : Nat), v = .tuple #[.agg #[.string kd, .string tx, .int .i64 0], .int .i64 n] ∧
  match tokL l with
  | some (k, t, m) => kd = toBA k ∧ tx = toBA t ∧ n = m
  | none => n = 0


theorem rWords_cells (w : World) : Calls Tryz.prog 90 #[] w fun e w' => ∃ g, e = .returned (.slice (some ⟨g, 0, none⟩) wordsL.length 25) ∧ (∀ j (hj : j < wordsL.length), w'.cell? ⟨g, j, none⟩ = some (.string (toBA wordsL[j]))) ∧ Below w.heap.size w w' :=
  (rWords_any w).mono fun e w' ⟨h1, h2⟩ => ⟨w.heap.size, h1, by rw [h2]; exact words_cells w, by rw [h2]; exact (Below.refl _ _).alloc (Nat.le_refl _) _⟩

set_option maxRecDepth 100000 in
set_option maxHeartbeats 20000000 in
theorem rTokenWord {w : World} (s : ByteArray) (hs : s.size ≤ 6000) (h0 : 1 ≤ s.size) (hc : lowB (s[0]'h0) = true ∨ upB (s[0]'h0) = true) :
    Calls Tryz.prog 48 #[.string s] w fun e w' => (∃ v, e = .returned v ∧ TokAns s.data.toList v) ∧ Below w.heap.size w w' := by
  have hix : ∀ w : World, (Instr.index 9 (.string s) (.int .i64 0)).run Tryz.prog w = .ok (.int .u8 ((s[0]'h0).toNat : Int)) w := fun w => by
    have := index_far s 0 0 (by omega) w
    simpa using this
  obtain ⟨c, hcc⟩ : ∃ c, c = s[0]'h0 := ⟨_, rfl⟩
  rw [← hcc] at hc hix
  have Hcc := Lib.hid hcc; have Hc := Lib.hid hc
  clear hcc hc
  go_enter Tryz.func48, Tryz.ntmps48
  go_wp2_with fail
  refine (rLow_any c _).mono ?_
  rintro e w1 ⟨rfl, rfl⟩
  rcases hlow : lowB c with _ | _
  · have hup : upB c = true := by
      rcases Hc.out with h | h
      · rw [hlow] at h; cases h
      · exact h
    go_wp2_with fail
    refine (rHigh_any c _).mono ?_
    rintro e w1 ⟨rfl, rfl⟩
    rw [hup]
    clear hup hlow
    go_wp2_with fail
    go_loop [4] (fun v => ∃ n : Nat, 1 ≤ n ∧ n ≤ s.size ∧ v = .int .i64 n ∧ spanL wordB s.data.toList n = spanL wordB s.data.toList 1) (fun v => s.size - (intOf v).toNat)
    case atStart => exact ⟨1, by omega, h0, rfl, rfl⟩
    case round =>
      obtain ⟨n, hn1, hn, rfl, hsp⟩ := hrel
      have Hsp := Lib.hid hsp; clear hsp
      have hsl := head_facts s n hn
      by_cases hlt : n < s.size
      · have t0 : decide ((n : Int) < (s.size : Int)) = true := by simp; omega
        rcases hwb : wordB (s[n]'hlt) with _ | _
        · have hno : spanL wordB s.data.toList n = n := spanL_no _ _ _ (by simpa using hlt) hwb
          have hlo : lowB (s[n]'hlt) = false := by unfold wordB at hwb; simp at hwb; exact hwb.1
          have hdi : digitB (s[n]'hlt) = false := by unfold wordB at hwb; simp at hwb; exact hwb.2
          have hnn : spanL wordB s.data.toList 1 = n := by rw [← Hsp.out, hno]
          have Hn := Lib.hid hnn; clear hno hwb hnn
          go_wp2_with fail
          refine (rLow_any _ _).mono ?_
          rintro e w1 ⟨rfl, rfl⟩
          rw [hlo]
          go_wp2_with fail
          refine (rDigit_any _ _).mono ?_
          rintro e w1 ⟨rfl, rfl⟩
          rw [hdi]
          clear hlo hdi
          go_upto_region 6 with fail
          go_region_with (first
            | (go_at_call 90; refine (rWords_cells _).mono ?_; rintro e w2 ⟨g2, rfl, hcw, hbw⟩)
            | (go_at_call 29; refine (rHas_any wordsL _ g2 25 _ (by decide) hcw).mono ?_; rintro e w2 ⟨rfl, rfl⟩))
          have hz : w2.heap[w.heap.size]? = some (.cells #[.string ⟨#[]⟩, .string ⟨#[]⟩, .int .i64 0] 115 (0, 0)) := (hbw.block _ (by simp)).trans (heap_alloc_new w _)
          have hbA : Below w.heap.size w (w.alloc (.cells #[.string ⟨#[]⟩, .string ⟨#[]⟩, .int .i64 0] 115)).drew := ((Below.refl _ _).alloc (Nat.le_refl _) _).drew
          have hb2 : Below w.heap.size w w2 := hbA.trans (hbw.mono hbA.size)
          have e0 := cell_of_blk (o := 0) hz
          have e1 := cell_of_blk (o := 1) hz
          have e2 := cell_of_blk (o := 2) hz
          have f0 := frozen_of_blk (o := 0) hz
          have f1 := frozen_of_blk (o := 1) hz
          have f2 := frozen_of_blk (o := 2) hz
          clear hz hcw hbw hbA
          have htk := tokL_head (head_some s h0)
          rw [← Hcc.out, Hn.out] at htk
          rw [if_pos Hc.out] at htk
          by_cases hw : s.data.toList.take n ∈ wordsL
          · have hwd : decide (s.data.toList.take n ∈ wordsL) = true := by simpa using hw
            rw [if_pos (by simpa using hw)] at htk
            have Htk := Lib.hid htk; clear htk hw
            go_wp2_with fail
            refine bodyPost_ret (v := .tuple #[.agg #[.string ⟨#[119, 111, 114, 100]⟩, .string (toBA (s.data.toList.take n)), .int .i64 0], .int .i64 n]) ?_ rfl ⟨⟨_, rfl, ⟨#[119, 111, 114, 100]⟩, (toBA (s.data.toList.take n)), n, rfl, (by rw [Htk.out]; exact ⟨rfl, rfl, rfl⟩)⟩, ((hb2.setCell (p := ⟨w.heap.size, 0, none⟩) (Nat.le_refl _) _).setCell (p := ⟨w.heap.size, 1, none⟩) (Nat.le_refl _) _).setCell (p := ⟨w.heap.size, 2, none⟩) (Nat.le_refl _) _⟩
            simp [results, Tryz.results48, go_sem, e0, e1, e2]
          · have hwd : decide (s.data.toList.take n ∈ wordsL) = false := by simpa using hw
            rw [if_neg (by simpa using hw)] at htk
            have Htk := Lib.hid htk; clear htk hw
            go_wp2_with fail
            refine (rHigh_any c _).mono ?_
            rintro e w3 ⟨rfl, rfl⟩
            rcases hup2 : upB c with _ | _
            · have hlo2 : lowB c = true := by
                rcases Hc.out with h | h
                · exact h
                · rw [hup2] at h; cases h
              have Hlo := Lib.hid hlo2; clear hlo2
              by_cases h16 : n ≤ 16
              · have u1 : decide ((16 : Int) < (n : Int)) = false := by simp; omega
                go_wp2_with fail
                refine bodyPost_ret (v := .tuple #[.agg #[.string ⟨#[110, 97, 109, 101]⟩, .string (toBA (s.data.toList.take n)), .int .i64 0], .int .i64 n]) ?_ rfl ⟨⟨_, rfl, ⟨#[110, 97, 109, 101]⟩, (toBA (s.data.toList.take n)), n, rfl, (by rw [Htk.out, if_pos ⟨Hlo.out, h16⟩]; exact ⟨rfl, rfl, rfl⟩)⟩, ((hb2.setCell (p := ⟨w.heap.size, 0, none⟩) (Nat.le_refl _) _).setCell (p := ⟨w.heap.size, 1, none⟩) (Nat.le_refl _) _).setCell (p := ⟨w.heap.size, 2, none⟩) (Nat.le_refl _) _⟩
                simp [results, Tryz.results48, go_sem, e0, e1, e2]
              · have u1 : decide ((16 : Int) < (n : Int)) = true := by simp; omega
                go_wp2_with fail
                refine bodyPost_ret (v := .tuple #[.agg #[.string ⟨#[]⟩, .string ⟨#[]⟩, .int .i64 0], .int .i64 (0 : Nat)]) ?_ rfl ⟨⟨_, rfl, ⟨#[]⟩, ⟨#[]⟩, (0 : Nat), rfl, (by rw [Htk.out, if_neg (fun h => h16 h.2)])⟩, ((hb2.setCell (p := ⟨w.heap.size, 0, none⟩) (Nat.le_refl _) _).setCell (p := ⟨w.heap.size, 1, none⟩) (Nat.le_refl _) _).setCell (p := ⟨w.heap.size, 2, none⟩) (Nat.le_refl _) _⟩
                simp [results, Tryz.results48, go_sem, e0, e1, e2]
            · have hlo2 : lowB c = false := by
                unfold upB at hup2; unfold lowB
                rw [decide_eq_true_iff] at hup2
                rw [decide_eq_false_iff_not]; omega
              have Hlo := Lib.hid hlo2; clear hlo2
              go_wp2_with fail
              refine bodyPost_ret (v := .tuple #[.agg #[.string ⟨#[]⟩, .string ⟨#[]⟩, .int .i64 0], .int .i64 (0 : Nat)]) ?_ rfl ⟨⟨_, rfl, ⟨#[]⟩, ⟨#[]⟩, (0 : Nat), rfl, (by rw [Htk.out, if_neg (fun h => by rw [Hlo.out] at h; cases h.1)])⟩, ((hb2.setCell (p := ⟨w.heap.size, 0, none⟩) (Nat.le_refl _) _).setCell (p := ⟨w.heap.size, 1, none⟩) (Nat.le_refl _) _).setCell (p := ⟨w.heap.size, 2, none⟩) (Nat.le_refl _) _⟩
              simp [results, Tryz.results48, go_sem, e0, e1, e2]
        · have hyes : spanL wordB s.data.toList n = spanL wordB s.data.toList (n + 1) := spanL_yes _ _ _ (by simpa using hlt) hwb
          have Hy := Lib.hid hyes; clear hyes
          go_wp2_with fail
          refine (rLow_any _ _).mono ?_
          rintro e w1 ⟨rfl, rfl⟩
          rcases hlo : lowB (s[n]'hlt) with _ | _
          · have hdi : digitB (s[n]'hlt) = true := by unfold wordB at hwb; rw [hlo] at hwb; simpa using hwb
            go_wp2_with fail
            refine (rDigit_any _ _).mono ?_
            rintro e w1 ⟨rfl, rfl⟩
            rw [hdi]
            clear hlo hdi hwb
            go_wp2_with fail
            go_round
            case rel => exact ⟨n + 1, by omega, by omega, by go_num, by rw [← Hy.out, Hsp.out]⟩
            case measure => simp [intOf]; omega
          · clear hlo hwb
            go_wp2_with fail
            go_round
            case rel => exact ⟨n + 1, by omega, by omega, by go_num, by rw [← Hy.out, Hsp.out]⟩
            case measure => simp [intOf]; omega
      · have t0 : decide ((n : Int) < (s.size : Int)) = false := by simp; omega
        have hnn : spanL wordB s.data.toList 1 = n := by rw [← Hsp.out]; exact spanL_end _ _ _ (by simp; omega)
        have Hn := Lib.hid hnn; clear hnn
        go_upto_region 6 with fail
        go_region_with (first
          | (go_at_call 90; refine (rWords_cells _).mono ?_; rintro e w2 ⟨g2, rfl, hcw, hbw⟩)
          | (go_at_call 29; refine (rHas_any wordsL _ g2 25 _ (by decide) hcw).mono ?_; rintro e w2 ⟨rfl, rfl⟩))
        have hz : w2.heap[w.heap.size]? = some (.cells #[.string ⟨#[]⟩, .string ⟨#[]⟩, .int .i64 0] 115 (0, 0)) := (hbw.block _ (by simp)).trans (heap_alloc_new w _)
        have hbA : Below w.heap.size w (w.alloc (.cells #[.string ⟨#[]⟩, .string ⟨#[]⟩, .int .i64 0] 115)).drew := ((Below.refl _ _).alloc (Nat.le_refl _) _).drew
        have hb2 : Below w.heap.size w w2 := hbA.trans (hbw.mono hbA.size)
        have e0 := cell_of_blk (o := 0) hz
        have e1 := cell_of_blk (o := 1) hz
        have e2 := cell_of_blk (o := 2) hz
        have f0 := frozen_of_blk (o := 0) hz
        have f1 := frozen_of_blk (o := 1) hz
        have f2 := frozen_of_blk (o := 2) hz
        clear hz hcw hbw hbA
        have htk := tokL_head (head_some s h0)
        rw [← Hcc.out, Hn.out] at htk
        rw [if_pos Hc.out] at htk
        by_cases hw : s.data.toList.take n ∈ wordsL
        · have hwd : decide (s.data.toList.take n ∈ wordsL) = true := by simpa using hw
          rw [if_pos (by simpa using hw)] at htk
          have Htk := Lib.hid htk; clear htk hw
          go_wp2_with fail
          refine bodyPost_ret (v := .tuple #[.agg #[.string ⟨#[119, 111, 114, 100]⟩, .string (toBA (s.data.toList.take n)), .int .i64 0], .int .i64 n]) ?_ rfl ⟨⟨_, rfl, ⟨#[119, 111, 114, 100]⟩, (toBA (s.data.toList.take n)), n, rfl, (by rw [Htk.out]; exact ⟨rfl, rfl, rfl⟩)⟩, ((hb2.setCell (p := ⟨w.heap.size, 0, none⟩) (Nat.le_refl _) _).setCell (p := ⟨w.heap.size, 1, none⟩) (Nat.le_refl _) _).setCell (p := ⟨w.heap.size, 2, none⟩) (Nat.le_refl _) _⟩
          simp [results, Tryz.results48, go_sem, e0, e1, e2]
        · have hwd : decide (s.data.toList.take n ∈ wordsL) = false := by simpa using hw
          rw [if_neg (by simpa using hw)] at htk
          have Htk := Lib.hid htk; clear htk hw
          go_wp2_with fail
          refine (rHigh_any c _).mono ?_
          rintro e w3 ⟨rfl, rfl⟩
          rcases hup2 : upB c with _ | _
          · have hlo2 : lowB c = true := by
              rcases Hc.out with h | h
              · exact h
              · rw [hup2] at h; cases h
            have Hlo := Lib.hid hlo2; clear hlo2
            by_cases h16 : n ≤ 16
            · have u1 : decide ((16 : Int) < (n : Int)) = false := by simp; omega
              go_wp2_with fail
              refine bodyPost_ret (v := .tuple #[.agg #[.string ⟨#[110, 97, 109, 101]⟩, .string (toBA (s.data.toList.take n)), .int .i64 0], .int .i64 n]) ?_ rfl ⟨⟨_, rfl, ⟨#[110, 97, 109, 101]⟩, (toBA (s.data.toList.take n)), n, rfl, (by rw [Htk.out, if_pos ⟨Hlo.out, h16⟩]; exact ⟨rfl, rfl, rfl⟩)⟩, ((hb2.setCell (p := ⟨w.heap.size, 0, none⟩) (Nat.le_refl _) _).setCell (p := ⟨w.heap.size, 1, none⟩) (Nat.le_refl _) _).setCell (p := ⟨w.heap.size, 2, none⟩) (Nat.le_refl _) _⟩
              simp [results, Tryz.results48, go_sem, e0, e1, e2]
            · have u1 : decide ((16 : Int) < (n : Int)) = true := by simp; omega
              go_wp2_with fail
              refine bodyPost_ret (v := .tuple #[.agg #[.string ⟨#[]⟩, .string ⟨#[]⟩, .int .i64 0], .int .i64 (0 : Nat)]) ?_ rfl ⟨⟨_, rfl, ⟨#[]⟩, ⟨#[]⟩, (0 : Nat), rfl, (by rw [Htk.out, if_neg (fun h => h16 h.2)])⟩, ((hb2.setCell (p := ⟨w.heap.size, 0, none⟩) (Nat.le_refl _) _).setCell (p := ⟨w.heap.size, 1, none⟩) (Nat.le_refl _) _).setCell (p := ⟨w.heap.size, 2, none⟩) (Nat.le_refl _) _⟩
              simp [results, Tryz.results48, go_sem, e0, e1, e2]
          · have hlo2 : lowB c = false := by
              unfold upB at hup2; unfold lowB
              rw [decide_eq_true_iff] at hup2
              rw [decide_eq_false_iff_not]; omega
            have Hlo := Lib.hid hlo2; clear hlo2
            go_wp2_with fail
            refine bodyPost_ret (v := .tuple #[.agg #[.string ⟨#[]⟩, .string ⟨#[]⟩, .int .i64 0], .int .i64 (0 : Nat)]) ?_ rfl ⟨⟨_, rfl, ⟨#[]⟩, ⟨#[]⟩, (0 : Nat), rfl, (by rw [Htk.out, if_neg (fun h => by rw [Hlo.out] at h; cases h.1)])⟩, ((hb2.setCell (p := ⟨w.heap.size, 0, none⟩) (Nat.le_refl _) _).setCell (p := ⟨w.heap.size, 1, none⟩) (Nat.le_refl _) _).setCell (p := ⟨w.heap.size, 2, none⟩) (Nat.le_refl _) _⟩
            simp [results, Tryz.results48, go_sem, e0, e1, e2]
  · clear hlow
    go_wp2_with fail
    go_loop [4] (fun v => ∃ n : Nat, 1 ≤ n ∧ n ≤ s.size ∧ v = .int .i64 n ∧ spanL wordB s.data.toList n = spanL wordB s.data.toList 1) (fun v => s.size - (intOf v).toNat)
    case atStart => exact ⟨1, by omega, h0, rfl, rfl⟩
    case round =>
      obtain ⟨n, hn1, hn, rfl, hsp⟩ := hrel
      have Hsp := Lib.hid hsp; clear hsp
      have hsl := head_facts s n hn
      by_cases hlt : n < s.size
      · have t0 : decide ((n : Int) < (s.size : Int)) = true := by simp; omega
        rcases hwb : wordB (s[n]'hlt) with _ | _
        · have hno : spanL wordB s.data.toList n = n := spanL_no _ _ _ (by simpa using hlt) hwb
          have hlo : lowB (s[n]'hlt) = false := by unfold wordB at hwb; simp at hwb; exact hwb.1
          have hdi : digitB (s[n]'hlt) = false := by unfold wordB at hwb; simp at hwb; exact hwb.2
          have hnn : spanL wordB s.data.toList 1 = n := by rw [← Hsp.out, hno]
          have Hn := Lib.hid hnn; clear hno hwb hnn
          go_wp2_with fail
          refine (rLow_any _ _).mono ?_
          rintro e w1 ⟨rfl, rfl⟩
          rw [hlo]
          go_wp2_with fail
          refine (rDigit_any _ _).mono ?_
          rintro e w1 ⟨rfl, rfl⟩
          rw [hdi]
          clear hlo hdi
          go_upto_region 6 with fail
          go_region_with (first
            | (go_at_call 90; refine (rWords_cells _).mono ?_; rintro e w2 ⟨g2, rfl, hcw, hbw⟩)
            | (go_at_call 29; refine (rHas_any wordsL _ g2 25 _ (by decide) hcw).mono ?_; rintro e w2 ⟨rfl, rfl⟩))
          have hz : w2.heap[w.heap.size]? = some (.cells #[.string ⟨#[]⟩, .string ⟨#[]⟩, .int .i64 0] 115 (0, 0)) := (hbw.block _ (by simp)).trans (heap_alloc_new w _)
          have hbA : Below w.heap.size w (w.alloc (.cells #[.string ⟨#[]⟩, .string ⟨#[]⟩, .int .i64 0] 115)).drew := ((Below.refl _ _).alloc (Nat.le_refl _) _).drew
          have hb2 : Below w.heap.size w w2 := hbA.trans (hbw.mono hbA.size)
          have e0 := cell_of_blk (o := 0) hz
          have e1 := cell_of_blk (o := 1) hz
          have e2 := cell_of_blk (o := 2) hz
          have f0 := frozen_of_blk (o := 0) hz
          have f1 := frozen_of_blk (o := 1) hz
          have f2 := frozen_of_blk (o := 2) hz
          clear hz hcw hbw hbA
          have htk := tokL_head (head_some s h0)
          rw [← Hcc.out, Hn.out] at htk
          rw [if_pos Hc.out] at htk
          by_cases hw : s.data.toList.take n ∈ wordsL
          · have hwd : decide (s.data.toList.take n ∈ wordsL) = true := by simpa using hw
            rw [if_pos (by simpa using hw)] at htk
            have Htk := Lib.hid htk; clear htk hw
            go_wp2_with fail
            refine bodyPost_ret (v := .tuple #[.agg #[.string ⟨#[119, 111, 114, 100]⟩, .string (toBA (s.data.toList.take n)), .int .i64 0], .int .i64 n]) ?_ rfl ⟨⟨_, rfl, ⟨#[119, 111, 114, 100]⟩, (toBA (s.data.toList.take n)), n, rfl, (by rw [Htk.out]; exact ⟨rfl, rfl, rfl⟩)⟩, ((hb2.setCell (p := ⟨w.heap.size, 0, none⟩) (Nat.le_refl _) _).setCell (p := ⟨w.heap.size, 1, none⟩) (Nat.le_refl _) _).setCell (p := ⟨w.heap.size, 2, none⟩) (Nat.le_refl _) _⟩
            simp [results, Tryz.results48, go_sem, e0, e1, e2]
          · have hwd : decide (s.data.toList.take n ∈ wordsL) = false := by simpa using hw
            rw [if_neg (by simpa using hw)] at htk
            have Htk := Lib.hid htk; clear htk hw
            go_wp2_with fail
            refine (rHigh_any c _).mono ?_
            rintro e w3 ⟨rfl, rfl⟩
            rcases hup2 : upB c with _ | _
            · have hlo2 : lowB c = true := by
                rcases Hc.out with h | h
                · exact h
                · rw [hup2] at h; cases h
              have Hlo := Lib.hid hlo2; clear hlo2
              by_cases h16 : n ≤ 16
              · have u1 : decide ((16 : Int) < (n : Int)) = false := by simp; omega
                go_wp2_with fail
                refine bodyPost_ret (v := .tuple #[.agg #[.string ⟨#[110, 97, 109, 101]⟩, .string (toBA (s.data.toList.take n)), .int .i64 0], .int .i64 n]) ?_ rfl ⟨⟨_, rfl, ⟨#[110, 97, 109, 101]⟩, (toBA (s.data.toList.take n)), n, rfl, (by rw [Htk.out, if_pos ⟨Hlo.out, h16⟩]; exact ⟨rfl, rfl, rfl⟩)⟩, ((hb2.setCell (p := ⟨w.heap.size, 0, none⟩) (Nat.le_refl _) _).setCell (p := ⟨w.heap.size, 1, none⟩) (Nat.le_refl _) _).setCell (p := ⟨w.heap.size, 2, none⟩) (Nat.le_refl _) _⟩
                simp [results, Tryz.results48, go_sem, e0, e1, e2]
              · have u1 : decide ((16 : Int) < (n : Int)) = true := by simp; omega
                go_wp2_with fail
                refine bodyPost_ret (v := .tuple #[.agg #[.string ⟨#[]⟩, .string ⟨#[]⟩, .int .i64 0], .int .i64 (0 : Nat)]) ?_ rfl ⟨⟨_, rfl, ⟨#[]⟩, ⟨#[]⟩, (0 : Nat), rfl, (by rw [Htk.out, if_neg (fun h => h16 h.2)])⟩, ((hb2.setCell (p := ⟨w.heap.size, 0, none⟩) (Nat.le_refl _) _).setCell (p := ⟨w.heap.size, 1, none⟩) (Nat.le_refl _) _).setCell (p := ⟨w.heap.size, 2, none⟩) (Nat.le_refl _) _⟩
                simp [results, Tryz.results48, go_sem, e0, e1, e2]
            · have hlo2 : lowB c = false := by
                unfold upB at hup2; unfold lowB
                rw [decide_eq_true_iff] at hup2
                rw [decide_eq_false_iff_not]; omega
              have Hlo := Lib.hid hlo2; clear hlo2
              go_wp2_with fail
              refine bodyPost_ret (v := .tuple #[.agg #[.string ⟨#[]⟩, .string ⟨#[]⟩, .int .i64 0], .int .i64 (0 : Nat)]) ?_ rfl ⟨⟨_, rfl, ⟨#[]⟩, ⟨#[]⟩, (0 : Nat), rfl, (by rw [Htk.out, if_neg (fun h => by rw [Hlo.out] at h; cases h.1)])⟩, ((hb2.setCell (p := ⟨w.heap.size, 0, none⟩) (Nat.le_refl _) _).setCell (p := ⟨w.heap.size, 1, none⟩) (Nat.le_refl _) _).setCell (p := ⟨w.heap.size, 2, none⟩) (Nat.le_refl _) _⟩
              simp [results, Tryz.results48, go_sem, e0, e1, e2]
        · have hyes : spanL wordB s.data.toList n = spanL wordB s.data.toList (n + 1) := spanL_yes _ _ _ (by simpa using hlt) hwb
          have Hy := Lib.hid hyes; clear hyes
          go_wp2_with fail
          refine (rLow_any _ _).mono ?_
          rintro e w1 ⟨rfl, rfl⟩
          rcases hlo : lowB (s[n]'hlt) with _ | _
          · have hdi : digitB (s[n]'hlt) = true := by unfold wordB at hwb; rw [hlo] at hwb; simpa using hwb
            go_wp2_with fail
            refine (rDigit_any _ _).mono ?_
            rintro e w1 ⟨rfl, rfl⟩
            rw [hdi]
            clear hlo hdi hwb
            go_wp2_with fail
            go_round
            case rel => exact ⟨n + 1, by omega, by omega, by go_num, by rw [← Hy.out, Hsp.out]⟩
            case measure => simp [intOf]; omega
          · clear hlo hwb
            go_wp2_with fail
            go_round
            case rel => exact ⟨n + 1, by omega, by omega, by go_num, by rw [← Hy.out, Hsp.out]⟩
            case measure => simp [intOf]; omega
      · have t0 : decide ((n : Int) < (s.size : Int)) = false := by simp; omega
        have hnn : spanL wordB s.data.toList 1 = n := by rw [← Hsp.out]; exact spanL_end _ _ _ (by simp; omega)
        have Hn := Lib.hid hnn; clear hnn
        go_upto_region 6 with fail
        go_region_with (first
          | (go_at_call 90; refine (rWords_cells _).mono ?_; rintro e w2 ⟨g2, rfl, hcw, hbw⟩)
          | (go_at_call 29; refine (rHas_any wordsL _ g2 25 _ (by decide) hcw).mono ?_; rintro e w2 ⟨rfl, rfl⟩))
        have hz : w2.heap[w.heap.size]? = some (.cells #[.string ⟨#[]⟩, .string ⟨#[]⟩, .int .i64 0] 115 (0, 0)) := (hbw.block _ (by simp)).trans (heap_alloc_new w _)
        have hbA : Below w.heap.size w (w.alloc (.cells #[.string ⟨#[]⟩, .string ⟨#[]⟩, .int .i64 0] 115)).drew := ((Below.refl _ _).alloc (Nat.le_refl _) _).drew
        have hb2 : Below w.heap.size w w2 := hbA.trans (hbw.mono hbA.size)
        have e0 := cell_of_blk (o := 0) hz
        have e1 := cell_of_blk (o := 1) hz
        have e2 := cell_of_blk (o := 2) hz
        have f0 := frozen_of_blk (o := 0) hz
        have f1 := frozen_of_blk (o := 1) hz
        have f2 := frozen_of_blk (o := 2) hz
        clear hz hcw hbw hbA
        have htk := tokL_head (head_some s h0)
        rw [← Hcc.out, Hn.out] at htk
        rw [if_pos Hc.out] at htk
        by_cases hw : s.data.toList.take n ∈ wordsL
        · have hwd : decide (s.data.toList.take n ∈ wordsL) = true := by simpa using hw
          rw [if_pos (by simpa using hw)] at htk
          have Htk := Lib.hid htk; clear htk hw
          go_wp2_with fail
          refine bodyPost_ret (v := .tuple #[.agg #[.string ⟨#[119, 111, 114, 100]⟩, .string (toBA (s.data.toList.take n)), .int .i64 0], .int .i64 n]) ?_ rfl ⟨⟨_, rfl, ⟨#[119, 111, 114, 100]⟩, (toBA (s.data.toList.take n)), n, rfl, (by rw [Htk.out]; exact ⟨rfl, rfl, rfl⟩)⟩, ((hb2.setCell (p := ⟨w.heap.size, 0, none⟩) (Nat.le_refl _) _).setCell (p := ⟨w.heap.size, 1, none⟩) (Nat.le_refl _) _).setCell (p := ⟨w.heap.size, 2, none⟩) (Nat.le_refl _) _⟩
          simp [results, Tryz.results48, go_sem, e0, e1, e2]
        · have hwd : decide (s.data.toList.take n ∈ wordsL) = false := by simpa using hw
          rw [if_neg (by simpa using hw)] at htk
          have Htk := Lib.hid htk; clear htk hw
          go_wp2_with fail
          refine (rHigh_any c _).mono ?_
          rintro e w3 ⟨rfl, rfl⟩
          rcases hup2 : upB c with _ | _
          · have hlo2 : lowB c = true := by
              rcases Hc.out with h | h
              · exact h
              · rw [hup2] at h; cases h
            have Hlo := Lib.hid hlo2; clear hlo2
            by_cases h16 : n ≤ 16
            · have u1 : decide ((16 : Int) < (n : Int)) = false := by simp; omega
              go_wp2_with fail
              refine bodyPost_ret (v := .tuple #[.agg #[.string ⟨#[110, 97, 109, 101]⟩, .string (toBA (s.data.toList.take n)), .int .i64 0], .int .i64 n]) ?_ rfl ⟨⟨_, rfl, ⟨#[110, 97, 109, 101]⟩, (toBA (s.data.toList.take n)), n, rfl, (by rw [Htk.out, if_pos ⟨Hlo.out, h16⟩]; exact ⟨rfl, rfl, rfl⟩)⟩, ((hb2.setCell (p := ⟨w.heap.size, 0, none⟩) (Nat.le_refl _) _).setCell (p := ⟨w.heap.size, 1, none⟩) (Nat.le_refl _) _).setCell (p := ⟨w.heap.size, 2, none⟩) (Nat.le_refl _) _⟩
              simp [results, Tryz.results48, go_sem, e0, e1, e2]
            · have u1 : decide ((16 : Int) < (n : Int)) = true := by simp; omega
              go_wp2_with fail
              refine bodyPost_ret (v := .tuple #[.agg #[.string ⟨#[]⟩, .string ⟨#[]⟩, .int .i64 0], .int .i64 (0 : Nat)]) ?_ rfl ⟨⟨_, rfl, ⟨#[]⟩, ⟨#[]⟩, (0 : Nat), rfl, (by rw [Htk.out, if_neg (fun h => h16 h.2)])⟩, ((hb2.setCell (p := ⟨w.heap.size, 0, none⟩) (Nat.le_refl _) _).setCell (p := ⟨w.heap.size, 1, none⟩) (Nat.le_refl _) _).setCell (p := ⟨w.heap.size, 2, none⟩) (Nat.le_refl _) _⟩
              simp [results, Tryz.results48, go_sem, e0, e1, e2]
          · have hlo2 : lowB c = false := by
              unfold upB at hup2; unfold lowB
              rw [decide_eq_true_iff] at hup2
              rw [decide_eq_false_iff_not]; omega
            have Hlo := Lib.hid hlo2; clear hlo2
            go_wp2_with fail
            refine bodyPost_ret (v := .tuple #[.agg #[.string ⟨#[]⟩, .string ⟨#[]⟩, .int .i64 0], .int .i64 (0 : Nat)]) ?_ rfl ⟨⟨_, rfl, ⟨#[]⟩, ⟨#[]⟩, (0 : Nat), rfl, (by rw [Htk.out, if_neg (fun h => by rw [Hlo.out] at h; cases h.1)])⟩, ((hb2.setCell (p := ⟨w.heap.size, 0, none⟩) (Nat.le_refl _) _).setCell (p := ⟨w.heap.size, 1, none⟩) (Nat.le_refl _) _).setCell (p := ⟨w.heap.size, 2, none⟩) (Nat.le_refl _) _⟩
            simp [results, Tryz.results48, go_sem, e0, e1, e2]
end Go.Proofs.YtdoaeapahgmfoaaGreatDoor
