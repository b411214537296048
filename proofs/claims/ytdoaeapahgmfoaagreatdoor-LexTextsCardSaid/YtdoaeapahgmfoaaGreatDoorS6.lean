/- The document's tokenOf: strs, ops; all of it. -/
import Derived.Test.YtdoaeapahgmfoaaGreatDoorS5
namespace Go.Proofs.YtdoaeapahgmfoaaGreatDoor
open Go.RowKit

theorem zero_facts {w w2 : World} (hbA : Below (w.heap.size + 1) (w.alloc (.cells #[.string ⟨#[]⟩, .string ⟨#[]⟩, .int .i64 0] 115)) w2) :
    w2.heap[w.heap.size]? = some (.cells #[.string ⟨#[]⟩, .string ⟨#[]⟩, .int .i64 0] 115 (0, 0)) ∧ Below w.heap.size w w2 :=
  ⟨(hbA.block _ (by simp)).trans (heap_alloc_new w _), ((Below.refl _ _).alloc (Nat.le_refl _) _).trans (hbA.mono (by omega))⟩


set_option maxRecDepth 100000 in
set_option maxHeartbeats 20000000 in
theorem rTokenStr {w : World} (s : ByteArray) (hs : s.size ≤ 6000) (h0 : 1 ≤ s.size) (hlo : lowB (s[0]'h0) = false) (hup : upB (s[0]'h0) = false) (hdi : digitB (s[0]'h0) = false) (hq : (s[0]'h0).toNat = 34) :
    Calls Tryz.prog 48 #[.string s] w fun e w' => (∃ v, e = .returned v ∧ TokAns s.data.toList v) ∧ Below w.heap.size w w' := by
  have hix : ∀ w : World, (Instr.index 9 (.string s) (.int .i64 0)).run Tryz.prog w = .ok (.int .u8 ((s[0]'h0).toNat : Int)) w := fun w => by
    have := index_far s 0 0 (by omega) w
    simpa using this
  have htk := tokL_head (head_some s h0)
  obtain ⟨c, hcc⟩ : ∃ c, c = s[0]'h0 := ⟨_, rfl⟩
  rw [← hcc] at hlo hup hdi hix htk hq
  rw [if_neg (by rw [hlo, hup]; simp), if_neg (by rw [hdi]; simp)] at htk
  rw [if_pos hq] at htk
  have Htk := Lib.hid htk
  have u0 : ((c.toNat : Int) == 34) = true := by rw [hq]; rfl
  clear hcc htk hq
  go_enter Tryz.func48, Tryz.ntmps48
  go_wp2_with fail
  refine (rLow_any c _).mono ?_
  rintro e w1 ⟨rfl, rfl⟩
  rw [hlo]
  go_wp2_with fail
  refine (rHigh_any c _).mono ?_
  rintro e w1 ⟨rfl, rfl⟩
  rw [hup]
  go_wp2_with fail
  refine (rDigit_any c _).mono ?_
  rintro e w1 ⟨rfl, rfl⟩
  rw [hdi]
  clear hlo hup hdi
  go_wp2_with fail
  refine (rStr_any s _ hs h0).mono ?_
  rintro e w2 ⟨rfl, hbA⟩
  have hbA : Below (w.heap.size + 1) (w.alloc (.cells #[.string ⟨#[]⟩, .string ⟨#[]⟩, .int .i64 0] 115)) w2 := hbA.mono (by simp)
  obtain ⟨hz, hb2⟩ := zero_facts hbA
  have e0 := cell_of_blk (o := 0) hz
  have e1 := cell_of_blk (o := 1) hz
  have e2 := cell_of_blk (o := 2) hz
  have f0 := frozen_of_blk (o := 0) hz
  have f1 := frozen_of_blk (o := 1) hz
  have f2 := frozen_of_blk (o := 2) hz
  clear hz
  clear hbA
  rcases hu : unqS s.data.toList with _ | ⟨t, n⟩
  · have hno : tokL s.data.toList = none := by rw [Htk.out, hu]
    have Hno := Lib.hid hno; clear hno hu
    simp only [strAns]
    go_wp2_with fail
    refine bodyPost_ret (v := .tuple #[.agg #[.string ⟨#[115, 116, 114]⟩, .string ⟨#[]⟩, .int .i64 0], .int .i64 (0 : Nat)]) ?_ rfl ⟨⟨_, rfl, ⟨#[115, 116, 114]⟩, ⟨#[]⟩, (0 : Nat), rfl, (by rw [Hno.out])⟩, ((hb2.setCell (p := ⟨w.heap.size, 0, none⟩) (Nat.le_refl _) _).setCell (p := ⟨w.heap.size, 1, none⟩) (Nat.le_refl _) _).setCell (p := ⟨w.heap.size, 2, none⟩) (Nat.le_refl _) _⟩
    simp [results, Tryz.results48, go_sem, e0, e1, e2]
  · have hyes : tokL s.data.toList = some (kStr, t, n) := by rw [Htk.out, hu]
    have Hyes := Lib.hid hyes; clear hyes hu
    simp only [strAns]
    go_wp2_with fail
    refine bodyPost_ret (v := .tuple #[.agg #[.string ⟨#[115, 116, 114]⟩, .string (toBA t), .int .i64 0], .int .i64 n]) ?_ rfl ⟨⟨_, rfl, ⟨#[115, 116, 114]⟩, (toBA t), n, rfl, (by rw [Hyes.out]; exact ⟨rfl, rfl, rfl⟩)⟩, ((hb2.setCell (p := ⟨w.heap.size, 0, none⟩) (Nat.le_refl _) _).setCell (p := ⟨w.heap.size, 1, none⟩) (Nat.le_refl _) _).setCell (p := ⟨w.heap.size, 2, none⟩) (Nat.le_refl _) _⟩
    simp [results, Tryz.results48, go_sem, e0, e1, e2]

def opCells : Array Value := (opsL.map fun z => Value.string (toBA z)).toArray

set_option maxRecDepth 100000 in
set_option maxHeartbeats 20000000 in
theorem rTokenOp {w : World} (s : ByteArray) (hs : s.size ≤ 6000) (h0 : 1 ≤ s.size) (hlo : lowB (s[0]'h0) = false) (hup : upB (s[0]'h0) = false) (hdi : digitB (s[0]'h0) = false) (hq : ¬ (s[0]'h0).toNat = 34) :
    Calls Tryz.prog 48 #[.string s] w fun e w' => (∃ v, e = .returned v ∧ TokAns s.data.toList v) ∧ Below w.heap.size w w' := by
  have hix : ∀ w : World, (Instr.index 9 (.string s) (.int .i64 0)).run Tryz.prog w = .ok (.int .u8 ((s[0]'h0).toNat : Int)) w := fun w => by
    have := index_far s 0 0 (by omega) w
    simpa using this
  have htk := tokL_head (head_some s h0)
  obtain ⟨c, hcc⟩ : ∃ c, c = s[0]'h0 := ⟨_, rfl⟩
  rw [← hcc] at hlo hup hdi hix htk hq
  rw [if_neg (by rw [hlo, hup]; simp), if_neg (by rw [hdi]; simp)] at htk
  rw [if_neg hq] at htk
  have Htk := Lib.hid htk
  have u0 : ((c.toNat : Int) == 34) = false := by rw [beq_eq_false_iff_ne]; omega
  clear hcc htk hq
  have k1 : ((w.alloc (.cells #[.string ⟨#[]⟩, .string ⟨#[]⟩, .int .i64 0] 115)).alloc (.cells opCells 9)).heap[w.heap.size + 1]? = some (.cells opCells 9 (0, 0)) := by
    have := heap_alloc_new (w.alloc (.cells #[.string ⟨#[]⟩, .string ⟨#[]⟩, .int .i64 0] 115)) (.cells opCells 9)
    simpa using this
  have hbO : Below (w.heap.size + 1) (w.alloc (.cells #[.string ⟨#[]⟩, .string ⟨#[]⟩, .int .i64 0] 115)) ((w.alloc (.cells #[.string ⟨#[]⟩, .string ⟨#[]⟩, .int .i64 0] 115)).alloc (.cells opCells 9)) := (Below.refl _ _).alloc (by simp) _
  have hsO : ((w.alloc (.cells #[.string ⟨#[]⟩, .string ⟨#[]⟩, .int .i64 0] 115)).alloc (.cells opCells 9)).heap.size = w.heap.size + 1 + 1 := by simp
  go_enter Tryz.func48, Tryz.ntmps48
  go_wp2_with fail
  refine (rLow_any c _).mono ?_
  rintro e w1 ⟨rfl, rfl⟩
  rw [hlo]
  go_wp2_with fail
  refine (rHigh_any c _).mono ?_
  rintro e w1 ⟨rfl, rfl⟩
  rw [hup]
  go_wp2_with fail
  refine (rDigit_any c _).mono ?_
  rintro e w1 ⟨rfl, rfl⟩
  rw [hdi]
  clear hlo hup hdi
  go_wp2_with fail
  have hW : (w.alloc (.cells #[.string ⟨#[]⟩, .string ⟨#[]⟩, .int .i64 0] 115)).alloc (.cells #[.string ⟨#[61, 61]⟩, .string ⟨#[33, 61]⟩, .string ⟨#[60, 61]⟩, .string ⟨#[62, 61]⟩, .string ⟨#[47, 47]⟩, .string ⟨#[60]⟩, .string ⟨#[62]⟩, .string ⟨#[61]⟩, .string ⟨#[43]⟩, .string ⟨#[45]⟩, .string ⟨#[42]⟩, .string ⟨#[37]⟩, .string ⟨#[40]⟩, .string ⟨#[41]⟩, .string ⟨#[91]⟩, .string ⟨#[93]⟩, .string ⟨#[123]⟩, .string ⟨#[125]⟩, .string ⟨#[44]⟩, .string ⟨#[58]⟩, .string ⟨#[46]⟩] 9) = (w.alloc (.cells #[.string ⟨#[]⟩, .string ⟨#[]⟩, .int .i64 0] 115)).alloc (.cells opCells 9) := rfl
  rw [hW]
  clear hW
  generalize (w.alloc (.cells #[.string ⟨#[]⟩, .string ⟨#[]⟩, .int .i64 0] 115)).alloc (.cells opCells 9) = W at k1 hbO hsO ⊢
  have hcs : ∀ j (hj : j < opsL.length), W.cell? ⟨w.heap.size + 1, j, none⟩ = some (.string (toBA opsL[j])) := fun j hj => by
    rw [cell_of_blk k1]; simp [opCells, hj]
  have Hcs := Lib.hid hcs; clear hcs k1
  have h21 : opsL.length = 21 := rfl
  go_loopw [10] (fun i wr => ∃ j : Nat, j ≤ 21 ∧ i = .int .i64 j ∧ Below W.heap.size W wr ∧ ∀ m (hm : m < opsL.length), m < j → opsL[m].isPrefixOf s.data.toList = false) (fun i _ => 21 - (intOf i).toNat)
  case atStart => exact ⟨0, by omega, rfl, Below.refl _ _, fun _ _ h => by omega⟩
  case round =>
    obtain ⟨j, hj, rfl, hbr, hno⟩ := hrel
    have Hno := Lib.hid hno; clear hno
    by_cases hjl : j < 21
    · have t1 : decide ((j : Int) < 21) = true := by simp; omega
      have hjo : j < opsL.length := by rw [h21]; exact hjl
      have hc0 := Hcs.out j hjo
      obtain ⟨o, ho⟩ : ∃ o, o = opsL[j] := ⟨_, rfl⟩
      rw [← ho] at hc0
      have Ho := Lib.hid ho; clear ho
      have hc1 := (hbr.cell (p := ⟨w.heap.size + 1, j, none⟩) (by show w.heap.size + 1 < _; omega)).trans hc0
      clear hc0
      have hln : (toBA o).size = o.length := toBA_size o
      have Hln := Lib.hid hln; clear hln
      have hlen : s.data.toList.length = s.size := by simp
      by_cases hp : o.isPrefixOf s.data.toList = true
      · have hpre := List.isPrefixOf_iff_prefix.1 hp
        have hle : (toBA o).size ≤ s.size := by rw [Hln.out, ← hlen]; exact hpre.length_le
        have u1 : decide (((toBA o).size : Int) ≤ (s.size : Int)) = true := decide_eq_true (by omega)
        have hsl := head_facts s (toBA o).size hle
        have f1 : ((toBA (s.data.toList.take (toBA o).size)).toList == (toBA o).toList) = true := by
          rw [m_toList, m_toList, Hln.out, ← List.prefix_iff_eq_take.1 hpre]; simp
        have hyes : tokL s.data.toList = some (kOp, o, o.length) := by
          have hf : opsL.find? (fun o => o.isPrefixOf s.data.toList) = some o := by
            rw [List.find?_eq_some_iff_getElem]
            refine ⟨hp, j, hjo, Ho.out.symm, fun m hm => ?_⟩
            have := Hno.out m (by omega) hm
            rw [this]; rfl
          rw [Htk.out, hf]
        have Hyes := Lib.hid hyes
        clear hyes hpre hp hlen
        go_upto_region 26 with fail
        go_quiet (fail)
        have hbq : Below W.heap.size W (wr.drewN nq) := m_drewN hbr nq
        have hc2 : (wr.drewN nq).cell? ⟨w.heap.size + 1, j, none⟩ = some (.string (toBA o)) := hc1
        generalize wr.drewN nq = W5 at hbq hc2 ⊢
        have hbA : Below (w.heap.size + 1) (w.alloc (.cells #[.string ⟨#[]⟩, .string ⟨#[]⟩, .int .i64 0] 115)) W5 := hbO.trans (hbq.mono (by omega))
        obtain ⟨hz, hb2⟩ := zero_facts hbA
        have e0 := cell_of_blk (o := 0) hz
        have e1 := cell_of_blk (o := 1) hz
        have e2 := cell_of_blk (o := 2) hz
        have f0 := frozen_of_blk (o := 0) hz
        have f1 := frozen_of_blk (o := 1) hz
        have f2 := frozen_of_blk (o := 2) hz
        clear hz
        clear hbA
        go_wp2_with fail
        refine bodyPost_ret (v := .tuple #[.agg #[.string ⟨#[111, 112]⟩, .string (toBA o), .int .i64 0], .int .i64 (toBA o).size]) ?_ rfl ⟨⟨_, rfl, ⟨#[111, 112]⟩, (toBA o), (toBA o).size, rfl, (by rw [Hyes.out]; exact ⟨rfl, rfl, Hln.out⟩)⟩, ((hb2.setCell (p := ⟨w.heap.size, 0, none⟩) (Nat.le_refl _) _).setCell (p := ⟨w.heap.size, 1, none⟩) (Nat.le_refl _) _).setCell (p := ⟨w.heap.size, 2, none⟩) (Nat.le_refl _) _⟩
        simp [results, Tryz.results48, go_sem, e0, e1, e2]
      · have hpf : o.isPrefixOf s.data.toList = false := by
          rcases h : o.isPrefixOf s.data.toList with _ | _
          · rfl
          · exact absurd h hp
        have hno2 : ∀ m (hm : m < opsL.length), m < j + 1 → opsL[m].isPrefixOf s.data.toList = false := by
          intro m hm hmj
          rcases Nat.lt_or_ge m j with h' | h'
          · exact Hno.out m hm h'
          · have : m = j := by omega
            subst this
            rw [← Ho.out]; exact hpf
        have Hno2 := Lib.hid hno2; clear hno2
        by_cases hle : (toBA o).size ≤ s.size
        · have u1 : decide (((toBA o).size : Int) ≤ (s.size : Int)) = true := by simp; omega
          have hsl := head_facts s (toBA o).size hle
          have f1 : ((toBA (s.data.toList.take (toBA o).size)).toList == (toBA o).toList) = false := by
            rw [m_toList, m_toList, Hln.out]
            rw [beq_eq_false_iff_ne]
            intro e
            exact hp (List.isPrefixOf_iff_prefix.2 (List.prefix_iff_eq_take.2 e.symm))
          clear hp hpf hlen
          go_upto_region 26 with fail
          go_quiet (fail)
          go_wp2_with fail
          go_roundw
          case rel => exact ⟨j + 1, by omega, by go_num, m_drewN hbr _, Hno2.out⟩
          case measure => simp [intOf]; omega
        · have u1 : decide (((toBA o).size : Int) ≤ (s.size : Int)) = false := by simp; omega
          clear hp hpf hlen
          go_upto_region 26 with fail
          go_quiet (fail)
          go_wp2_with fail
          go_roundw
          case rel => exact ⟨j + 1, by omega, by go_num, m_drewN hbr _, Hno2.out⟩
          case measure => simp [intOf]; omega
    · have t1 : decide ((j : Int) < 21) = false := by simp; omega
      have hnone : tokL s.data.toList = none := by
        have hf : opsL.find? (fun o => o.isPrefixOf s.data.toList) = none := by
          rw [List.find?_eq_none]
          intro x hx
          obtain ⟨m, hm, rfl⟩ := List.getElem_of_mem hx
          have := Hno.out m hm (by omega)
          simp [this]
        rw [Htk.out, hf]
      have Hnone := Lib.hid hnone; clear hnone
      have hbA : Below (w.heap.size + 1) (w.alloc (.cells #[.string ⟨#[]⟩, .string ⟨#[]⟩, .int .i64 0] 115)) wr := hbO.trans (hbr.mono (by omega))
      obtain ⟨hz, hb2⟩ := zero_facts hbA
      have e0 := cell_of_blk (o := 0) hz
      have e1 := cell_of_blk (o := 1) hz
      have e2 := cell_of_blk (o := 2) hz
      have f0 := frozen_of_blk (o := 0) hz
      have f1 := frozen_of_blk (o := 1) hz
      have f2 := frozen_of_blk (o := 2) hz
      clear hz
      clear hbA
      go_wp2_with fail
      refine bodyPost_ret (v := .tuple #[.agg #[.string ⟨#[]⟩, .string ⟨#[]⟩, .int .i64 0], .int .i64 (0 : Nat)]) ?_ rfl ⟨⟨_, rfl, ⟨#[]⟩, ⟨#[]⟩, (0 : Nat), rfl, (by rw [Hnone.out])⟩, ((hb2.setCell (p := ⟨w.heap.size, 0, none⟩) (Nat.le_refl _) _).setCell (p := ⟨w.heap.size, 1, none⟩) (Nat.le_refl _) _).setCell (p := ⟨w.heap.size, 2, none⟩) (Nat.le_refl _) _⟩
      simp [results, Tryz.results48, go_sem, e0, e1, e2]

/-- The document's tokenOf, of any text that has a byte. -/
theorem rToken_any {w : World} (s : ByteArray) (hs : s.size ≤ 6000) (h0 : 1 ≤ s.size) :
    Calls Tryz.prog 48 #[.string s] w fun e w' => (∃ v, e = .returned v ∧ TokAns s.data.toList v) ∧ Below w.heap.size w w' := by
  rcases hlo : lowB (s[0]'h0) with _ | _
  · rcases hup : upB (s[0]'h0) with _ | _
    · rcases hdi : digitB (s[0]'h0) with _ | _
      · by_cases hq : (s[0]'h0).toNat = 34
        · exact rTokenStr s hs h0 hlo hup hdi hq
        · exact rTokenOp s hs h0 hlo hup hdi hq
      · exact rTokenInt s hs h0 hlo hup hdi
    · exact rTokenWord s hs h0 (.inr hup)
  · exact rTokenWord s hs h0 (.inl hlo)
end Go.Proofs.YtdoaeapahgmfoaaGreatDoor
