/- The walk of LexReads: true, of whatever text. -/
import Derived.Test.YtdoaeapahgmfoaaGreatDoorS9
import Derived.Test.YtdoaeapahgmfoaaGreatDoorE2
import Derived.Deep.CutBlock
namespace Go.Proofs.YtdoaeapahgmfoaaGreatDoor
open Go.RowKit

set_option maxRecDepth 100000 in
set_option maxHeartbeats 20000000 in
theorem rLexOf_long {w : World} (s : ByteArray) (hs : 6000 < s.size) (hm : s.size ≤ 9223372036854775807) :
    Calls Tryz.prog 19 #[.string s] w fun e w' => e = .returned (.tuple #[.slice none 0 0, .agg #[.int .i64 2, .int .i64 (-1)]]) ∧ Below w.heap.size w w' := by
  have hd : decide (6000 < (s.size : Int)) = true := by simp; omega
  have hbz : Below w.heap.size w (w.alloc (.cells #[.int .i64 0, .int .i64 0] 47)) := (Below.refl _ _).alloc (Nat.le_refl _) _
  have hkz := heap_alloc_new w (.cells #[.int .i64 0, .int .i64 0] 47)
  have hsz : (w.alloc (.cells #[.int .i64 0, .int .i64 0] 47)).heap.size = w.heap.size + 1 := by simp
  go_enter Tryz.func19, Tryz.ntmps19
  go_wp2_with fail
  generalize w.alloc (.cells #[.int .i64 0, .int .i64 0] 47) = W1 at hbz hkz hsz ⊢
  refine (rBare_any 2 W1).mono ?_
  rintro _ w7 ⟨rfl, hb7⟩
  have Hsz := Lib.hid hsz
  have hz := fault_at hkz hsz hb7
  have hb2 := hbz.trans (hb7.mono (by omega))
  have e0 := cell_of_blk (o := 0) hz
  have e1 := cell_of_blk (o := 1) hz
  have f0 := frozen_of_blk (o := 0) hz
  have f1 := frozen_of_blk (o := 1) hz
  clear hz hkz hb7 hsz hbz
  go_wp2_with fail
  refine bodyPost_ret (v := .tuple #[.slice none 0 0, .agg #[.int .i64 2, .int .i64 (-1)]]) ?_ rfl ⟨rfl, (hb2.setCell (p := ⟨w.heap.size, 0, none⟩) (Nat.le_refl _) _).setCell (p := ⟨w.heap.size, 1, none⟩) (Nat.le_refl _) _⟩
  simp [results, Tryz.results19, go_sem, e0, e1]

/-- A token slice of the document's, as cells. -/
theorem rtoks_row {w : World} {B : Nat} {v : Value} {ts : List Tok} (h : w.ownsRow B 115 3 v ts.length (tokCells ts)) (hn : 0 < ts.length) :
    ∃ g cap, v = .slice (some ⟨g, 0, none⟩) ts.length cap ∧ B ≤ g ∧ g < w.heap.size ∧ ∀ j (hj : j < ts.length), w.cell? ⟨g, j * 3, none⟩ = some (.string (toBA ts[j].kind)) ∧ w.cell? ⟨g, j * 3 + 1, none⟩ = some (.string (toBA ts[j].text)) ∧ w.cell? ⟨g, j * 3 + 2, none⟩ = some (.int .i64 (ts[j].at_ : Int)) := by
  rcases h.2 with ⟨_, h0⟩ | ⟨g, cap, cur, hv, hB, hg, hn', hc, hsz, htake⟩
  · omega
  refine ⟨g, cap, hv, hB, lt_of_blk hg, fun j hj => ?_⟩
  have hk : ∀ k, k < ts.length * 3 → w.cell? ⟨g, k, none⟩ = (tokCells ts)[k]? := by
    intro k hk
    rw [cell_of_blk hg]
    have h1 : (cur.toList.take (ts.length * 3))[k]? = (tokCells ts)[k]? := by rw [htake]
    rw [List.getElem?_take_of_lt hk] at h1
    rw [← h1, Array.getElem?_toList]
  obtain ⟨h1, h2, h3⟩ := tokCells_at ts j hj
  exact ⟨(hk _ (by omega)).trans h1, (hk _ (by omega)).trans h2, (hk _ (by omega)).trans h3⟩

set_option maxRecDepth 100000 in
set_option maxHeartbeats 20000000 in
theorem sameTokens_any {w : World} (ts : List Tok) (g1 c1 g2 c2 : Nat) (hlen : ts.length ≤ 30000)
    (h1 : ∀ j (hj : j < ts.length), w.cell? ⟨g1, j * 3, none⟩ = some (.string (toBA ts[j].kind)) ∧ w.cell? ⟨g1, j * 3 + 1, none⟩ = some (.string (toBA ts[j].text)) ∧ w.cell? ⟨g1, j * 3 + 2, none⟩ = some (.int .i64 (ts[j].at_ : Int)))
    (h2 : ∀ j (hj : j < ts.length), w.cell? ⟨g2, j * 3, none⟩ = some (.string (toBA ts[j].kind)) ∧ w.cell? ⟨g2, j * 3 + 1, none⟩ = some (.string (toBA ts[j].text)) ∧ w.cell? ⟨g2, j * 3 + 2, none⟩ = some (.int .i64 (ts[j].at_ : Int))) :
    Calls Tryz.prog 21 #[.slice (some ⟨g1, 0, none⟩) ts.length c1, .slice (some ⟨g2, 0, none⟩) ts.length c2, .bool true] w fun e w' => e = .returned (.bool true) ∧ Below w.heap.size w w' := by
  have H1 := Lib.hid h1; have H2 := Lib.hid h2
  clear h1 h2
  go_enter Tryz.func21, Tryz.ntmps21
  go_wp2_with fail
  go_loopw [7] (fun i wr => ∃ (j n : Nat), j ≤ ts.length ∧ i = .int .i64 j ∧ wr = w.drewN n) (fun i _ => ts.length - (intOf i).toNat)
  case atStart => exact ⟨0, 0, by omega, rfl, rfl⟩
  case round =>
    obtain ⟨j, n, hj, rfl, rfl⟩ := hrel
    by_cases hjl : j < ts.length
    · have t1 : decide ((j : Int) < (ts.length : Int)) = true := by simp; omega
      obtain ⟨q0, q1, q2⟩ := H1.out j hjl
      obtain ⟨r0, r1, r2⟩ := H2.out j hjl
      generalize toBA ts[j].kind = kd at q0 r0
      generalize toBA ts[j].text = tx at q1 r1
      generalize (ts[j].at_ : Int) = pl at q2 r2
      go_upto_region 6 with fail
      go_quiet (fail)
      go_wp2_with fail
      go_roundw
      case rel => exact ⟨j + 1, _, by omega, by go_num, rfl⟩
      case measure => simp [intOf]; omega
    · have t1 : decide ((j : Int) < (ts.length : Int)) = false := by simp; omega
      go_wp2_with fail
      refine bodyPost_ret (results_tmp rfl _ _ _) rfl ?_
      exact ⟨rfl, m_drewN (Below.refl _ _) _⟩

set_option maxRecDepth 100000 in
set_option maxHeartbeats 20000000 in
theorem faulted_text {p : Nat → Addr} {w : World} (h : Errs p w) (N k : Nat) (hN0 : w.cell? ⟨N, 0, none⟩ = some (.int .i64 (k : Int))) (hN1 : w.cell? ⟨N, 1, none⟩ = some (.iface 281 (.pointer (some (p 0))))) :
    Calls Tryz.prog 20 #[.iface 107 (.pointer (some ⟨N, 0, none⟩)), .agg #[.int .i64 1, .int .i64 (k : Int)]] w fun e w' => e = .returned (.bool true) ∧ Below w.heap.size w w' := by
  have hNl : N < w.heap.size := World.block_lt_of_cell? w _ hN0
  have hbA : Below w.heap.size w (w.alloc (.cells #[.int .i64 1, .int .i64 (k : Int)] 47)) := (Below.refl _ _).alloc (Nat.le_refl _) _
  have hk := heap_alloc_new w (.cells #[.int .i64 1, .int .i64 (k : Int)] 47)
  go_enter Tryz.func20, Tryz.ntmps20
  go_wp2_with fail
  generalize w.alloc (.cells #[.int .i64 1, .int .i64 (k : Int)] 47) = W at hbA hk ⊢
  have hE := h.below hbA
  have c0 := (hbA.cell (p := ⟨N, 0, none⟩) hNl).trans hN0
  have c1 := (hbA.cell (p := ⟨N, 1, none⟩) hNl).trans hN1
  refine (code_fault hE N (k : Int) 0 (by omega) c0 c1).mono ?_
  rintro _ w2 ⟨rfl, hb2⟩
  have hbl : Below w.heap.size w w2 := below_grow hbA hbA.size hb2
  have hk2 := (hb2.block _ (lt_of_blk hk)).trans hk
  have e0 := cell_of_blk (o := 0) hk2
  have e1 := cell_of_blk (o := 1) hk2
  clear hE c0 c1 hk2 hk hb2 hbA hN0 hN1
  go_wp2_with fail
  refine bodyPost_ret (results_tmp rfl _ _ _) rfl ?_
  exact ⟨rfl, hbl⟩
set_option maxRecDepth 100000 in
set_option maxHeartbeats 20000000 in
theorem faulted_bound {p : Nat → Addr} {w : World} (h : Errs p w) :
    Calls Tryz.prog 20 #[.iface 281 (.pointer (some (p 1))), .agg #[.int .i64 2, .int .i64 (-1)]] w fun e w' => e = .returned (.bool true) ∧ Below w.heap.size w w' := by
  have hbA : Below w.heap.size w (w.alloc (.cells #[.int .i64 2, .int .i64 (-1)] 47)) := (Below.refl _ _).alloc (Nat.le_refl _) _
  have hk := heap_alloc_new w (.cells #[.int .i64 2, .int .i64 (-1)] 47)
  go_enter Tryz.func20, Tryz.ntmps20
  go_wp2_with fail
  generalize w.alloc (.cells #[.int .i64 2, .int .i64 (-1)] 47) = W at hbA hk ⊢
  have hE := h.below hbA
  refine (code_bare hE (p 1) 1 (by omega) (fun k h1 h2 e => by have := hE.inj 1 k (by omega) h2 e; omega) (fun _ => rfl) (hE.blk 1 (by omega)) 2 rfl).mono ?_
  rintro _ w2 ⟨rfl, hb2⟩
  have hbl : Below w.heap.size w w2 := below_grow hbA hbA.size hb2
  have hk2 := (hb2.block _ (lt_of_blk hk)).trans hk
  have e0 := cell_of_blk (o := 0) hk2
  have e1 := cell_of_blk (o := 1) hk2
  clear hE hk2 hk hb2 hbA
  go_wp2_with fail
  refine bodyPost_ret (results_tmp rfl _ _ _) rfl ?_
  exact ⟨rfl, hbl⟩


set_option maxRecDepth 100000 in
set_option maxHeartbeats 20000000 in
theorem lexReads_any {p : Nat → Addr} {w : World} (s : ByteArray) (hm : s.size ≤ 9223372036854775807) (hg : GlobE w.heap.size w) (hE : Errs p w) :
    Calls Tryz.prog 4 #[.string s] w fun e w' => e = .returned (.bool true) ∧ Below w.heap.size w w' := by
  go_enter Tryz.func4, Tryz.ntmps4
  go_wp2_with fail
  refine (one_any hg).mono ?_
  rintro e w1 ⟨rfl, hb1⟩
  have hg1 : GlobE w1.heap.size w1 := (hg.below hb1).mono hb1.size
  have hE1 := hE.below hb1
  by_cases hs : 3000 < s.size ∧ s.size ≤ 6000
  · have hd : decide (3000 < (s.size : Int)) = true := by simp; omega
    have hd2 : decide ((s.size : Int) ≤ 6000) = true := by simp; omega
    clear hs
    go_wp2_with fail
    refine bodyPost_ret (results_tmp rfl _ _ _) rfl ?_
    exact ⟨rfl, hb1⟩
  · by_cases hs2 : s.size ≤ 3000
    · have hd : decide (3000 < (s.size : Int)) = false := by simp; omega
      clear hs
      go_wp2_with fail
      refine (lex_any s (by omega) hg1).mono ?_
      rintro e w2 ⟨hb2, h2⟩
      have hb12 : Below w.heap.size w w2 := below_grow hb1 hb1.size hb2
      have hE2 := hE1.below hb2
      rcases hl : lexL s.data.toList with k | ts
      · rw [hl] at h2
        obtain ⟨N, te, pe, rfl, hN, hte, hNb⟩ := h2
        have ht2 := hE1.cell 0 (by omega)
        have ht3 : some (Value.iface te pe) = some (.iface 281 (.pointer (some (p 0)))) := hte.symm.trans ht2
        injection ht3 with ht3
        injection ht3 with h3 h4
        subst h3; subst h4
        have Hl := Lib.hid hl; have HN := Lib.hid hNb
        clear hl hNb hte ht2
        go_wp2_with fail
        refine (rLexOf_any s (by omega)).mono ?_
        rintro e w3 ⟨hb3, h3⟩
        rw [Hl.out] at h3
        subst h3
        have hE3 := hE2.below hb3
        have hb13 : Below w.heap.size w w3 := below_grow hb12 hb12.size hb3
        have hNb3 := (hb3.block _ (lt_of_blk HN.out)).trans HN.out
        clear HN
        have hbA : Below w3.heap.size w3 (w3.alloc (.cells #[.int .i64 1, .int .i64 (k : Int)] 47)) := (Below.refl _ _).alloc (Nat.le_refl _) _
        have hb14 := below_grow hb13 hb13.size hbA
        have hE4 := hE3.below hbA
        have hNb4 := (hbA.block _ (lt_of_blk hNb3)).trans hNb3
        have n0 := cell_of_blk (o := 0) hNb4
        have n1 := cell_of_blk (o := 1) hNb4
        have HNb := Lib.hid hNb4
        clear hNb3 hNb4
        go_wp2_with fail
        refine (faulted_text hE4 N k n0 n1).mono ?_
        rintro e w5 ⟨rfl, hb5⟩
        have hb15 := below_grow hb14 hb14.size hb5
        go_wp2_with fail
        refine bodyPost_ret (results_tmp rfl _ _ _) rfl ?_
        exact ⟨rfl, hb15⟩
      · rw [hl] at h2
        obtain ⟨vo, rfl, hown⟩ := h2
        have hpos := lexL_pos hl
        have hlen := lexL_len hl
        have hlen2 : ts.length ≤ 30000 := by simp at hlen; omega
        obtain ⟨g1, c1, rfl, _, hg1s, hc1⟩ := toks_row hown hpos
        have Hl := Lib.hid hl; have Hc1 := Lib.hid hc1
        clear hl hc1 hown hlen
        go_wp2_with fail
        refine (rLexOf_any s (by omega)).mono ?_
        rintro e w3 ⟨hb3, h3⟩
        rw [Hl.out] at h3
        obtain ⟨vr, rfl, hrow⟩ := h3
        obtain ⟨g2, c2, rfl, _, hg2s, hc2⟩ := rtoks_row hrow hpos
        have hb13 : Below w.heap.size w w3 := below_grow hb12 hb12.size hb3
        have hbA : Below w3.heap.size w3 (w3.alloc (.cells #[.int .i64 0, .int .i64 (-1)] 47)) := (Below.refl _ _).alloc (Nat.le_refl _) _
        have hb14 := below_grow hb13 hb13.size hbA
        have hg1s3 : g1 < w3.heap.size := by have := hb3.size; omega
        have hsm := sameTokens_any (w := w3.alloc (.cells #[.int .i64 0, .int .i64 (-1)] 47)) ts g1 c1 g2 c2 hlen2
          (fun j hj => by
            obtain ⟨a, b, c⟩ := Hc1.out j hj
            exact ⟨(hbA.cell (p := ⟨g1, _, none⟩) hg1s3).trans ((hb3.cell (p := ⟨g1, _, none⟩) hg1s).trans a), (hbA.cell (p := ⟨g1, _, none⟩) hg1s3).trans ((hb3.cell (p := ⟨g1, _, none⟩) hg1s).trans b), (hbA.cell (p := ⟨g1, _, none⟩) hg1s3).trans ((hb3.cell (p := ⟨g1, _, none⟩) hg1s).trans c)⟩)
          (fun j hj => by
            obtain ⟨a, b, c⟩ := hc2 j hj
            exact ⟨(hbA.cell (p := ⟨g2, _, none⟩) hg2s).trans a, (hbA.cell (p := ⟨g2, _, none⟩) hg2s).trans b, (hbA.cell (p := ⟨g2, _, none⟩) hg2s).trans c⟩)
        have Hsm := Lib.hid hsm
        clear hc2 hrow hsm hE1 hE2
        go_wp2_with fail
        refine Hsm.out.mono ?_
        rintro e w5 ⟨rfl, hb5⟩
        have hb15 := below_grow hb14 hb14.size hb5
        go_wp2_with fail
        refine bodyPost_ret (results_tmp rfl _ _ _) rfl ?_
        exact ⟨rfl, hb15⟩
    · have hd : decide (3000 < (s.size : Int)) = true := by simp; omega
      have hd2 : decide ((s.size : Int) ≤ 6000) = false := by simp; omega
      have hs6 : 6000 < s.size := by omega
      have hbd : w1.cell? ⟨1, 0, none⟩ = some (.iface 281 (.pointer (some (p 1)))) := hE1.cell 1 (by omega)
      clear hs hs2
      go_wp2_with fail
      refine (lex_long s hs6 hm _ _ hbd).mono ?_
      rintro e w2 hpost
      obtain ⟨rfl, hb2⟩ := hpost
      have hb12 : Below w.heap.size w w2 := below_grow hb1 hb1.size hb2
      have hE2 := hE1.below hb2
      clear hbd
      go_wp2_with fail
      refine (rLexOf_long s hs6 hm).mono ?_
      rintro e w3 ⟨rfl, hb3⟩
      have hE3 := hE2.below hb3
      have hb13 : Below w.heap.size w w3 := below_grow hb12 hb12.size hb3
      have hbA : Below w3.heap.size w3 (w3.alloc (.cells #[.int .i64 2, .int .i64 (-1)] 47)) := (Below.refl _ _).alloc (Nat.le_refl _) _
      have hb14 := below_grow hb13 hb13.size hbA
      have hE4 := hE3.below hbA
      go_wp2_with fail
      refine (faulted_bound hE4).mono ?_
      rintro e w5 ⟨rfl, hb5⟩
      have hb15 := below_grow hb14 hb14.size hb5
      go_wp2_with fail
      refine bodyPost_ret (results_tmp rfl _ _ _) rfl ?_
      exact ⟨rfl, hb15⟩

end Go.Proofs.YtdoaeapahgmfoaaGreatDoor
