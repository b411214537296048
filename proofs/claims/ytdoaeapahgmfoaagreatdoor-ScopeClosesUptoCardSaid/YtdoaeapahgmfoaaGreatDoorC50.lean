/- nurserypylaw1.ScopeCloses: the walk. -/
import Derived.Laws.Cover1
import Derived.Test.YtdoaeapahgmfoaaGreatDoorC48
import Derived.Test.YtdoaeapahgmfoaaGreatDoorC49
namespace Go.Proofs.YtdoaeapahgmfoaaGreatDoor
open Go.RowKit
theorem sc_lens (l : List Stm) (hbk : stmsBulk l ≤ 1100000) (i : Nat) : (scF (firstF l).fr (usesF (firstF l).fr) i).locals.length ≤ 20000000 ∧ (scF (firstF l).fr (usesF (firstF l).fr) i).cells.length ≤ 20000000 ∧ (scF (firstF l).fr (usesF (firstF l).fr) i).frees.length ≤ 20000000 := by
  have hb : (((firstF l).fr.getD i dfr).bound).length ≤ 1 + 8 * stmsBulk l := (sm_first l).row i 0
  have hr := (UF_RI (firstF l).fr (firstF l).fr.length (Nat.le_refl _)).f.len i
  have ha := allNames_first l
  rw [scF_eq]
  refine ⟨Nat.le_trans (locQ_len _ _ _) (by omega), Nat.le_trans (celQ_len _ _ _) (by omega), ?_⟩
  show (((usesF (firstF l).fr).frees.getD i []).mergeSort leL).length ≤ _
  rw [List.length_mergeSort]
  have hr2 : ((usesF (firstF l).fr).frees.getD i []).length ≤ (allNames (firstF l).fr).length := hr
  omega
/-- Scopes, in blocks below a number. -/
theorem ScsAt.lo {w : World} {G : Nat → Prop} {A : Nat} {v : Value} {l : List Sc} (h : ScsAt w G v l) (hG : ∀ b, G b → b < A) : ScsAt w (Lo A) v l := h.mono (fun _ _ _ => rfl) hG
theorem m_ne2 {a b : List UInt8} (h : ¬ a = b) : ((toBA a).toList == (toBA b).toList) = false := by rw [m_toList, m_toList]; simp [h]
theorem has_quiet {w : World} {zs : List (List UInt8)} {v : Value} {s : List UInt8} {G : Nat → Prop} (hz : StrsAt w G v zs) (hl : zs.length ≤ 40000000) {b : Bool} (hb : zs.contains s = b) (n : Nat) :
    Calls Tryz.prog 29 #[v, .string (toBA s)] (w.drewN n) fun e w' => e = .returned (.bool b) ∧ ∃ m, w' = w.drewN m := by
  refine (rHasBig zs v s G (StrsAt.mono (w := w) (w' := w.drewN n) (fun _ _ _ => rfl) (fun _ h => h) hz) hl).mono ?_
  rintro e w' ⟨rfl, rfl⟩
  exact ⟨by rw [hb], n, rfl⟩
set_option maxRecDepth 100000 in
set_option maxHeartbeats 40000000 in
theorem closes_any {w : World} {l : List Stm} {v : Value} (hg : GlobT w.heap.size w) (hen : ∃ te pe, w.cell? ⟨3, 0, none⟩ = some (.iface te pe)) (hl : StmsAt w (Lo w.heap.size) v l) (hft : stmsFit l) (hbk : stmsBulk l ≤ 1100000) :
    Calls Tryz.prog 7 #[v] w fun e w' => e = .returned (.bool true) ∧ Below w.heap.size w w' := by
  have Hbare := Lib.hid (lawBare_any hen)
  have Hg := Lib.hid hg; have Hl := Lib.hid hl; have Hft := Lib.hid hft; have Hen := Lib.hid hen
  obtain ⟨av, cv, rfl, _⟩ := hl
  clear hg hft hen
  go_enter Tryz.func7, Tryz.ntmps7
  go_wp2_with fail
  refine Hbare.out.mono ?_
  rintro _ w1 ⟨rfl, hb1⟩
  have hl1 : StmsAt w1 (Lo w1.heap.size) (.slice av l.length cv) l := (Hl.out.below hb1).mono (fun _ _ _ => rfl) fun b h => Nat.lt_of_lt_of_le h hb1.size
  have Hwt := Lib.hid (weight_any (stmsNodes l) l w1 _ (Nat.le_refl _) hbk hl1)
  have Hb1 := Lib.hid hb1
  clear hb1 hl1 Hbare
  by_cases hw : stmsW l ≤ 1500
  · have t1 : decide ((1500 : Int) < (stmsW l : Int)) = false := by rw [decide_eq_false_iff_not]; omega
    have t2 : decide (1500 < stmsW l) = false := by rw [decide_eq_false_iff_not]; omega
    go_wp2_with fail
    refine Hwt.out.mono ?_
    rintro _ w2 ⟨rfl, hb2⟩
    have hb12 := Hb1.out.trans (hb2.mono Hb1.out.size)
    have hl2 : StmsAt w2 (Lo w2.heap.size) (.slice av l.length cv) l := (Hl.out.below hb12).mono (fun _ _ _ => rfl) fun b h => Nat.lt_of_lt_of_le h hb12.size
    have Hso := Lib.hid (stmtsOf_any (stmsNodes l) l w2 _ (Nat.le_refl _) hbk hl2)
    have Hb12 := Lib.hid hb12
    clear hb2 hb12 hl2 Hwt
    go_wp2_with fail
    refine Hso.out.mono ?_
    rintro _ w3 ⟨hb3, v3, rfl, hs3⟩
    have hb13 := Hb12.out.trans (hb3.mono Hb12.out.size)
    have hs3' : StmsAt w3 (Lo w3.heap.size) v3 l := hs3.mono (fun _ _ _ => rfl) fun b h => h.2
    have hg3 : GlobT w3.heap.size w3 := (Hg.out.below hb13).mono hb13.size
    have hen3 : ∃ te pe, w3.cell? ⟨3, 0, none⟩ = some (.iface te pe) := by
      obtain ⟨te, pe, h⟩ := Hen.out
      exact ⟨te, pe, (hb13.cell (p := ⟨3, 0, none⟩) (World.block_lt_of_cell? w _ h)).trans h⟩
    have Hsc := Lib.hid (scopes_any (ttext_true hg3 hs3' Hft.out hbk (by omega)) hen3 hs3' hbk)
    have Hb13 := Lib.hid hb13
    obtain ⟨a3, c3, rfl, _⟩ := hs3
    clear hb3 hb13 hs3' hg3 hen3 Hso
    go_wp2_with fail
    refine Hsc.out.mono ?_
    rintro _ w4 ⟨hb4, hc⟩
    have Hb4 := Lib.hid (Hb13.out.trans (hb4.mono Hb13.out.size))
    rcases hc with ⟨te, pe, rfl, _⟩ | ⟨v4, rfl, _, hbad, hsc⟩
    · clear hb4
      go_wp2_with fail
      refine bodyPost_ret (results_tmp rfl _ _ _) rfl ?_
      exact ⟨rfl, Hb4.out⟩
    · obtain ⟨harn, hdis⟩ := secondF_ok l hbad
      have hlens := sc_lens l hbk
      have hclo := closes_of harn hdis
      have hsc := hsc.lo (A := w4.heap.size) fun b h => h.2
      obtain ⟨ab, cb, rfl, hr⟩ := hsc
      have hpos := harn.pos
      obtain ⟨b, o, rfl, hbG, hz⟩ := hr (by rw [scsF_len]; exact hpos)
      rw [scsF_len]
      obtain ⟨S, hS⟩ : ∃ S, S = scF (firstF l).fr (usesF (firstF l).fr) := ⟨_, rfl⟩
      have hz2 : ∀ j, j < (firstF l).fr.length → ScAt w4 (Lo w4.heap.size) (S j) b (o + j * 6) := fun j hj => by
        have h := hz j (by rw [scsF_len]; exact hj)
        rw [scsF_at] at h
        rw [hS]; exact h
      rw [← hS] at hlens hclo
      have hnb : (firstF l).fr.length ≤ 20000000 := by have := (sm_first l).fr; omega
      generalize (firstF l).fr = fr at *
      have HZ := Lib.hid hz2; have Hlens := Lib.hid hlens; have Hclo := Lib.hid hclo
      have hbl : b < w4.heap.size := hbG
      clear hb4 hr hz hz2 hlens hclo harn hdis hS hbG hbad Hsc Hg Hen Hl Hft Hb13 Hb12 Hb1
      go_wp2_with fail
      go_loopw [6, 8, 10] (fun t _ _ wr => ∃ (i : Nat), i ≤ fr.length ∧ t = .int .i64 i ∧ Below w4.heap.size w4 wr) (fun t _ _ _ => fr.length - (intOf t).toNat)
      case atStart => exact ⟨0, by omega, rfl, Below.refl _ _⟩
      case round =>
        obtain ⟨i, hi, rfl, hB⟩ := hrel
        by_cases hil : i < fr.length
        · have t1' : decide ((i : Int) < (fr.length : Int)) = true := by simp; omega
          obtain ⟨nm, vl, vc, vf, c0, c1, c2, c3, c4, c5, hL, hC, hF⟩ := HZ.out i hil
          have hle := Hlens.out i
          have hclo := Hclo.out i hil
          obtain ⟨s, hs⟩ : ∃ s, s = S i := ⟨_, rfl⟩
          have hcl : (i = 0 → s.locals = [] ∧ s.cells = [] ∧ s.frees = []) ∧ (0 < i → 0 ≤ s.around ∧ s.around < (i : Int)) ∧ (∀ m ∈ s.frees, (m ∈ (S s.around.toNat).cells ∨ m ∈ (S s.around.toNat).frees) ∧ m ∉ s.cells ∧ m ∉ s.locals) ∧ (∀ k (hk : k + 1 < s.frees.length), s.frees[k] < s.frees[k + 1]) ∧ (∀ m ∈ s.cells, m ∉ s.locals) := by
            subst hs
            exact ⟨hclo.zero, hclo.pos, hclo.free, hclo.up, hclo.cell⟩
          rw [← hs] at c1 c2 hL hC hF hle
          have HL := Lib.hid hL; have HC := Lib.hid hC; have HF := Lib.hid hF; have Hcl := Lib.hid hcl
          obtain ⟨aL, cL, rfl, -, -⟩ := hL
          obtain ⟨aC, cC, rfl, -, hrC⟩ := hC
          obtain ⟨aF, cF, rfl, -, hrF⟩ := hF
          have c0 := (hB.cell (p := ⟨b, _, none⟩) hbl).trans c0
          have c1 := (hB.cell (p := ⟨b, _, none⟩) hbl).trans c1
          have c2 := (hB.cell (p := ⟨b, _, none⟩) hbl).trans c2
          have c3 := (hB.cell (p := ⟨b, _, none⟩) hbl).trans c3
          have c4 := (hB.cell (p := ⟨b, _, none⟩) hbl).trans c4
          have c5 := (hB.cell (p := ⟨b, _, none⟩) hbl).trans c5
          obtain ⟨ar, har⟩ : ∃ ar, ar = s.around := ⟨_, rfl⟩
          rw [← har] at c1 hcl
          have hblk := heap_alloc_new wr (.cells #[.string nm, .int .i64 ar, .int .i64 (s.params : Int), .slice aL s.locals.length cL, .slice aC s.cells.length cC, .slice aF s.frees.length cF] 38)
          have hbA := (Below.refl wr.heap.size wr).alloc (Nat.le_refl _) (.cells #[.string nm, .int .i64 ar, .int .i64 (s.params : Int), .slice aL s.locals.length cL, .slice aC s.cells.length cC, .slice aF s.frees.length cF] 38)
          have hszw := hB.size
          obtain ⟨hle1, hle2, hle3⟩ := hle
          have HrC := Lib.hid hrC; have HrF := Lib.hid hrF; have HB4A := Lib.hid (hB.trans (hbA.mono hszw)); have Hblk := Lib.hid hblk; have Hcl2 := Lib.hid hcl; have Har := Lib.hid har
          have hbx := lt_of_blk hblk
          have i0n : (0 : Int) ≤ (i : Int) := Int.natCast_nonneg _
          clear hrC hrF hB hblk hbA hcl hclo hs har
          go_upto_region 11 with fail
          generalize (wr.alloc (.cells #[.string nm, .int .i64 ar, .int .i64 (s.params : Int), .slice aL s.locals.length cL, .slice aC s.cells.length cC, .slice aF s.frees.length cF] 38)) = wA at *
          generalize wr.heap.size = bx at *
          clear c0 c1 c2 c3 c4 c5
          have k1 : wA.cell? ⟨bx, 1, none⟩ = some (.int .i64 ar) := cell_of_blk (o := 1) Hblk.out
          have k3 : wA.cell? ⟨bx, 3, none⟩ = some (.slice aL s.locals.length cL) := cell_of_blk (o := 3) Hblk.out
          have k4 : wA.cell? ⟨bx, 4, none⟩ = some (.slice aC s.cells.length cC) := cell_of_blk (o := 4) Hblk.out
          have k5 : wA.cell? ⟨bx, 5, none⟩ = some (.slice aF s.frees.length cF) := cell_of_blk (o := 5) Hblk.out
          go_cut [71] (fun q W => q = .bool false ∧ W = wA)
          case first =>
            by_cases hi0 : i = 0
            · obtain ⟨z1, z2, z3⟩ := Hcl2.out.1 hi0
              replace k3 : wA.cell? ⟨bx, 3, none⟩ = some (.slice aL 0 cL) := by rw [z1] at k3; exact k3
              replace k4 : wA.cell? ⟨bx, 4, none⟩ = some (.slice aC 0 cC) := by rw [z2] at k4; exact k4
              replace k5 : wA.cell? ⟨bx, 5, none⟩ = some (.slice aF 0 cF) := by rw [z3] at k5; exact k5
              have t2' : ((i : Int) == 0) = true := by rw [hi0]; rfl
              have t3' : decide ((0 : Int) < (i : Int)) = false := by rw [hi0]; rfl
              have t4' : decide (0 < i) = false := by rw [hi0]; rfl
              clear z1 z2 z3 hi0
              go_wp2_with fail
              go_meet
              case rel => exact ⟨rfl, rfl⟩
            · obtain ⟨p1, p2⟩ := Hcl2.out.2.1 (by omega)
              have t2' : ((i : Int) == 0) = false := by rw [beq_eq_false_iff_ne]; omega
              have t3' : decide ((0 : Int) < (i : Int)) = true := by simp; omega
              have t4' : decide (ar < 0) = false := by rw [decide_eq_false_iff_not]; omega
              have t5' : decide ((i : Int) ≤ ar) = false := by rw [decide_eq_false_iff_not]; omega
              have t6' : decide (0 < i) = true := by simp; omega
              go_wp2_with fail
              go_meet
              case rel => exact ⟨rfl, rfl⟩
          case rest =>
            obtain ⟨rfl, hwc⟩ := hcut
            have hwc := hwc.symm
            subst hwc
            go_upto_block 2 with fail
            go_cut [] (fun W => Below wA.heap.size wA W)
            case first =>
              go_wp2_with fail
              skip
              go_loopw [8] (fun t wr => ∃ (k : Nat), k ≤ s.frees.length ∧ t = .int .i64 k ∧ Below wA.heap.size wA wr) (fun t _ => s.frees.length - (intOf t).toNat)
              case atStart => exact ⟨0, by omega, rfl, Below.refl _ _⟩
              case round =>
                obtain ⟨k, hk, rfl, hB⟩ := hrel
                have x1 := (hB.cell (p := ⟨bx, 1, none⟩) hbx).trans k1
                have x5 := (hB.cell (p := ⟨bx, 5, none⟩) hbx).trans k5
                by_cases hkl : k < s.frees.length
                · have t1' : decide ((k : Int) < (s.frees.length : Int)) = true := by simp; omega
                  have hmem : s.frees[k] ∈ s.frees := List.getElem_mem hkl
                  have hi1 : 0 < i := by
                    rcases Nat.eq_zero_or_pos i with e | e
                    · have e2 := (Hcl.out.1 e).2.2
                      have e3 : s.frees.length = 0 := by rw [e2]; rfl
                      omega
                    · exact e
                  obtain ⟨p1, p2⟩ := Hcl.out.2.1 hi1
                  obtain ⟨f1, f2, f3⟩ := Hcl.out.2.2.1 _ hmem
                  have hup := Hcl.out.2.2.2.1
                  obtain ⟨an, han⟩ : ∃ an : Nat, (an : Int) = s.around := ⟨s.around.toNat, by omega⟩
                  rw [← han, Int.toNat_natCast] at f1
                  have har := Har.out
                  rw [← han] at har
                  subst har
                  obtain ⟨nmu, ul, uc, uf, u0, u1, u2, u3, u4, u5, hUL, hUC, hUF⟩ := HZ.out an (by omega)
                  have hle := Hlens.out an
                  obtain ⟨su, hsu⟩ : ∃ su, su = S an := ⟨_, rfl⟩
                  rw [← hsu] at u1 u2 hUL hUC hUF hle f1
                  have HUL := Lib.hid hUL; have HUC := Lib.hid hUC; have HUF := Lib.hid hUF
                  obtain ⟨bL, dL, rfl, -, -⟩ := hUL
                  obtain ⟨bC, dC, rfl, -, -⟩ := hUC
                  obtain ⟨bF, dF, rfl, -, -⟩ := hUF
                  have hB42 := HB4A.out.trans (hB.mono HB4A.out.size)
                  have u0 := (hB42.cell (p := ⟨b, _, none⟩) hbl).trans u0
                  have u1 := (hB42.cell (p := ⟨b, _, none⟩) hbl).trans u1
                  have u2 := (hB42.cell (p := ⟨b, _, none⟩) hbl).trans u2
                  have u3 := (hB42.cell (p := ⟨b, _, none⟩) hbl).trans u3
                  have u4 := (hB42.cell (p := ⟨b, _, none⟩) hbl).trans u4
                  have u5 := (hB42.cell (p := ⟨b, _, none⟩) hbl).trans u5
                  obtain ⟨au, hau⟩ : ∃ au, au = su.around := ⟨_, rfl⟩
                  rw [← hau] at u1
                  obtain ⟨bz, oz, hav, hbz, hz⟩ := HrF.out (by omega)
                  subst hav
                  have hblk2 := heap_alloc_new wr (.cells #[.string nmu, .int .i64 au, .int .i64 (su.params : Int), .slice bL su.locals.length dL, .slice bC su.cells.length dC, .slice bF su.frees.length dF] 38)
                  have hbA2 := (Below.refl wr.heap.size wr).alloc (Nat.le_refl _) (.cells #[.string nmu, .int .i64 au, .int .i64 (su.params : Int), .slice bL su.locals.length dL, .slice bC su.cells.length dC, .slice bF su.frees.length dF] 38)
                  have hszr := hB.size
                  have hB4U := hB42.trans (hbA2.mono hB42.size)
                  have hBU := hB.trans (hbA2.mono hszr)
                  obtain ⟨m, hm⟩ : ∃ m, m = s.frees[k] := ⟨_, rfl⟩
                  have a0 : (0 : Int) ≤ (an : Int) := Int.natCast_nonneg _
                  have a1 : (an : Int) < (fr.length : Int) := by omega
                  have hz4 := hB4U.cell (p := ⟨bz, oz + k, none⟩) hbz
                  have hzk := hz k hkl
                  rw [← hm] at hzk f1 f2 f3
                  obtain ⟨hle1', hle2', hle3'⟩ := hle
                  have hprev : ∀ (h : 0 < k), (wr.alloc (.cells #[.string nmu, .int .i64 au, .int .i64 (su.params : Int), .slice bL su.locals.length dL, .slice bC su.cells.length dC, .slice bF su.frees.length dF] 38)).cell? ⟨bz, oz + (k - 1), none⟩ = some (.string (toBA (s.frees[k - 1]'(by omega)))) ∧ s.frees[k - 1]'(by omega) < m := fun h => by
                    refine ⟨(hB4U.cell (p := ⟨bz, oz + (k - 1), none⟩) hbz).trans (hz (k - 1) (by omega)), ?_⟩
                    have h2 := hup (k - 1) (by omega)
                    have e : s.frees[k - 1 + 1]'(by omega) = m := by rw [hm]; congr 1; omega
                    rw [e] at h2
                    exact h2
                  have HB4U := Lib.hid hB4U; have HBU := Lib.hid hBU; have Hblk2 := Lib.hid hblk2; have Hprev := Lib.hid hprev; have Hf1 := Lib.hid f1; have Hf2 := Lib.hid f2; have Hf3 := Lib.hid f3
                  have hbxU := lt_of_blk hblk2
                  have fk := hz4.trans hzk
                  have x5U := (hBU.cell (p := ⟨bx, 5, none⟩) hbx).trans k5
                  have x4U := (hBU.cell (p := ⟨bx, 4, none⟩) hbx).trans k4
                  have x3U := (hBU.cell (p := ⟨bx, 3, none⟩) hbx).trans k3
                  clear f1 f2 f3 hup hprev hB4U hBU hblk2 hB42 hB hz hz4 hzk hmem hm hsu han hau hbA2
                  go_upto_region 17 with fail
                  generalize (wr.alloc (.cells #[.string nmu, .int .i64 au, .int .i64 (su.params : Int), .slice bL su.locals.length dL, .slice bC su.cells.length dC, .slice bF su.frees.length dF] 38)) = wU at *
                  generalize wr.heap.size = bu at *
                  clear u0 u1 u2 u3 u4 u5 x1 x5
                  have u4 : wU.cell? ⟨bu, 4, none⟩ = some (.slice bC su.cells.length dC) := cell_of_blk (o := 4) Hblk2.out
                  have u5 : wU.cell? ⟨bu, 5, none⟩ = some (.slice bF su.frees.length dF) := cell_of_blk (o := 5) Hblk2.out
                  have k0n : (0 : Int) ≤ (k : Int) := Int.natCast_nonneg _
                  have k1n : (k : Int) < (s.frees.length : Int) := by omega
                  go_cut [103] (fun q W => q = .bool false ∧ Below wU.heap.size wU W)
                  case first =>
                    rcases hb1 : su.cells.contains m with _ | _
                    · have hb2 : su.frees.contains m = true := by
                        rcases Hf1.out with h | h
                        · rw [List.contains_iff_mem.2 h] at hb1; cases hb1
                        · exact List.contains_iff_mem.2 h
                      have H1 := Lib.hid (has_quiet (HUC.out.below HB4U.out) (by omega) hb1)
                      have H2 := Lib.hid (has_quiet (HUF.out.below HB4U.out) (by omega) hb2)
                      clear hb1 hb2
                      go_quiet ((first | (go_at_call 29; exact H1.out _) | (go_at_call 29; exact H2.out _)))
                      go_wp2_with fail
                      go_meet
                      case rel => exact ⟨rfl, m_drewN (Below.refl _ _) _⟩
                    · have H1 := Lib.hid (has_quiet (HUC.out.below HB4U.out) (by omega) hb1)
                      clear hb1
                      go_quiet ((go_at_call 29; exact H1.out _))
                      go_wp2_with fail
                      go_meet
                      case rel => exact ⟨rfl, m_drewN (Below.refl _ _) _⟩
                  case rest =>
                    obtain ⟨rfl, hBW⟩ := hcut
                    have y5 := (hBW.cell (p := ⟨bx, 5, none⟩) (by show bx < wU.heap.size; have := HBU.out.size; omega)).trans x5U
                    have y4 := (hBW.cell (p := ⟨bx, 4, none⟩) (by show bx < wU.heap.size; have := HBU.out.size; omega)).trans x4U
                    have y3 := (hBW.cell (p := ⟨bx, 3, none⟩) (by show bx < wU.heap.size; have := HBU.out.size; omega)).trans x3U
                    have hbzU : bz < wU.heap.size := by have := HB4U.out.size; have h2 : bz < w4.heap.size := hbz; omega
                    have fk2 := (hBW.cell (p := ⟨bz, oz + k, none⟩) hbzU).trans fk
                    have hn1 : s.cells.contains m = false := by
                      rcases h : s.cells.contains m with _ | _
                      · rfl
                      · exact absurd (List.contains_iff_mem.1 h) Hf2.out
                    have hn2 : s.locals.contains m = false := by
                      rcases h : s.locals.contains m with _ | _
                      · rfl
                      · exact absurd (List.contains_iff_mem.1 h) Hf3.out
                    have hB4W := HB4U.out.trans (hBW.mono HB4U.out.size)
                    have H1 := Lib.hid (has_quiet (HC.out.below hB4W) (by omega) hn1)
                    have H2 := Lib.hid (has_quiet (HL.out.below hB4W) (by omega) hn2)
                    have HBW := Lib.hid hBW
                    clear hBW hn1 hn2 hB4W u4 u5 x5U x4U x3U fk
                    go_upto_region 19 with fail
                    go_cut [139] (fun q W => q = .bool false ∧ Below wc.heap.size wc W)
                    case first =>
                      by_cases hk0 : k = 0
                      · have t2' : decide ((0 : Int) < (k : Int)) = false := by rw [hk0]; rfl
                        have t3' : decide (0 < k) = false := by rw [hk0]; rfl
                        clear hk0
                        go_quiet ((first | (go_at_call 29; exact H1.out _) | (go_at_call 29; exact H2.out _)))
                        go_wp2_with fail
                        go_meet
                        case rel => exact ⟨rfl, m_drewN (Below.refl _ _) _⟩
                      · obtain ⟨hpc, hpl⟩ := Hprev.out (by omega)
                        obtain ⟨pv, hpv⟩ : ∃ pv, pv = s.frees[k - 1]'(by omega) := ⟨_, rfl⟩
                        rw [← hpv] at hpc hpl
                        have hpc := (HBW.out.cell (p := ⟨bz, oz + (k - 1), none⟩) hbzU).trans hpc
                        have t2' : decide ((0 : Int) < (k : Int)) = true := by simp; omega
                        have t3' : decide (0 < k) = true := by simp; omega
                        have hl1 : Op.bytesLess (toBA m).toList (toBA pv).toList = false := by
                          rw [bytesLess_eq, m_toList, m_toList, decide_eq_false_iff_not]
                          exact fun h => List.lt_irrefl _ (List.lt_trans h hpl)
                        have hl2 : ((toBA m).toList == (toBA pv).toList) = false := m_ne2 fun e => by rw [e] at hpl; exact List.lt_irrefl _ hpl
                        have kk : (k : Int) - 1 = ((k - 1 : Nat) : Int) := by omega
                        have k2 : (0 : Int) ≤ (k : Int) - 1 := by omega
                        have k3 : (k : Int) - 1 < (s.frees.length : Int) := by omega
                        have kt : ((k : Int) - 1).toNat = k - 1 := by omega
                        clear hk0 hpl hpv
                        go_quiet ((first | (go_at_call 29; exact H1.out _) | (go_at_call 29; exact H2.out _)))
                        go_wp2_with fail
                        go_meet
                        case rel => exact ⟨rfl, m_drewN (Below.refl _ _) _⟩
                    case rest =>
                      obtain ⟨rfl, hB9⟩ := hcut
                      have HN := Lib.hid (HBU.out.trans ((HBW.out.trans (hB9.mono HBW.out.size)).mono HBU.out.size))
                      clear hB9 H1 H2 fk2 y3 y4 y5
                      go_wp2_with fail
                      go_roundw
                      case rel => exact ⟨k + 1, by omega, by go_num, HN.out⟩
                      case measure => simp [intOf]; omega
                · have t1' : decide ((k : Int) < (s.frees.length : Int)) = false := by simp; omega
                  have HB := Lib.hid hB
                  clear hB
                  go_wp2_with fail
                  go_meet
                  case rel => exact HB.out
            case rest =>
              have HBc := Lib.hid hcut
              clear hcut
              go_wp2_with fail
              go_loopw [10] (fun t wr => ∃ (k : Nat), k ≤ s.cells.length ∧ t = .int .i64 k ∧ Below wA.heap.size wA wr) (fun t _ => s.cells.length - (intOf t).toNat)
              case atStart => exact ⟨0, by omega, rfl, HBc.out⟩
              case round =>
                obtain ⟨k, hk, rfl, hB⟩ := hrel
                have x3 := (hB.cell (p := ⟨bx, 3, none⟩) hbx).trans k3
                have x4 := (hB.cell (p := ⟨bx, 4, none⟩) hbx).trans k4
                by_cases hkl : k < s.cells.length
                · have t1' : decide ((k : Int) < (s.cells.length : Int)) = true := by simp; omega
                  obtain ⟨bz, oz, hav, hbz, hz⟩ := HrC.out (by omega)
                  subst hav
                  have f1 := (hB.cell (p := ⟨bz, _, none⟩) (by have := hbz; have := HB4A.out.size; show bz < wA.heap.size; have h2 : bz < w4.heap.size := hbz; omega)).trans ((HB4A.out.cell (p := ⟨bz, _, none⟩) hbz).trans (hz k hkl))
                  have hmem : s.cells[k] ∈ s.cells := List.getElem_mem hkl
                  obtain ⟨m, hm⟩ : ∃ m, m = s.cells[k] := ⟨_, rfl⟩
                  rw [← hm] at f1 hmem
                  have hno : s.locals.contains m = false := by
                    rcases h : s.locals.contains m with _ | _
                    · rfl
                    · exact absurd (List.contains_iff_mem.1 h) (Hcl.out.2.2.2.2 m hmem)
                  have H1 := Lib.hid (has_quiet (HL.out.below (HB4A.out.trans (hB.mono HB4A.out.size))) (by omega) hno)
                  have HB := Lib.hid hB
                  clear hno hz hm hmem hB
                  go_upto_region 24 with fail
                  go_cut [154] (fun q W => q = .bool false ∧ Below wr.heap.size wr W)
                  case first =>
                    go_quiet ((go_at_call 29; exact H1.out _))
                    go_wp2_with fail
                    go_meet
                    case rel => exact ⟨rfl, m_drewN (Below.refl _ _) _⟩
                  case rest =>
                    obtain ⟨rfl, hB2⟩ := hcut
                    have HB2 := Lib.hid (HB.out.trans (hB2.mono HB.out.size))
                    clear hB2 H1
                    go_wp2_with fail
                    go_roundw
                    case rel => exact ⟨k + 1, by omega, by go_num, HB2.out⟩
                    case measure => simp [intOf]; omega
                · have t1' : decide ((k : Int) < (s.cells.length : Int)) = false := by simp; omega
                  have HB := Lib.hid hB
                  clear hB
                  go_wp2_with fail
                  go_roundw
                  case rel => exact ⟨i + 1, by omega, by go_num, HB4A.out.trans (HB.out.mono HB4A.out.size)⟩
                  case measure => simp [intOf]; omega
        · have t1' : decide ((i : Int) < (fr.length : Int)) = false := by simp; omega
          have HE := Lib.hid (Hb4.out.trans (hB.mono Hb4.out.size))
          clear hB
          go_wp2_with fail
          refine bodyPost_ret (results_tmp rfl _ _ _) rfl ?_
          exact ⟨rfl, HE.out⟩
  · have t1 : decide ((1500 : Int) < (stmsW l : Int)) = true := by rw [decide_eq_true_iff]; omega
    have t2 : decide (1500 < stmsW l) = true := by rw [decide_eq_true_iff]; omega
    go_wp2_with fail
    refine Hwt.out.mono ?_
    rintro _ w2 ⟨rfl, hb2⟩
    have HE := Lib.hid (Hb1.out.trans (hb2.mono Hb1.out.size))
    clear hb2 Hwt
    go_wp2_with fail
    refine bodyPost_ret (results_tmp rfl _ _ _) rfl ?_
    exact ⟨rfl, HE.out⟩
end Go.Proofs.YtdoaeapahgmfoaaGreatDoor
