/- The walk of LexBlanks. -/
import Derived.Test.YtdoaeapahgmfoaaDoorB1
import Derived.Test.YtdoaeapahgmfoaaDoorW1
import Derived.Test.YtdoaeapahgmfoaaDoorD2
import Derived.BigQuiet
namespace Go.Proofs.YtdoaeapahgmfoaaDoor
open Go.RowKit

theorem pick_quiet (k : Int) (w : World) (n : Nat) :
    Calls Tryd.prog 14 #[.int .i64 k, .int .i64 5] (w.drewN n) fun e w'' => e = .returned (.int .i64 (pickN k)) ∧ ∃ m, w'' = w.drewN m :=
  (pick_any k (w.drewN n)).mono fun _ _ ⟨h1, h2⟩ => ⟨h1, n, h2.symm⟩

theorem below_drewN {B : Nat} {a w : World} (h : Below B a w) (n : Nat) : Below B a (w.drewN n) := ⟨h.os, h.tape, h.output, h.size, h.block⟩

theorem more_size (k : Nat) : (toBA (moreL k)).size ≤ 12 := by
  match k with
  | 0 => decide
  | 1 => decide
  | 2 => decide
  | 3 => decide
  | k + 4 => exact (by decide : (toBA [10, 10]).size ≤ 12)

/-- What the law puts in, by number. -/
def moreCells : Array Value := #[.string ⟨#[32, 32]⟩, .string ⟨#[32, 35, 32, 97, 32, 99, 111, 109, 109, 101, 110, 116]⟩, .string ⟨#[10, 32, 32, 32]⟩, .string ⟨#[10, 35, 32, 34]⟩, .string ⟨#[10, 10]⟩]
theorem moreCells_at (k : Nat) (h : k < 5) : moreCells[k]? = some (.string (toBA (moreL k))) := by
  match k, h with
  | 0, _ => rfl
  | 1, _ => rfl
  | 2, _ => rfl
  | 3, _ => rfl
  | 4, _ => rfl

/-- The first line's end from a place on. -/
theorem end_at (l : List UInt8) (k : Nat) (h : k < l.length → l[k]? = some 10) : EndS (l.drop k) := by
  rcases Nat.lt_or_ge k l.length with hlt | hge
  · right
    refine ⟨l.drop (k + 1), ?_⟩
    have e := h hlt
    rw [List.getElem?_eq_getElem hlt] at e
    rw [List.drop_eq_getElem_cons hlt]
    injection e with e
    rw [e]
  · left; exact List.drop_eq_nil_of_le hge

/-- The text in front, and the text behind, of a place. -/
theorem cut_facts (s : ByteArray) (k : Nat) (hk : k ≤ s.size) : ∃ p q : ByteArray, p.data.toList = s.data.toList.take k ∧ q.data.toList = s.data.toList.drop k ∧ p.size ≤ s.size ∧ q.size ≤ s.size ∧
    (∀ w : World, (Instr.slice 9 (.string s) none (some (.int .i64 (k : Int))) none).run Tryd.prog w = .ok (.string p) w) ∧
    ∀ w : World, (Instr.slice 9 (.string s) (some (.int .i64 (k : Int))) none none).run Tryd.prog w = .ok (.string q) w := by
  refine ⟨s.extract 0 k, s.extract k s.size, ?_, ?_, ?_, ?_, fun w => ?_, fun w => slice_from s k hk w⟩
  · simp
  · simp [List.take_of_length_le]
  · simp; omega
  · simp
  · rw [run_slice_string_to_if w 9 s .i64 _ Tryd.underlying9, if_pos ⟨by omega, by omega⟩]
    rfl

/-- What Lex left, in both cases. -/
def LexTwo (w w' : World) (l : List UInt8) (v e : Value) : Prop :=
  (∃ k, lexL l = .error k ∧ v = .slice none 0 0 ∧ ∃ p, e = .iface 30 p) ∨ ∃ ts g cap, lexL l = .ok ts ∧ 0 < ts.length ∧ v = .slice (some ⟨g, 0, none⟩) ts.length cap ∧ e = .nilIface ∧ w.heap.size ≤ g ∧ g < w'.heap.size ∧
    ∀ j (hj : j < ts.length), w'.cell? ⟨g, j * 3, none⟩ = some (.string (toBA ts[j].kind)) ∧ w'.cell? ⟨g, j * 3 + 1, none⟩ = some (.string (toBA ts[j].text))
theorem lex_two {w : World} (s : ByteArray) (hs : s.size ≤ 6000) (hg : GlobE w.heap.size w) :
    Calls Tryd.prog 13 #[.string s] w fun e w' => ∃ v1 v2, e = .returned (.tuple #[v1, v2]) ∧ LexTwo w w' s.data.toList v1 v2 ∧ Below w.heap.size w w' := by
  refine (lex_any s hs hg).mono ?_
  rintro e w' ⟨hb, h⟩
  rcases hl : lexL s.data.toList with k | ts
  · rw [hl] at h
    obtain ⟨N, te, pe, rfl, _⟩ := h
    exact ⟨_, _, rfl, .inl ⟨k, hl, rfl, _, rfl⟩, hb⟩
  · rw [hl] at h
    obtain ⟨vo, rfl, hown⟩ := h
    obtain ⟨g, cap, rfl, hg1, hg2, hc⟩ := toks_row hown (lexL_pos hl)
    exact ⟨_, _, rfl, .inr ⟨ts, g, cap, hl, lexL_pos hl, rfl, rfl, hg1, hg2, fun j hj => ⟨(hc j hj).1, (hc j hj).2.1⟩⟩, hb⟩


set_option maxRecDepth 100000 in
set_option maxHeartbeats 20000000 in
theorem lexBlanks_main {w : World} (s : ByteArray) (a : Nat) (how : Int) (hs : s.size ≤ 2000) (ha : a ≤ s.size) (hg : GlobE w.heap.size w) :
    Calls Tryd.prog 4 #[.string s, .int .i64 (a : Int), .int .i64 how] w fun e w' => e = .returned (.bool true) ∧ Below w.heap.size w w' := by
  have d1 : decide (2000 < (s.size : Int)) = false := by simp; omega
  have d2 : decide ((a : Int) < 0) = false := by simp
  have d3 : decide ((s.size : Int) < (a : Int)) = false := by simp; omega
  go_enter Tryd.func4, Tryd.ntmps4
  go_wp2_with fail
  refine (one_any hg).mono ?_
  rintro e w1 ⟨rfl, hb1⟩
  go_wp2_with fail
  have hg1 : GlobE w1.heap.size w1 := (hg.below hb1).mono hb1.size
  refine (lex_two s (by omega) hg1).mono ?_
  rintro e w2 ⟨v8, v9, rfl, htwo, hb2⟩
  have hb12 : Below w.heap.size w w2 := below_grow hb1 hb1.size hb2
  have hg2 : GlobE w2.heap.size w2 := (hg.below hb12).mono hb12.size
  clear hb2 d1 d2 d3 hg1
  go_wp2_with fail
  go_loop [1] (fun v => ∃ k : Nat, k ≤ s.size ∧ v = .int .i64 k) (fun v => s.size - (intOf v).toNat)
  case atStart => exact ⟨a, ha, rfl⟩
  case round =>
    obtain ⟨k, hk, rfl⟩ := hrel
    by_cases hlt : k < s.size
    · have t1 : decide ((k : Int) < (s.size : Int)) = true := by simp; omega
      by_cases h10 : (s[k]'hlt).toNat = 10
      · have t2 : (((s[k]'hlt).toNat : Int) != 10) = false := by simp; omega
        have hend : k < s.data.toList.length → s.data.toList[k]? = some 10 := by
          intro h
          rw [List.getElem?_eq_getElem h]
          congr 1
          have e : s.data.toList[k] = s[k]'hlt := rfl
          rw [e]
          exact UInt8.toNat_inj.mp (by rw [h10]; rfl)
        clear h10
        have hE := end_at s.data.toList k hend
        obtain ⟨p, q, hp, hq, hps, hqs, hs1, hs2⟩ := cut_facts s k (by omega)
        obtain ⟨d, hd⟩ : ∃ d, d = pickN how := ⟨_, rfl⟩
        have hd5 : d < 5 := by rw [hd]; exact pickN_lt how
        have hmc : (w2.alloc (.cells moreCells 9)).cell? ⟨w2.heap.size, d, none⟩ = some (.string (toBA (moreL d))) := by
          rw [cell_of_blk (heap_alloc_new w2 _)]; exact moreCells_at d hd5
        have hms := more_size d
        obtain ⟨mo, hmo⟩ : ∃ mo, mo = toBA (moreL d) := ⟨_, rfl⟩
        rw [← hmo] at hmc hms
        have hb3 : Below w2.heap.size w2 (w2.alloc (.cells moreCells 9)) := (Below.refl _ _).alloc (Nat.le_refl _) _
        have hpq : ∀ (W : World) (n : Nat), Calls Tryd.prog 14 #[.int .i64 how, .int .i64 5] (W.drewN n) fun e w'' => e = .returned (.int .i64 (d : Nat)) ∧ ∃ m, w'' = W.drewN m := by
          intro W n; rw [hd]; exact pick_quiet how W n
        have hpm : (p ++ mo).size ≤ 2100 := by rw [ByteArray.size_append]; omega
        have htt : ((p ++ mo) ++ q).size ≤ 6000 := by rw [ByteArray.size_append]; omega
        have Hp := Lib.hid hp; have Hq := Lib.hid hq; have HE := Lib.hid hE; have Hend := Lib.hid hend; have Htwo := Lib.hid htwo; have Hmo := Lib.hid hmo
        clear hp hq hE hend htwo hd hmo
        go_upto_region 8 with fail
        have hW : w2.alloc (.cells #[.string ⟨#[32, 32]⟩, .string ⟨#[32, 35, 32, 97, 32, 99, 111, 109, 109, 101, 110, 116]⟩, .string ⟨#[10, 32, 32, 32]⟩, .string ⟨#[10, 35, 32, 34]⟩, .string ⟨#[10, 10]⟩] 9) = w2.alloc (.cells moreCells 9) := rfl
        rw [hW]
        clear hW
        generalize w2.alloc (.cells moreCells 9) = W3 at hmc hb3 ⊢
        go_quiet ((go_at_call 14; exact hpq _ _))
        have hb4 : Below w2.heap.size w2 (W3.drewN nq) := below_drewN hb3 nq
        generalize W3.drewN nq = W4 at hb4 ⊢
        have hg4 : GlobE W4.heap.size W4 := (hg2.below hb4).mono hb4.size
        have hb14 : Below w.heap.size w W4 := below_grow hb12 hb12.size hb4
        clear hb3 hmc hpq hpm hms hs1 hs2 hd5 hb1 hb12 hg2 hps hqs
        go_wp2_with fail
        refine (lex_two ((p ++ mo) ++ q) htt hg4).mono ?_
        rintro e w5 ⟨v12, v13, rfl, htwo2, hb5⟩
        have hbl : Below w.heap.size w w5 := below_grow hb14 hb14.size hb5
        have hb25 : Below w2.heap.size w2 w5 := below_grow hb4 hb4.size hb5
        have hsame : lexS ((p ++ mo) ++ q).data.toList = lexS s.data.toList := by
          have e1 : ((p ++ mo) ++ q).data.toList = s.data.toList.take k ++ (moreL d ++ s.data.toList.drop k) := by
            rw [← Hp.out, ← Hq.out, Hmo.out]; simp [toBA]
          rw [e1, lexS_more d _ _ HE.out, List.take_append_drop]
        rw [← lexL_S, ← lexL_S s.data.toList] at hsame
        clear hb14 hb4 hb5 hg4 htt hg
        rcases Htwo.out with ⟨k1, hl, rfl, p1, rfl⟩ | ⟨ts, g, cap, hl, hpos, rfl, rfl, _, hgs, hc⟩
        · rcases htwo2 with ⟨k2, hl2, rfl, p2, rfl⟩ | ⟨ts2, g2, cap2, hl2, _⟩
          · clear hsame hl hl2 hb25
            go_wp2_with fail
            refine bodyPost_ret (results_tmp rfl _ _ _) rfl ?_
            exact ⟨rfl, hbl⟩
          · exfalso
            rw [hl, hl2] at hsame
            cases hsame
        · rcases htwo2 with ⟨k2, hl2, _⟩ | ⟨ts2, g2, cap2, hl2, hpos2, rfl, rfl, _, hgs2, hc2⟩
          · exfalso
            rw [hl, hl2] at hsame
            cases hsame
          · rw [hl, hl2] at hsame
            injection hsame with hsame
            have hlen : ts2.length = ts.length := by have := congrArg List.length hsame; simpa using this
            have hlen6 := lexL_len hl
            have hl6 : ts.length ≤ 20000 := by simp at hlen6; omega
            have hcs : ∀ j (hj : j < ts.length), ∃ kd tx : ByteArray, w5.cell? ⟨g, j * 3, none⟩ = some (.string kd) ∧ w5.cell? ⟨g, j * 3 + 1, none⟩ = some (.string tx) ∧ w5.cell? ⟨g2, j * 3, none⟩ = some (.string kd) ∧ w5.cell? ⟨g2, j * 3 + 1, none⟩ = some (.string tx) := by
              intro j hj
              have hj2 : j < ts2.length := by omega
              have e : kt ts2[j] = kt ts[j] := by
                have := congrArg (fun l => l[j]?) hsame
                simpa [hj, hj2] using this
              have ek : ts2[j].kind = ts[j].kind := congrArg Prod.fst e
              have et : ts2[j].text = ts[j].text := congrArg Prod.snd e
              refine ⟨toBA ts[j].kind, toBA ts[j].text, (hb25.cell (p := ⟨g, j * 3, none⟩) hgs).trans (hc j hj).1, (hb25.cell (p := ⟨g, j * 3 + 1, none⟩) hgs).trans (hc j hj).2, ?_, ?_⟩
              · rw [← ek]; exact (hc2 j hj2).1
              · rw [← et]; exact (hc2 j hj2).2
            have Hcs := Lib.hid hcs
            rw [hlen]
            clear hcs hsame hl hl2 hlen6 hc hc2 hpos2 hlen hb25
            go_wp2_with fail
            go_loopw [14] (fun i wr => ∃ j : Nat, j ≤ ts.length ∧ i = .int .i64 j ∧ Below w5.heap.size w5 wr) (fun i _ => ts.length - (intOf i).toNat)
            case atStart => exact ⟨0, by omega, rfl, Below.refl _ _⟩
            case round =>
              obtain ⟨j, hj, rfl, hbr⟩ := hrel
              by_cases hjl : j < ts.length
              · have t3 : decide ((j : Int) < (ts.length : Int)) = true := by simp; omega
                obtain ⟨kd, tx, q1, q2, q3, q4⟩ := Hcs.out j hjl
                have hgs5 : g < w5.heap.size := World.block_lt_of_cell? w5 _ q1
                have hgs6 : g2 < w5.heap.size := World.block_lt_of_cell? w5 _ q3
                have r1 := (hbr.cell (p := ⟨g, j * 3, none⟩) hgs5).trans q1
                have r2 := (hbr.cell (p := ⟨g, j * 3 + 1, none⟩) hgs5).trans q2
                have r3 := (hbr.cell (p := ⟨g2, j * 3, none⟩) hgs6).trans q3
                have r4 := (hbr.cell (p := ⟨g2, j * 3 + 1, none⟩) hgs6).trans q4
                clear q1 q2 q3 q4 hgs5 hgs6
                go_upto_region 17 with fail
                go_quiet (fail)
                go_wp2_with fail
                go_roundw
                case rel => exact ⟨j + 1, by omega, by go_num, below_drewN hbr _⟩
                case measure => simp [intOf]; omega
              · have t3 : decide ((j : Int) < (ts.length : Int)) = false := by simp; omega
                go_wp2_with fail
                refine bodyPost_ret (results_tmp rfl _ _ _) rfl ?_
                exact ⟨rfl, below_grow hbl hbl.size hbr⟩
      · have t2 : (((s[k]'hlt).toNat : Int) != 10) = true := by simp; omega
        clear h10
        go_wp2_with fail
        go_round
        case rel => exact ⟨k + 1, by omega, by go_num⟩
        case measure => simp [intOf]; omega
    · have t1 : decide ((k : Int) < (s.size : Int)) = false := by simp; omega
      have hend : k < s.data.toList.length → s.data.toList[k]? = some 10 := by
        intro h; exfalso; simp at h; omega
      have hE := end_at s.data.toList k hend
      obtain ⟨p, q, hp, hq, hps, hqs, hs1, hs2⟩ := cut_facts s k (by omega)
      obtain ⟨d, hd⟩ : ∃ d, d = pickN how := ⟨_, rfl⟩
      have hd5 : d < 5 := by rw [hd]; exact pickN_lt how
      have hmc : (w2.alloc (.cells moreCells 9)).cell? ⟨w2.heap.size, d, none⟩ = some (.string (toBA (moreL d))) := by
        rw [cell_of_blk (heap_alloc_new w2 _)]; exact moreCells_at d hd5
      have hms := more_size d
      obtain ⟨mo, hmo⟩ : ∃ mo, mo = toBA (moreL d) := ⟨_, rfl⟩
      rw [← hmo] at hmc hms
      have hb3 : Below w2.heap.size w2 (w2.alloc (.cells moreCells 9)) := (Below.refl _ _).alloc (Nat.le_refl _) _
      have hpq : ∀ (W : World) (n : Nat), Calls Tryd.prog 14 #[.int .i64 how, .int .i64 5] (W.drewN n) fun e w'' => e = .returned (.int .i64 (d : Nat)) ∧ ∃ m, w'' = W.drewN m := by
        intro W n; rw [hd]; exact pick_quiet how W n
      have hpm : (p ++ mo).size ≤ 2100 := by rw [ByteArray.size_append]; omega
      have htt : ((p ++ mo) ++ q).size ≤ 6000 := by rw [ByteArray.size_append]; omega
      have Hp := Lib.hid hp; have Hq := Lib.hid hq; have HE := Lib.hid hE; have Hend := Lib.hid hend; have Htwo := Lib.hid htwo; have Hmo := Lib.hid hmo
      clear hp hq hE hend htwo hd hmo
      go_upto_region 8 with fail
      have hW : w2.alloc (.cells #[.string ⟨#[32, 32]⟩, .string ⟨#[32, 35, 32, 97, 32, 99, 111, 109, 109, 101, 110, 116]⟩, .string ⟨#[10, 32, 32, 32]⟩, .string ⟨#[10, 35, 32, 34]⟩, .string ⟨#[10, 10]⟩] 9) = w2.alloc (.cells moreCells 9) := rfl
      rw [hW]
      clear hW
      generalize w2.alloc (.cells moreCells 9) = W3 at hmc hb3 ⊢
      go_quiet ((go_at_call 14; exact hpq _ _))
      have hb4 : Below w2.heap.size w2 (W3.drewN nq) := below_drewN hb3 nq
      generalize W3.drewN nq = W4 at hb4 ⊢
      have hg4 : GlobE W4.heap.size W4 := (hg2.below hb4).mono hb4.size
      have hb14 : Below w.heap.size w W4 := below_grow hb12 hb12.size hb4
      clear hb3 hmc hpq hpm hms hs1 hs2 hd5 hb1 hb12 hg2 hps hqs
      go_wp2_with fail
      refine (lex_two ((p ++ mo) ++ q) htt hg4).mono ?_
      rintro e w5 ⟨v12, v13, rfl, htwo2, hb5⟩
      have hbl : Below w.heap.size w w5 := below_grow hb14 hb14.size hb5
      have hb25 : Below w2.heap.size w2 w5 := below_grow hb4 hb4.size hb5
      have hsame : lexS ((p ++ mo) ++ q).data.toList = lexS s.data.toList := by
        have e1 : ((p ++ mo) ++ q).data.toList = s.data.toList.take k ++ (moreL d ++ s.data.toList.drop k) := by
          rw [← Hp.out, ← Hq.out, Hmo.out]; simp [toBA]
        rw [e1, lexS_more d _ _ HE.out, List.take_append_drop]
      rw [← lexL_S, ← lexL_S s.data.toList] at hsame
      clear hb14 hb4 hb5 hg4 htt hg
      rcases Htwo.out with ⟨k1, hl, rfl, p1, rfl⟩ | ⟨ts, g, cap, hl, hpos, rfl, rfl, _, hgs, hc⟩
      · rcases htwo2 with ⟨k2, hl2, rfl, p2, rfl⟩ | ⟨ts2, g2, cap2, hl2, _⟩
        · clear hsame hl hl2 hb25
          go_wp2_with fail
          refine bodyPost_ret (results_tmp rfl _ _ _) rfl ?_
          exact ⟨rfl, hbl⟩
        · exfalso
          rw [hl, hl2] at hsame
          cases hsame
      · rcases htwo2 with ⟨k2, hl2, _⟩ | ⟨ts2, g2, cap2, hl2, hpos2, rfl, rfl, _, hgs2, hc2⟩
        · exfalso
          rw [hl, hl2] at hsame
          cases hsame
        · rw [hl, hl2] at hsame
          injection hsame with hsame
          have hlen : ts2.length = ts.length := by have := congrArg List.length hsame; simpa using this
          have hlen6 := lexL_len hl
          have hl6 : ts.length ≤ 20000 := by simp at hlen6; omega
          have hcs : ∀ j (hj : j < ts.length), ∃ kd tx : ByteArray, w5.cell? ⟨g, j * 3, none⟩ = some (.string kd) ∧ w5.cell? ⟨g, j * 3 + 1, none⟩ = some (.string tx) ∧ w5.cell? ⟨g2, j * 3, none⟩ = some (.string kd) ∧ w5.cell? ⟨g2, j * 3 + 1, none⟩ = some (.string tx) := by
            intro j hj
            have hj2 : j < ts2.length := by omega
            have e : kt ts2[j] = kt ts[j] := by
              have := congrArg (fun l => l[j]?) hsame
              simpa [hj, hj2] using this
            have ek : ts2[j].kind = ts[j].kind := congrArg Prod.fst e
            have et : ts2[j].text = ts[j].text := congrArg Prod.snd e
            refine ⟨toBA ts[j].kind, toBA ts[j].text, (hb25.cell (p := ⟨g, j * 3, none⟩) hgs).trans (hc j hj).1, (hb25.cell (p := ⟨g, j * 3 + 1, none⟩) hgs).trans (hc j hj).2, ?_, ?_⟩
            · rw [← ek]; exact (hc2 j hj2).1
            · rw [← et]; exact (hc2 j hj2).2
          have Hcs := Lib.hid hcs
          rw [hlen]
          clear hcs hsame hl hl2 hlen6 hc hc2 hpos2 hlen hb25
          go_wp2_with fail
          go_loopw [14] (fun i wr => ∃ j : Nat, j ≤ ts.length ∧ i = .int .i64 j ∧ Below w5.heap.size w5 wr) (fun i _ => ts.length - (intOf i).toNat)
          case atStart => exact ⟨0, by omega, rfl, Below.refl _ _⟩
          case round =>
            obtain ⟨j, hj, rfl, hbr⟩ := hrel
            by_cases hjl : j < ts.length
            · have t3 : decide ((j : Int) < (ts.length : Int)) = true := by simp; omega
              obtain ⟨kd, tx, q1, q2, q3, q4⟩ := Hcs.out j hjl
              have hgs5 : g < w5.heap.size := World.block_lt_of_cell? w5 _ q1
              have hgs6 : g2 < w5.heap.size := World.block_lt_of_cell? w5 _ q3
              have r1 := (hbr.cell (p := ⟨g, j * 3, none⟩) hgs5).trans q1
              have r2 := (hbr.cell (p := ⟨g, j * 3 + 1, none⟩) hgs5).trans q2
              have r3 := (hbr.cell (p := ⟨g2, j * 3, none⟩) hgs6).trans q3
              have r4 := (hbr.cell (p := ⟨g2, j * 3 + 1, none⟩) hgs6).trans q4
              clear q1 q2 q3 q4 hgs5 hgs6
              go_upto_region 17 with fail
              go_quiet (fail)
              go_wp2_with fail
              go_roundw
              case rel => exact ⟨j + 1, by omega, by go_num, below_drewN hbr _⟩
              case measure => simp [intOf]; omega
            · have t3 : decide ((j : Int) < (ts.length : Int)) = false := by simp; omega
              go_wp2_with fail
              refine bodyPost_ret (results_tmp rfl _ _ _) rfl ?_
              exact ⟨rfl, below_grow hbl hbl.size hbr⟩

set_option maxRecDepth 100000 in
set_option maxHeartbeats 20000000 in
theorem lexBlanks_short {w : World} (s : ByteArray) (a how : Int) (hg : GlobE w.heap.size w) (hb : 2000 < s.size ∨ a < 0 ∨ (s.size : Int) < a) :
    Calls Tryd.prog 4 #[.string s, .int .i64 a, .int .i64 how] w fun e w' => e = .returned (.bool true) ∧ Below w.heap.size w w' := by
  go_enter Tryd.func4, Tryd.ntmps4
  go_wp2_with fail
  refine (one_any hg).mono ?_
  rintro e w1 ⟨rfl, hb1⟩
  by_cases h1 : 2000 < s.size
  · have d1 : decide ((2000 : Int) < (s.size : Int)) = true := by simp; omega
    go_wp2_with fail
    refine bodyPost_ret (results_tmp rfl _ _ _) rfl ?_
    exact ⟨rfl, hb1⟩
  have d1 : decide ((2000 : Int) < (s.size : Int)) = false := by simp; omega
  by_cases h2 : a < 0
  · have d2 : decide (a < 0) = true := by simp; omega
    go_wp2_with fail
    refine bodyPost_ret (results_tmp rfl _ _ _) rfl ?_
    exact ⟨rfl, hb1⟩
  have d2 : decide (a < 0) = false := by simp; omega
  have d3 : decide ((s.size : Int) < a) = true := by simp; omega
  go_wp2_with fail
  refine bodyPost_ret (results_tmp rfl _ _ _) rfl ?_
  exact ⟨rfl, hb1⟩

/-- LexBlanks, of whatever text, place and number. -/
theorem lexBlanks_any {w : World} (s : ByteArray) (a how : Int) (hg : GlobE w.heap.size w) :
    Calls Tryd.prog 4 #[.string s, .int .i64 a, .int .i64 how] w fun e w' => e = .returned (.bool true) ∧ Below w.heap.size w w' := by
  by_cases hb : 2000 < s.size ∨ a < 0 ∨ (s.size : Int) < a
  · exact lexBlanks_short s a how hg hb
  · obtain ⟨k, rfl⟩ : ∃ k : Nat, a = (k : Int) := ⟨a.toNat, by omega⟩
    exact lexBlanks_main s k how (by omega) (by omega) hg

end Go.Proofs.YtdoaeapahgmfoaaDoor
