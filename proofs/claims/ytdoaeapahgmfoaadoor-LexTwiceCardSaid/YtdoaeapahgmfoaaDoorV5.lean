/- The walk of LexTwice: true, of whatever text. -/
import Derived.Test.YtdoaeapahgmfoaaDoorV4
namespace Go.Proofs.YtdoaeapahgmfoaaDoor
open Go.RowKit

/-- A token's text is no longer than its bytes. -/
theorem unq_len : ∀ (m : Nat) (r acc t : List UInt8) (i n : Nat), r.length ≤ m → unq r acc i = some (t, n) → t.length + i ≤ acc.length + n := by
  intro m
  induction m with
  | zero =>
    intro r acc t i n hm h
    have : r = [] := List.eq_nil_of_length_eq_zero (by omega)
    subst this
    cases h
  | succ m ih =>
    intro r acc t i n hm h
    match r, hm, h with
    | [], _, h => cases h
    | c :: r, hm, h =>
      simp only [List.length_cons] at hm
      rw [unq_cons] at h
      split at h
      · injection h with h; injection h with h1 h2; subst h1; subst h2; omega
      · split at h
        · cases h
        · split at h
          · have := ih _ _ _ _ _ (by omega) h
            simp only [List.length_append, List.length_cons, List.length_nil] at this
            omega
          · match r, hm, h with
            | [], _, h => cases h
            | d :: r2, hm, h =>
              simp only [List.length_cons] at hm
              simp only at h
              split at h
              · have := ih _ _ _ _ _ (by omega) h
                simp only [List.length_append, List.length_cons, List.length_nil] at this
                omega
              · split at h
                · have := ih _ _ _ _ _ (by omega) h
                  simp only [List.length_append, List.length_cons, List.length_nil] at this
                  omega
                · split at h
                  · match r2, hm, h with
                    | [], _, h => cases h
                    | [a], _, h => cases h
                    | a :: b :: r3, hm, h =>
                      simp only [List.length_cons] at hm
                      simp only at h
                      split at h
                      · have := ih _ _ _ _ _ (by omega) h
                        simp only [List.length_append, List.length_cons, List.length_nil] at this
                        omega
                      · cases h
                  · cases h

theorem tokL_len {r kd tx : List UInt8} {n : Nat} (h : tokL r = some (kd, tx, n)) : tx.length ≤ n := by
  match r, h with
  | [], h => simp [tokL] at h
  | c :: r', h =>
    simp only [tokL] at h
    split at h
    · split at h
      · injection h with h; injection h with _ h; injection h with h1 h2; subst h1; subst h2; simp; omega
      · split at h
        · injection h with h; injection h with _ h; injection h with h1 h2; subst h1; subst h2; simp; omega
        · cases h
    · split at h
      · split at h
        · injection h with h; injection h with _ h; injection h with h1 h2; subst h1; subst h2; simp; omega
        · cases h
      · split at h
        · split at h
          · rename_i t m hu
            injection h with h; injection h with _ h; injection h with h1 h2; subst h1; subst h2
            unfold unqS at hu
            have := unq_len _ _ _ _ _ _ (Nat.le_refl _) hu
            simp at this; omega
          · cases h
        · split at h
          · injection h with h; injection h with _ h; injection h with h1 h2; subst h1; subst h2; omega
          · cases h

theorem toksL_short : ∀ (f : Nat) (l : List UInt8) (k : Nat) (ts : List Tok) (j : Nat), toksL f l k = .ok (ts, j) → ∀ t ∈ ts, t.text.length ≤ l.length := by
  intro f
  induction f with
  | zero => intro l k ts j h; rw [toksL] at h; injection h with h; injection h with h1 _; subst h1; simp
  | succ f ih =>
    intro l k ts j h
    rw [toksL] at h
    split at h
    · injection h with h; injection h with h1 _; subst h1; simp
    · split at h
      · cases h
      · rename_i kd tx n ht
        have hn := tokL_pos ht
        have hx := tokL_len ht
        simp only [List.length_drop] at hn
        split at h
        · cases h
        · rename_i ts' j' he
          injection h with h; injection h with h1 _; subst h1
          intro t hm
          rcases List.mem_cons.1 hm with rfl | hm
          · simp only; omega
          · exact ih _ _ _ _ he t hm
theorem popL_short (deep b : Nat) : ∀ st : List Nat, ∀ t ∈ (popL deep b st).1, t.text = []
  | [], t, h => by simp [popL] at h
  | u :: r, t, h => by
    unfold popL at h
    split at h
    · rcases List.mem_cons.1 h with rfl | h
      · rfl
      · exact popL_short deep b r t h
    · simp at h
theorem indL_short (deep b : Nat) (st : List Nat) (t : Tok) (h : t ∈ (indL deep b st).1) : t.text = [] := by
  unfold indL at h
  split at h
  · simp at h; rw [h]
  · exact popL_short deep b st t h
theorem lineL_short {l : List UInt8} {i : Nat} {st st' : List Nat} {ts : List Tok} {j : Nat} (hl : lineL l i st = .ok (ts, j, st')) : ∀ t ∈ ts, t.text.length ≤ l.length := by
  unfold lineL at hl
  split at hl
  · injection hl with hl; injection hl with h1 hl; subst h1; simp
  · split at hl
    · cases hl
    · split at hl
      · cases hl
      · rename_i ts0 k hk
        injection hl with hl; injection hl with h1 hl; subst h1
        intro t ht
        rcases List.mem_append.1 ht with ht | ht
        · rcases List.mem_append.1 ht with ht | ht
          · rw [indL_short _ _ _ t ht]; simp
          · exact toksL_short _ _ _ _ _ hk t ht
        · simp at ht; rw [ht]; simp
theorem linesL_short : ∀ (f : Nat) (l : List UInt8) (i : Nat) (st st' : List Nat) (ts : List Tok), linesL f l i st = .ok (ts, st') → ∀ t ∈ ts, t.text.length ≤ l.length := by
  intro f
  induction f with
  | zero => intro l i st st' ts h; rw [linesL] at h; injection h with h; injection h with h1 _; subst h1; simp
  | succ f ih =>
    intro l i st st' ts h
    rw [linesL] at h
    split at h
    · split at h
      · cases h
      · rename_i ts1 j st1 hl
        split at h
        · cases h
        · rename_i ts2 st2 h2
          injection h with h; injection h with e1 _; subst e1
          intro t ht
          rcases List.mem_append.1 ht with ht | ht
          · exact lineL_short hl t ht
          · exact ih _ _ _ _ _ h2 t ht
    · injection h with h; injection h with h1 _; subst h1; simp
theorem lexL_short {l : List UInt8} {ts : List Tok} (h : lexL l = .ok ts) : ∀ t ∈ ts, t.text.length ≤ l.length := by
  unfold lexL at h
  split at h
  · cases h
  · rename_i ts1 st1 h1
    injection h with h; subst h
    intro t ht
    rcases List.mem_append.1 ht with ht | ht
    · rcases List.mem_append.1 ht with ht | ht
      · exact linesL_short _ _ _ _ _ _ h1 t ht
      · rw [List.eq_of_mem_replicate ht]; simp
    · simp at ht; rw [ht]; simp

set_option maxRecDepth 100000 in
set_option maxHeartbeats 20000000 in
theorem lexTwice_long {w : World} (s : ByteArray) (hs : 3000 < s.size) (hg : GlobE w.heap.size w) :
    Calls Tryd.prog 7 #[.string s] w fun e w' => e = .returned (.bool true) ∧ Below w.heap.size w w' := by
  have d1 : decide ((3000 : Int) < (s.size : Int)) = true := by simp; omega
  go_enter Tryd.func7, Tryd.ntmps7
  go_wp2_with fail
  refine (one_any hg).mono ?_
  rintro e w1 ⟨rfl, hb1⟩
  go_wp2_with fail
  refine bodyPost_ret (results_tmp rfl _ _ _) rfl ?_
  exact ⟨rfl, hb1⟩

set_option maxRecDepth 100000 in
set_option maxHeartbeats 20000000 in
theorem lexTwice_main {w : World} (s : ByteArray) (hs : s.size ≤ 3000) (hg : GlobE w.heap.size w) (hsh : ∃ te pe, w.cell? ⟨2, 0, none⟩ = some (.iface te pe)) :
    Calls Tryd.prog 7 #[.string s] w fun e w' => e = .returned (.bool true) ∧ Below w.heap.size w w' := by
  obtain ⟨te, pe, hsh⟩ := hsh
  have d1 : decide ((3000 : Int) < (s.size : Int)) = false := by simp; omega
  go_enter Tryd.func7, Tryd.ntmps7
  go_wp2_with fail
  refine (one_any hg).mono ?_
  rintro e w1 ⟨rfl, hb1⟩
  go_wp2_with fail
  have hg1 : GlobE w1.heap.size w1 := (hg.below hb1).mono hb1.size
  refine (lex_three s (by omega) hg1).mono ?_
  rintro e w2 ⟨v4, v5, rfl, htwo, hb2⟩
  have hb12 : Below w.heap.size w w2 := below_grow hb1 hb1.size hb2
  have hg2 : GlobE w2.heap.size w2 := (hg.below hb12).mono hb12.size
  have hs2 := (hb12.cell (World.block_lt_of_cell? w _ hsh)).trans hsh
  clear hb1 hb2 hg1 d1 hsh hg
  rcases htwo with ⟨k1, hl, rfl, p1, rfl⟩ | ⟨ts, g, cap, hl, hpos, rfl, rfl, _, hgs, hc⟩
  · go_wp2_with fail
    refine bodyPost_ret (results_tmp rfl _ _ _) rfl ?_
    exact ⟨rfl, hb12⟩
  · obtain ⟨hbal, hord, _⟩ := lexL_laws hl
    have hlen := lexL_len hl
    have hshort := lexL_short hl
    have hsl : s.data.toList.length = s.size := by simp
    have hl6 : ts.length ≤ 20000 := by omega
    have hT : ToksAt w2 g ts := ⟨hpos, hl6, hgs, fun t ht => by have := hshort t ht; omega, hc⟩
    have HT := Lib.hid hT; have Hbal := Lib.hid hbal; have Hord := Lib.hid hord
    clear hc hT hbal hord hlen hshort hl hsl hs
    go_wp2_with fail
    go_loopw [6, 7] (fun dd i wr => ∃ j d : Nat, j ≤ ts.length ∧ i = .int .i64 j ∧ dd = .int .i64 d ∧ d ≤ j ∧ balL (ts.take j) 0 = some d ∧ Below w2.heap.size w2 wr) (fun _ i _ => ts.length - (intOf i).toNat)
    case atStart => exact ⟨0, 0, by omega, rfl, rfl, by omega, rfl, Below.refl _ _⟩
    case round =>
      obtain ⟨j, d, hj, rfl, rfl, hdj, hbd, hbr⟩ := hrel
      have Hbd := Lib.hid hbd; clear hbd
      by_cases hjl : j < ts.length
      · have t1 : decide ((j : Int) < (ts.length : Int)) = true := by simp; omega
        obtain ⟨d2, hd2⟩ := bal_take Hbal.out (j + 1)
        have hnx := bal_next hjl Hbd.out hd2
        have Hd2 := Lib.hid hd2; clear hd2
        obtain ⟨k0, k1, k2⟩ := HT.out.cell j hjl
        have k0 := (hbr.cell (p := ⟨g, j * 3, none⟩) hgs).trans k0
        have k2 := (hbr.cell (p := ⟨g, j * 3 + 2, none⟩) hgs).trans k2
        clear k1
        obtain ⟨kd, hkd⟩ : ∃ kd, kd = ts[j].kind := ⟨_, rfl⟩
        rw [← hkd] at k0 hnx
        obtain ⟨a1, ha1⟩ : ∃ a1, a1 = ts[j].at_ := ⟨_, rfl⟩
        rw [← ha1] at k2
        have hprev : (decide ((0 : Int) < (j : Int)) = false ∧ decide (0 < j) = false) ∨ ∃ m a0 : Nat, m < ts.length ∧ IntKind.i64.wrap ((j : Int) - 1) = (m : Int) ∧ (decide ((0 : Int) < (j : Int)) = true ∧ decide (0 < j) = true) ∧ wr.cell? ⟨g, m * 3 + 2, none⟩ = some (.int .i64 (a0 : Int)) ∧ decide ((a1 : Int) < (a0 : Int)) = false ∧ decide (a1 < a0) = false := by
          rcases j with _ | m
          · exact .inl ⟨rfl, rfl⟩
          · refine .inr ⟨m, ts[m].at_, by omega, ?_, ⟨by simp, by simp⟩, ?_, ?_, ?_⟩
            · rw [show ((m + 1 : Nat) : Int) - 1 = (m : Int) by omega]; exact wrap_small m (by omega)
            · exact (hbr.cell (p := ⟨g, m * 3 + 2, none⟩) hgs).trans (HT.out.cell m (by omega)).2.2
            · have := at_next Hord.out m hjl
              rw [ha1]; simp; omega
            · have := at_next Hord.out m hjl
              rw [ha1]; simp; omega
        clear hkd ha1
        have u0 : decide ((d2 : Int) < 0) = false := by simp
        have u0' : decide ((d : Int) + 1 < 0) = false := by simp; omega
        have hgr : g < wr.heap.size := by have := hbr.size; omega
        rcases hnx with ⟨rfl, hdd⟩ | ⟨rfl, hdd⟩ | ⟨c1, c2, hdd⟩
        · have k0' : wr.cell? ⟨g, j * 3, none⟩ = some (.string ⟨#[105, 110, 100, 101, 110, 116]⟩) := k0
          clear k0
          subst hdd
          rcases hprev with ⟨u1, u1n⟩ | ⟨m, a0, hm, hw, ⟨u1, u1n⟩, c0, u2, u2n⟩
          ·
            go_upto_region 15 with fail
            go_quiet (fail)
            go_wp2_with fail
            go_roundw
            case rel => exact ⟨j + 1, d + 1, by omega, by go_num, by go_num, by omega, Hd2.out, below_drewN hbr _⟩
            case measure => simp [intOf]; omega
          ·
            go_upto_region 15 with fail
            go_quiet (fail)
            go_wp2_with fail
            go_roundw
            case rel => exact ⟨j + 1, d + 1, by omega, by go_num, by go_num, by omega, Hd2.out, below_drewN hbr _⟩
            case measure => simp [intOf]; omega
        · have k0' : wr.cell? ⟨g, j * 3, none⟩ = some (.string ⟨#[100, 101, 100, 101, 110, 116]⟩) := k0
          clear k0
          subst hdd
          have u3 : IntKind.i64.wrap (((d2 + 1 : Nat) : Int) - 1) = (d2 : Int) := by rw [show ((d2 + 1 : Nat) : Int) - 1 = (d2 : Int) by omega]; exact wrap_small d2 (by omega)
          rcases hprev with ⟨u1, u1n⟩ | ⟨m, a0, hm, hw, ⟨u1, u1n⟩, c0, u2, u2n⟩
          ·
            go_upto_region 15 with fail
            go_quiet (fail)
            go_wp2_with fail
            go_roundw
            case rel => exact ⟨j + 1, d2, by omega, by go_num, by go_num, by omega, Hd2.out, below_drewN hbr _⟩
            case measure => simp [intOf]; omega
          ·
            go_upto_region 15 with fail
            go_quiet (fail)
            go_wp2_with fail
            go_roundw
            case rel => exact ⟨j + 1, d2, by omega, by go_num, by go_num, by omega, Hd2.out, below_drewN hbr _⟩
            case measure => simp [intOf]; omega
        · have f1 : ((toBA kd).toList == [105, 110, 100, 101, 110, 116]) = false := toBA_ne c1
          have f2 : ((toBA kd).toList == [100, 101, 100, 101, 110, 116]) = false := toBA_ne c2
          subst hdd
          rcases hprev with ⟨u1, u1n⟩ | ⟨m, a0, hm, hw, ⟨u1, u1n⟩, c0, u2, u2n⟩
          ·
            go_upto_region 15 with fail
            go_quiet (fail)
            go_wp2_with fail
            go_roundw
            case rel => exact ⟨j + 1, d2, by omega, by go_num, by go_num, by omega, Hd2.out, below_drewN hbr _⟩
            case measure => simp [intOf]; omega
          ·
            go_upto_region 15 with fail
            go_quiet (fail)
            go_wp2_with fail
            go_roundw
            case rel => exact ⟨j + 1, d2, by omega, by go_num, by go_num, by omega, Hd2.out, below_drewN hbr _⟩
            case measure => simp [intOf]; omega
      · have hje : j = ts.length := by omega
        subst hje
        have t1 : decide ((ts.length : Int) < (ts.length : Int)) = false := by simp
        have hd0 : d = 0 := by
          have h1 := Hbd.out
          rw [List.take_length, Hbal.out] at h1
          injection h1 with h1; exact h1.symm
        subst hd0
        have hbw : Below w.heap.size w wr := below_grow hb12 hb12.size hbr
        have hgw : GlobE wr.heap.size wr := (hg2.below hbr).mono hbr.size
        have hTw : ToksAt wr g ts := ⟨HT.out.pos, HT.out.many, by have := hbr.size; omega, HT.out.short, fun j hj => ⟨(hbr.cell (p := ⟨g, j * 3, none⟩) hgs).trans (HT.out.cell j hj).1, (hbr.cell (p := ⟨g, j * 3 + 1, none⟩) hgs).trans (HT.out.cell j hj).2.1, (hbr.cell (p := ⟨g, j * 3 + 2, none⟩) hgs).trans (HT.out.cell j hj).2.2⟩⟩
        have hsw : ∃ te pe, wr.cell? ⟨2, 0, none⟩ = some (.iface te pe) := ⟨te, pe, (hbr.cell (World.block_lt_of_cell? w2 _ hs2)).trans hs2⟩
        have HTw := Lib.hid hTw
        go_wp2_with fail
        refine (lexText_any ts g cap HTw.out hgw hsw).mono ?_
        rintro e w5 ⟨hb5, ⟨te2, pe2, rfl⟩ | ⟨t, ts2, rfl, ht6, hlx, hsame⟩⟩
        · go_wp2_with fail
          refine bodyPost_ret (results_tmp rfl _ _ _) rfl ?_
          exact ⟨rfl, below_grow hbw hbw.size hb5⟩
        · have hbw5 : Below w.heap.size w w5 := below_grow hbw hbw.size hb5
          have hg5 : GlobE w5.heap.size w5 := (hgw.below hb5).mono hb5.size
          have Hlx := Lib.hid hlx; have Hsame := Lib.hid hsame
          clear hlx hsame
          go_wp2_with fail
          refine (lex_three t ht6 hg5).mono ?_
          rintro e w6 ⟨v9, v10, rfl, htwo, hb6⟩
          have hbw6 : Below w.heap.size w w6 := below_grow hbw5 hbw5.size hb6
          rcases htwo with ⟨k1, hl, _⟩ | ⟨ts3, g3, cap3, hl, hpos3, rfl, rfl, _, hgs3, hc3⟩
          · exfalso; rw [Hlx.out] at hl; cases hl
          · have he3 : ts3 = ts2 := by rw [Hlx.out] at hl; injection hl with hl; exact hl.symm
            subst he3
            have hlen3 : ts3.length = ts.length := by have := congrArg List.length Hsame.out; simpa using this
            have hcs : ∀ j (hj : j < ts.length), ∃ kd tx : ByteArray, w6.cell? ⟨g, j * 3, none⟩ = some (.string kd) ∧ w6.cell? ⟨g, j * 3 + 1, none⟩ = some (.string tx) ∧ w6.cell? ⟨g3, j * 3, none⟩ = some (.string kd) ∧ w6.cell? ⟨g3, j * 3 + 1, none⟩ = some (.string tx) := by
              intro j hj
              have hj2 : j < ts3.length := by omega
              have e : kt ts3[j] = kt ts[j] := by
                have := congrArg (fun l => l[j]?) Hsame.out
                simpa [hj, hj2] using this
              have ek : ts3[j].kind = ts[j].kind := congrArg Prod.fst e
              have et : ts3[j].text = ts[j].text := congrArg Prod.snd e
              have hb56 : Below wr.heap.size wr w6 := below_grow hb5 hb5.size hb6
              have hgr : g < wr.heap.size := HTw.out.lt
              refine ⟨toBA ts[j].kind, toBA ts[j].text, (hb56.cell (p := ⟨g, j * 3, none⟩) hgr).trans (HTw.out.cell j hj).1, (hb56.cell (p := ⟨g, j * 3 + 1, none⟩) hgr).trans (HTw.out.cell j hj).2.1, ?_, ?_⟩
              · rw [← ek]; exact (hc3 j hj2).1
              · rw [← et]; exact (hc3 j hj2).2.1
            have Hcs := Lib.hid hcs
            rw [hlen3]
            clear hcs hl hc3 hpos3 hlen3 hb5 hb6 hg5 hbw5 hgw hbw hsw
            go_wp2_with fail
            go_loopw [10] (fun i wr => ∃ j : Nat, j ≤ ts.length ∧ i = .int .i64 j ∧ Below w6.heap.size w6 wr) (fun i _ => ts.length - (intOf i).toNat)
            case atStart => exact ⟨0, by omega, rfl, Below.refl _ _⟩
            case round =>
              rename_i wz _ _ _
              obtain ⟨j, hj, rfl, hbr⟩ := hrel
              by_cases hjl : j < ts.length
              · have t3 : decide ((j : Int) < (ts.length : Int)) = true := by simp; omega
                obtain ⟨kd, tx, q1, q2, q3, q4⟩ := Hcs.out j hjl
                have hgs5 : g < w6.heap.size := World.block_lt_of_cell? w6 _ q1
                have hgs6 : g3 < w6.heap.size := World.block_lt_of_cell? w6 _ q3
                have r1 := (hbr.cell (p := ⟨g, j * 3, none⟩) hgs5).trans q1
                have r2 := (hbr.cell (p := ⟨g, j * 3 + 1, none⟩) hgs5).trans q2
                have r3 := (hbr.cell (p := ⟨g3, j * 3, none⟩) hgs6).trans q3
                have r4 := (hbr.cell (p := ⟨g3, j * 3 + 1, none⟩) hgs6).trans q4
                clear q1 q2 q3 q4 hgs5 hgs6
                go_upto_region 28 with fail
                go_quiet (fail)
                go_wp2_with fail
                go_roundw
                case rel => exact ⟨j + 1, by omega, by go_num, below_drewN hbr _⟩
                case measure => simp [intOf]; omega
              · have t3 : decide ((j : Int) < (ts.length : Int)) = false := by simp; omega
                go_wp2_with fail
                refine bodyPost_ret (results_tmp rfl _ _ _) rfl ?_
                exact ⟨rfl, below_grow hbw6 hbw6.size hbr⟩

/-- LexTwice, of whatever text. -/
theorem lexTwice_any {w : World} (s : ByteArray) (hg : GlobE w.heap.size w) (hsh : ∃ te pe, w.cell? ⟨2, 0, none⟩ = some (.iface te pe)) :
    Calls Tryd.prog 7 #[.string s] w fun e w' => e = .returned (.bool true) ∧ Below w.heap.size w w' := by
  by_cases hs : 3000 < s.size
  · exact lexTwice_long s hs hg
  · exact lexTwice_main s (by omega) hg hsh

end Go.Proofs.YtdoaeapahgmfoaaDoor
