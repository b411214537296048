/- lex.Text: the text of tokens, or an error; where there is a text, Lex of it has the same tokens. -/
import Derived.Test.YtdoaeapahgmfoaaDoorV3
namespace Go.Proofs.YtdoaeapahgmfoaaDoor
open Go.RowKit

theorem byteCells_snoc (l : List UInt8) (s : ByteArray) : Lib.byteCells l ++ Lib.strCells s = Lib.byteCells (l ++ s.data.toList) := by
  rw [Lib.strCells_eq, Lib.byteCells_append]
theorem byteCells_len (l : List UInt8) : (Lib.byteCells l).length = l.length := by simp [Lib.byteCells]
theorem writeStr_any (B b : Nat) (l : List UInt8) (s : ByteArray) (w : World) (h : Lib.IsBuilderF 65 5 B b (Lib.byteCells l) w) (hlen : l.length + s.size ≤ 1000000) (hBw : B ≤ w.heap.size) :
    Calls Tryd.prog 23 #[.pointer (some ⟨b, 0, none⟩), .string s] w fun e w' => e = .returned (.tuple #[.int .i64 s.size, .nilIface]) ∧ Lib.IsBuilderF 65 5 B b (Lib.byteCells (l ++ s.data.toList)) w' ∧ Below B w w' := by
  refine (writeString_any B b _ s w h (by rw [byteCells_len]; omega) hBw).mono ?_
  rintro e w' ⟨he, h2, h3⟩
  rw [byteCells_snoc] at h2
  exact ⟨he, .inr h2, h3⟩

/-- What is told of tokens that a slice holds. -/
structure ToksAt (w : World) (g : Nat) (ts : List Tok) : Prop where
  pos : 0 < ts.length
  many : ts.length ≤ 20000
  lt : g < w.heap.size
  short : ∀ t ∈ ts, t.text.length ≤ 6000
  cell : ∀ j (hj : j < ts.length), w.cell? ⟨g, j * 3, none⟩ = some (.string (toBA ts[j].kind)) ∧ w.cell? ⟨g, j * 3 + 1, none⟩ = some (.string (toBA ts[j].text)) ∧ w.cell? ⟨g, j * 3 + 2, none⟩ = some (.int .i64 (ts[j].at_ : Int))


set_option maxRecDepth 100000 in
set_option maxHeartbeats 20000000 in
theorem lexText_any {w : World} (ts : List Tok) (g cap : Nat) (ht : ToksAt w g ts) (hg : GlobE w.heap.size w) (hsh : ∃ te pe, w.cell? ⟨2, 0, none⟩ = some (.iface te pe)) :
    Calls Tryd.prog 16 #[.slice (some ⟨g, 0, none⟩) ts.length cap] w fun e w' => Below w.heap.size w w' ∧
      ((∃ te pe, e = .returned (.tuple #[.string ⟨#[]⟩, .iface te pe])) ∨ ∃ (t : ByteArray) (ts2 : List Tok), e = .returned (.tuple #[.string t, .nilIface]) ∧ t.size ≤ 6000 ∧ lexL t.data.toList = .ok ts2 ∧ ts2.map kt = ts.map kt) := by
  obtain ⟨te, pe, hsh⟩ := hsh
  have hpos := ht.pos
  have hmany := ht.many
  have hgl := ht.lt
  have hshl := World.block_lt_of_cell? w _ hsh
  go_enter Tryd.func16, Tryd.ntmps16
  go_wp2_with fail
  have hB0 : Lib.IsBuilderF 65 5 w.heap.size w.heap.size (Lib.byteCells []) (w.alloc (.cells #[.pointer none, .slice none 0 0] 65)) :=
    .inl ⟨Nat.le_refl _, .slice none 0 0, heap_alloc_new _ _, ⟨rfl, .inl ⟨rfl, rfl⟩⟩, by simp [Value.ownBlock]⟩
  go_loopw [5, 6, 17] (fun inn bg i wr => ∃ (j d : Nat) (bb : Bool) (l : List UInt8), j ≤ ts.length ∧ i = .int .i64 j ∧ inn = .int .i64 d ∧ d ≤ j ∧ bg = .bool bb ∧ l.length ≤ 95000 + j ∧
    Lib.IsBuilderF 65 5 w.heap.size w.heap.size (Lib.byteCells l) wr ∧ Below w.heap.size w wr) (fun _ _ i _ => ts.length - (intOf i).toNat)
  case atStart => exact ⟨0, 0, false, [], by omega, rfl, rfl, by omega, rfl, by simp, hB0, (Below.refl _ _).alloc (Nat.le_refl _) _⟩
  case round =>
    obtain ⟨j, d, bb, l, hj, rfl, rfl, hd, rfl, hl, hB, hbel⟩ := hrel
    clear hB0
    by_cases hjl : j < ts.length
    · have t1 : decide ((j : Int) < (ts.length : Int)) = true := by simp; omega
      obtain ⟨k0, k1, k2⟩ := ht.cell j hjl
      have k0 := (hbel.cell (p := ⟨g, j * 3, none⟩) hgl).trans k0
      have k1 := (hbel.cell (p := ⟨g, j * 3 + 1, none⟩) hgl).trans k1
      have k2 := (hbel.cell (p := ⟨g, j * 3 + 2, none⟩) hgl).trans k2
      go_upto_region 6 with fail
      have hbA : Below wr.heap.size wr (wr.alloc (.cells #[.string (toBA ts[j].kind), .string (toBA ts[j].text), .int .i64 (ts[j].at_ : Int)] 42)) := (Below.refl _ _).alloc (Nat.le_refl _) _
      have a0 : (wr.alloc (.cells #[.string (toBA ts[j].kind), .string (toBA ts[j].text), .int .i64 (ts[j].at_ : Int)] 42)).cell? ⟨wr.heap.size, 0, none⟩ = some (.string (toBA ts[j].kind)) := by simp
      have a1 : (wr.alloc (.cells #[.string (toBA ts[j].kind), .string (toBA ts[j].text), .int .i64 (ts[j].at_ : Int)] 42)).cell? ⟨wr.heap.size, 1, none⟩ = some (.string (toBA ts[j].text)) := by simp
      have a2 : (wr.alloc (.cells #[.string (toBA ts[j].kind), .string (toBA ts[j].text), .int .i64 (ts[j].at_ : Int)] 42)).cell? ⟨wr.heap.size, 2, none⟩ = some (.int .i64 (ts[j].at_ : Int)) := by simp
      have hxl : (toBA ts[j].text).size ≤ 6000 := ht.short _ (List.getElem_mem hjl)
      clear k0 k1 k2
      generalize wr.alloc (.cells #[.string (toBA ts[j].kind), .string (toBA ts[j].text), .int .i64 (ts[j].at_ : Int)] 42) = W at hbA a0 a1 a2 ⊢
      have hBW := builder_below hB hbA
      have hbW : Below w.heap.size w W := below_grow hbel hbel.size hbA
      have hWs : w.heap.size ≤ W.heap.size := hbW.size
      have hwr : w.heap.size ≤ wr.heap.size := hbel.size
      have hsW : W.cell? ⟨2, 0, none⟩ = some (.iface te pe) := (hbW.cell (p := ⟨2, 0, none⟩) hshl).trans hsh
      have hgW : GlobE W.heap.size W := (hg.below hbW).mono hWs
      obtain ⟨kd, hkd⟩ : ∃ kd, kd = ts[j].kind := ⟨_, rfl⟩
      obtain ⟨tx, htx⟩ : ∃ tx, tx = toBA ts[j].text := ⟨_, rfl⟩
      obtain ⟨pl, hpl⟩ : ∃ pl : Int, pl = (ts[j].at_ : Int) := ⟨_, rfl⟩
      rw [← hkd, ← htx, ← hpl]
      rw [← hkd] at a0; rw [← htx] at a1 hxl; rw [← hpl] at a2
      clear hkd htx hpl hB hbA hbel
      by_cases c1 : kd = kNewline
      · subst c1
        have a0' : W.cell? ⟨wr.heap.size, 0, none⟩ = some (.string ⟨#[110, 101, 119, 108, 105, 110, 101]⟩) := a0
        clear a0
        go_wp2_with fail
        refine (writeStr_any _ _ l ⟨#[10]⟩ W hBW (by show l.length + 1 ≤ _; omega) hWs).mono ?_
        rintro e w4 ⟨rfl, hB4, hb4⟩
        have hbl4 : Below w.heap.size w w4 := hbW.trans hb4
        go_wp2_with fail
        go_roundw
        case rel => exact ⟨j + 1, d, false, _, by omega, by go_num, rfl, by omega, rfl, by rw [List.length_append]; show l.length + 1 ≤ _; omega, hB4, hbl4⟩
        case measure => simp [intOf]; omega
      have f1 : ((toBA kd).toList == [110, 101, 119, 108, 105, 110, 101]) = false := toBA_ne c1
      by_cases c2 : kd = kIndent
      · subst c2
        have a0' : W.cell? ⟨wr.heap.size, 0, none⟩ = some (.string ⟨#[105, 110, 100, 101, 110, 116]⟩) := a0
        clear f1 a0
        have u1 : decide (((d : Int) + 1) < 0) = false := by simp; omega
        go_wp2_with fail
        go_roundw
        case rel => exact ⟨j + 1, d + 1, bb, l, by omega, by go_num, by go_num, by omega, rfl, by omega, hBW, hbW⟩
        case measure => simp [intOf]; omega
      have f2 : ((toBA kd).toList == [105, 110, 100, 101, 110, 116]) = false := toBA_ne c2
      by_cases c3 : kd = kDedent
      · subst c3
        have a0' : W.cell? ⟨wr.heap.size, 0, none⟩ = some (.string ⟨#[100, 101, 100, 101, 110, 116]⟩) := a0
        clear f1 f2 a0
        by_cases hd0 : d = 0
        · subst hd0
          go_upto_region 16 with fail
          go_quiet (fail)
          go_wp2_with fail
          refine bodyPost_ret (results_tmp2 rfl _ _ _) rfl ?_
          exact ⟨by first | exact below_drewN hbW _ | exact below_drewN (below_drewN hbW _) _, .inl ⟨_, _, rfl⟩⟩
        · obtain ⟨d1, hd1⟩ : ∃ d1, d = d1 + 1 := ⟨d - 1, by omega⟩
          subst hd1
          have u1 : IntKind.i64.wrap (((d1 + 1 : Nat) : Int) - 1) = (d1 : Int) := by rw [show ((d1 + 1 : Nat) : Int) - 1 = (d1 : Int) by omega]; exact wrap_small d1 (by omega)
          have u2 : decide ((d1 : Int) < 0) = false := by simp
          go_wp2_with fail
          go_roundw
          case rel => exact ⟨j + 1, d1, bb, l, by omega, by go_num, rfl, by omega, rfl, by omega, hBW, hbW⟩
          case measure => simp [intOf]; omega
      have f3 : ((toBA kd).toList == [100, 101, 100, 101, 110, 116]) = false := toBA_ne c3
      by_cases c4 : kd = kEnd
      · subst c4
        have a0' : W.cell? ⟨wr.heap.size, 0, none⟩ = some (.string ⟨#[101, 110, 100]⟩) := a0
        clear f1 f2 f3 a0
        by_cases hje : j + 1 < ts.length
        · have u1 : decide ((j : Int) + 1 < (ts.length : Int)) = true := by simp; omega
          go_upto_region 19 with fail
          go_quiet (fail)
          go_wp2_with fail
          refine bodyPost_ret (results_tmp2 rfl _ _ _) rfl ?_
          exact ⟨by first | exact below_drewN hbW _ | exact below_drewN (below_drewN hbW _) _, .inl ⟨_, _, rfl⟩⟩
        · have u1 : decide ((j : Int) + 1 < (ts.length : Int)) = false := by simp; omega
          go_wp2_with fail
          go_roundw
          case rel => exact ⟨j + 1, d, bb, l, by omega, by go_num, rfl, by omega, rfl, by omega, hBW, hbW⟩
          case measure => simp [intOf]; omega
      have f4 : ((toBA kd).toList == [101, 110, 100]) = false := toBA_ne c4
      go_wp2_with fail
      refine (text_any (toBA kd) tx pl hxl hgW).mono ?_
      rintro e w4 ⟨S, b, rfl, hS6, hb4⟩
      have hb4' : Below w.heap.size w w4 := below_grow hbW hWs hb4
      have hB4 := builder_below hBW hb4
      have hw4 : w.heap.size ≤ w4.heap.size := hb4'.size
      have hs4 : w4.cell? ⟨2, 0, none⟩ = some (.iface te pe) := (hb4'.cell (p := ⟨2, 0, none⟩) hshl).trans hsh
      clear a0 a1 a2 hsW hgW hBW hb4 f1 f2 f3 f4 hxl
      rcases b with _ | _
      · clear hS6
        go_upto_region 22 with fail
        go_quiet (fail)
        go_wp2_with fail
        refine bodyPost_ret (results_tmp2 rfl _ _ _) rfl ?_
        exact ⟨below_drewN hb4' _, .inl ⟨_, _, rfl⟩⟩
      · have hS := hS6 rfl
        clear hS6
        go_wp2_with fail
        refine (Tryd.Builder_Len_f w.heap.size w.heap.size _ w4 hB4).mono ?_
        rintro e w5 ⟨rfl, rfl⟩
        rw [byteCells_len]
        by_cases hlen : 6000 < l.length
        · have u1 : decide ((6000 : Int) < (l.length : Int)) = true := by simp; omega
          go_upto_region 22 with fail
          go_quiet (fail)
          go_wp2_with fail
          refine bodyPost_ret (results_tmp2 rfl _ _ _) rfl ?_
          exact ⟨below_drewN hb4' _, .inl ⟨_, _, rfl⟩⟩
        · have u1 : decide ((6000 : Int) < (l.length : Int)) = false := by simp; omega
          rcases bb with _ | _
          · go_wp2_with fail
            refine (Tryd.strings_Repeat ⟨#[32, 32, 32, 32]⟩ d w5 (by omega) (by show 4 * d ≤ _; omega)).mono ?_
            rintro e w6 ⟨rfl, hb6⟩
            have hB6 := builder_below hB4 hb6
            have hb6' : Below w.heap.size w w6 := below_grow hb4' hw4 hb6
            obtain ⟨R, hR⟩ : ∃ R : ByteArray, R = ⟨(Lib.repeatL (⟨#[32, 32, 32, 32]⟩ : ByteArray).data.toList d).toArray⟩ := ⟨_, rfl⟩
            have hRs : R.size ≤ 80000 := by
              have h1 : R.size = R.data.toList.length := by simp
              have h2 := Lib.repeatL_length (⟨#[32, 32, 32, 32]⟩ : ByteArray).data.toList d
              rw [h1, hR]
              show (Lib.repeatL _ d).length ≤ _
              rw [h2]
              show d * 4 ≤ _
              omega
            rw [← hR]
            clear hR
            go_wp2_with fail
            refine (writeStr_any _ _ l R w6 hB6 (by omega) hb6'.size).mono ?_
            rintro e w7 ⟨rfl, hB7, hb7⟩
            have hb7' : Below w.heap.size w w7 := hb6'.trans hb7
            have hRl : R.data.toList.length = R.size := by simp
            go_wp2_with fail
            refine (writeStr_any _ _ _ S w7 hB7 (by rw [List.length_append]; omega) hb7'.size).mono ?_
            rintro e w8 ⟨rfl, hB8, hb8⟩
            have hb8' : Below w.heap.size w w8 := hb7'.trans hb8
            have hSl : S.data.toList.length = S.size := by simp
            go_wp2_with fail
            go_roundw
            case rel => exact ⟨j + 1, d, true, _, by omega, by go_num, rfl, by omega, rfl, by simp only [List.length_append]; omega, hB8, hb8'⟩
            case measure => simp [intOf]; omega
          · go_wp2_with fail
            refine (writeStr_any _ _ l ⟨#[32]⟩ w5 hB4 (by show l.length + 1 ≤ _; omega) hw4).mono ?_
            rintro e w7 ⟨rfl, hB7, hb7⟩
            have hb7' : Below w.heap.size w w7 := hb4'.trans hb7
            go_wp2_with fail
            refine (writeStr_any _ _ _ S w7 hB7 (by rw [List.length_append]; show l.length + 1 + S.size ≤ _; omega) hb7'.size).mono ?_
            rintro e w8 ⟨rfl, hB8, hb8⟩
            have hb8' : Below w.heap.size w w8 := hb7'.trans hb8
            have hSl : S.data.toList.length = S.size := by simp
            go_wp2_with fail
            go_roundw
            case rel => exact ⟨j + 1, d, true, _, by omega, by go_num, rfl, by omega, rfl, by simp only [List.length_append]; show l.length + 1 + _ ≤ _; omega, hB8, hb8'⟩
            case measure => simp [intOf]; omega
    · have hje : j = ts.length := by omega
      subst hje
      have t1 : decide ((ts.length : Int) < (ts.length : Int)) = false := by simp
      go_wp2_with fail
      refine (Tryd.Builder_String_any_f w.heap.size w.heap.size l wr hB hbel.size).mono ?_
      rintro e w4 ⟨rfl, hB4, hb4⟩
      have hb4' : Below w.heap.size w w4 := hbel.trans hb4
      have hw4 : w.heap.size ≤ w4.heap.size := hb4'.size
      have hg4 : GlobE w4.heap.size w4 := (hg.below hb4').mono hw4
      obtain ⟨R, hR⟩ : ∃ R : ByteArray, R = ⟨l.toArray⟩ := ⟨_, rfl⟩
      have hRd : R.data.toList = l := by rw [hR]
      have hRs : R.size ≤ 200000 := by have h1 : R.size = R.data.toList.length := by simp
                                       rw [h1, hRd]; omega
      rw [← hR]
      have HRd := Lib.hid hRd
      clear hR hRd hB hl
      go_wp2_with fail
      refine (lex_all R hRs hg4).mono ?_
      rintro e w5 ⟨v5, v6, rfl, hb5, h5⟩
      have hb5' : Below w.heap.size w w5 := below_grow hb4' hw4 hb5
      have hB5 := builder_below hB4 hb5
      have hs5 : w5.cell? ⟨2, 0, none⟩ = some (.iface te pe) := (hb5'.cell (p := ⟨2, 0, none⟩) hshl).trans hsh
      clear hg4 hbel hb4 hB4
      rcases h5 with ⟨h6, ⟨k, hlx, rfl, q, rfl⟩ | ⟨ts2, g2, cap2, hlx, hpos2, rfl, rfl, hgs, hgs2, hc2⟩⟩ | ⟨h6, rfl, te2, pe2, rfl⟩
      · go_upto_region 31 with fail
        go_quiet (fail)
        go_wp2_with fail
        refine bodyPost_ret (results_tmp2 rfl _ _ _) rfl ?_
        exact ⟨below_drewN hb5' _, .inl ⟨_, _, rfl⟩⟩
      · by_cases hlen : ts2.length = ts.length
        · rw [hlen]
          have hc : ∀ j (hj : j < ts.length), w5.cell? ⟨g, j * 3, none⟩ = some (.string (toBA ts[j].kind)) ∧ w5.cell? ⟨g, j * 3 + 1, none⟩ = some (.string (toBA ts[j].text)) := fun j hj =>
            ⟨(hb5'.cell (p := ⟨g, j * 3, none⟩) hgl).trans (ht.cell j hj).1, (hb5'.cell (p := ⟨g, j * 3 + 1, none⟩) hgl).trans (ht.cell j hj).2.1⟩
          have Hc := Lib.hid hc; have Hc2 := Lib.hid hc2; have Hlx := Lib.hid hlx
          clear hc hc2 hlx
          go_wp2_with fail
          go_loopw [85] (fun i wr => ∃ j : Nat, j ≤ ts.length ∧ i = .int .i64 j ∧ (ts2.take j).map kt = (ts.take j).map kt ∧ Below w5.heap.size w5 wr) (fun i _ => ts.length - (intOf i).toNat)
          case atStart => exact ⟨0, by omega, rfl, rfl, Below.refl _ _⟩
          case round =>
            obtain ⟨j, hj, rfl, hsame, hbr⟩ := hrel
            have Hs := Lib.hid hsame; clear hsame
            have hgl5 : g < w5.heap.size := by have := hb5'.size; omega
            have hbr' : Below w.heap.size w wr := below_grow hb5' (by have := hb5'.size; omega) hbr
            by_cases hjl2 : j < ts.length
            · have t3 : decide ((j : Int) < (ts.length : Int)) = true := by simp; omega
              have hj2 : j < ts2.length := by omega
              obtain ⟨q0, q1⟩ := Hc.out j hjl2
              obtain ⟨r0, r1, r2⟩ := Hc2.out j hj2
              have q0 := (hbr.cell (p := ⟨g, j * 3, none⟩) hgl5).trans q0
              have q1 := (hbr.cell (p := ⟨g, j * 3 + 1, none⟩) hgl5).trans q1
              have r0 := (hbr.cell (p := ⟨g2, j * 3, none⟩) hgs2).trans r0
              have r1 := (hbr.cell (p := ⟨g2, j * 3 + 1, none⟩) hgs2).trans r1
              have r2 := (hbr.cell (p := ⟨g2, j * 3 + 2, none⟩) hgs2).trans r2
              have hstep : ts2[j].kind = ts[j].kind → ts2[j].text = ts[j].text → (ts2.take (j + 1)).map kt = (ts.take (j + 1)).map kt := by
                intro h1 h2
                rw [List.take_succ_eq_append_getElem hj2, List.take_succ_eq_append_getElem hjl2, List.map_append, List.map_append, Hs.out]
                simp [kt, h1, h2]
              obtain ⟨k1, hk1⟩ : ∃ k1, k1 = ts[j].kind := ⟨_, rfl⟩
              obtain ⟨x1, hx1⟩ : ∃ x1, x1 = ts[j].text := ⟨_, rfl⟩
              obtain ⟨k2, hk2⟩ : ∃ k2, k2 = ts2[j].kind := ⟨_, rfl⟩
              obtain ⟨x2, hx2⟩ : ∃ x2, x2 = ts2[j].text := ⟨_, rfl⟩
              obtain ⟨p2, hp2⟩ : ∃ p2 : Int, p2 = (ts2[j].at_ : Int) := ⟨_, rfl⟩
              rw [← hk1, ← hk2, ← hx1, ← hx2] at hstep
              rw [← hk1] at q0; rw [← hx1] at q1; rw [← hk2] at r0; rw [← hx2] at r1; rw [← hp2] at r2
              have Hst := Lib.hid hstep
              clear hk1 hk2 hx1 hx2 hp2 hstep
              have hsr : wr.cell? ⟨2, 0, none⟩ = some (.iface te pe) := (hbr'.cell (p := ⟨2, 0, none⟩) hshl).trans hsh
              have hgw : g < wr.heap.size := by have := hbr.size; omega
              have hg2w : g2 < wr.heap.size := by have := hbr.size; omega
              have hshw : 2 < wr.heap.size := World.block_lt_of_cell? wr _ hsr
              go_upto_region 35 with fail
              have hbA : Below wr.heap.size wr (wr.alloc (.cells #[.string (toBA k2), .string (toBA x2), .int .i64 p2] 42)) := (Below.refl _ _).alloc (Nat.le_refl _) _
              have a0 : (wr.alloc (.cells #[.string (toBA k2), .string (toBA x2), .int .i64 p2] 42)).cell? ⟨wr.heap.size, 0, none⟩ = some (.string (toBA k2)) := by simp
              have a1 : (wr.alloc (.cells #[.string (toBA k2), .string (toBA x2), .int .i64 p2] 42)).cell? ⟨wr.heap.size, 1, none⟩ = some (.string (toBA x2)) := by simp
              clear r0 r1 r2
              generalize wr.alloc (.cells #[.string (toBA k2), .string (toBA x2), .int .i64 p2] 42) = W at hbA a0 a1 ⊢
              have b0 := (hbA.cell (p := ⟨g, j * 3, none⟩) hgw).trans q0
              have b1 := (hbA.cell (p := ⟨g, j * 3 + 1, none⟩) hgw).trans q1
              have hsW := (hbA.cell (p := ⟨2, 0, none⟩) hshw).trans hsr
              have hbW : Below w.heap.size w W := below_grow hbr' (hbr'.size) hbA
              have hbW5 : Below w5.heap.size w5 W := below_grow hbr hbr.size hbA
              clear q0 q1 hsr hbr hbr' hbA hgw hg2w hshw
              by_cases e1 : k2 = k1
              · subst e1
                by_cases e2 : x2 = x1
                · subst e2
                  go_quiet (fail)
                  go_wp2_with fail
                  go_roundw
                  case rel => exact ⟨j + 1, by omega, by go_num, Hst.out rfl rfl, below_drewN hbW5 _⟩
                  case measure => simp [intOf]; omega
                · have f2 : ((toBA x2).toList == (toBA x1).toList) = false := by rw [toBA_toList, toBA_toList]; simp [e2]
                  go_quiet (fail)
                  go_upto_region 36 with fail
                  go_quiet (fail)
                  go_wp2_with fail
                  refine bodyPost_ret (results_tmp2 rfl _ _ _) rfl ?_
                  exact ⟨by first | exact below_drewN hbW _ | exact below_drewN (below_drewN hbW _) _, .inl ⟨_, _, rfl⟩⟩
              · have f1 : ((toBA k2).toList == (toBA k1).toList) = false := by rw [toBA_toList, toBA_toList]; simp [e1]
                go_quiet (fail)
                go_upto_region 36 with fail
                go_quiet (fail)
                go_wp2_with fail
                refine bodyPost_ret (results_tmp2 rfl _ _ _) rfl ?_
                exact ⟨by first | exact below_drewN hbW _ | exact below_drewN (below_drewN hbW _) _, .inl ⟨_, _, rfl⟩⟩
            · have hje : j = ts.length := by omega
              subst hje
              have t3 : decide ((ts.length : Int) < (ts.length : Int)) = false := by simp
              have hfin : ts2.map kt = ts.map kt := by
                have h := Hs.out
                rwa [List.take_of_length_le (by omega), List.take_of_length_le (by omega)] at h
              have Hfin := Lib.hid hfin; clear hfin
              have hBr := builder_below hB5 hbr
              go_wp2_with fail
              refine (Tryd.Builder_String_any_f w.heap.size w.heap.size l wr hBr hbr'.size).mono ?_
              rintro e w9 ⟨rfl, hB9, hb9⟩
              go_wp2_with fail
              refine bodyPost_ret (results_tmp2 rfl _ _ _) rfl ?_
              refine ⟨hbr'.trans hb9, .inr ⟨⟨l.toArray⟩, ts2, rfl, ?_, ?_, Hfin.out⟩⟩
              · have h1 : R.size = R.data.toList.length := by simp
                have h2 : (⟨l.toArray⟩ : ByteArray).size = l.length := by simp [ByteArray.size]
                rw [h2, ← HRd.out, ← h1]; exact h6
              · rw [HRd.out] at Hlx; exact Hlx.out
        · have u1 : (((ts2.length : Int)) != (ts.length : Int)) = true := by rw [bne_iff_ne]; omega
          go_upto_region 31 with fail
          go_quiet (fail)
          go_wp2_with fail
          refine bodyPost_ret (results_tmp2 rfl _ _ _) rfl ?_
          exact ⟨below_drewN hb5' _, .inl ⟨_, _, rfl⟩⟩
      · go_upto_region 31 with fail
        go_quiet (fail)
        go_wp2_with fail
        refine bodyPost_ret (results_tmp2 rfl _ _ _) rfl ?_
        exact ⟨below_drewN hb5' _, .inl ⟨_, _, rfl⟩⟩

end Go.Proofs.YtdoaeapahgmfoaaDoor
