/- lex.Text: the text of tokens, exactly, or an error. -/
import Derived.Test.YtdoaeapahgmfoaaGreatDoorY2
namespace Go.Proofs.YtdoaeapahgmfoaaGreatDoor
open Go.RowKit

theorem byteCells_snoc (l : List UInt8) (s : ByteArray) : Lib.byteCells l ++ Lib.strCells s = Lib.byteCells (l ++ s.data.toList) := by
  rw [Lib.strCells_eq, Lib.byteCells_append]
theorem byteCells_len (l : List UInt8) : (Lib.byteCells l).length = l.length := by simp [Lib.byteCells]
theorem writeStr_any (B b : Nat) (l : List UInt8) (s : ByteArray) (w : World) (h : Lib.IsBuilderF 77 5 B b (Lib.byteCells l) w) (hlen : l.length + s.size ≤ 1000000) (hBw : B ≤ w.heap.size) :
    Calls Tryz.prog 57 #[.pointer (some ⟨b, 0, none⟩), .string s] w fun e w' => e = .returned (.tuple #[.int .i64 s.size, .nilIface]) ∧ Lib.IsBuilderF 77 5 B b (Lib.byteCells (l ++ s.data.toList)) w' ∧ Below B w w' := by
  refine (writeString_any B b _ s w h (by rw [byteCells_len]; omega) hBw).mono ?_
  rintro e w' ⟨he, h2, h3⟩
  rw [byteCells_snoc] at h2
  exact ⟨he, .inr h2, h3⟩

/-- Tokens that a slice holds, by kind and text. -/
structure KtAt (w : World) (g : Nat) (ks : List (List UInt8 × List UInt8)) : Prop where
  pos : 0 < ks.length
  many : ks.length ≤ 600
  lt : g < w.heap.size
  short : ∀ t ∈ ks, t.2.length ≤ 3000
  cell : ∀ j (hj : j < ks.length), w.cell? ⟨g, j * 3, none⟩ = some (.string (toBA ks[j].1)) ∧ w.cell? ⟨g, j * 3 + 1, none⟩ = some (.string (toBA ks[j].2)) ∧ ∃ a : Int, w.cell? ⟨g, j * 3 + 2, none⟩ = some (.int .i64 a)

def textAns : Option (List UInt8) → TypeId → Value → Value
  | none, te, pe => .tuple #[.string ⟨#[]⟩, .iface te pe]
  | some l, _, _ => .tuple #[.string (toBA l), .nilIface]
def TextPost (w : World) (ks : List (List UInt8 × List UInt8)) (te : TypeId) (pe : Value) (e : Ending) (w' : World) : Prop := Below w.heap.size w w' ∧ e = .returned (textAns (progT ks) te pe)

theorem progL_cons (k x : List UInt8) (r : List (List UInt8 × List UInt8)) (d : Nat) (bg : Bool) (l : List UInt8) : progL ((k, x) :: r) d bg l =
    if k = kNewline then progL r d false (l ++ [10])
    else if k = kIndent then progL r (d + 1) bg l
    else if k = kDedent then (if d = 0 then none else progL r (d - 1) bg l)
    else if k = kEnd then (if 0 < r.length then none else progL r d bg l)
    else if oneOk k x = false then none
    else if 6000 < l.length then none
    else progL r d true (l ++ pieceL k x d bg) := rfl
theorem progT_none {ks : List (List UInt8 × List UInt8)} (h : progL ks 0 false [] = none) : progT ks = none := by unfold progT; rw [h]
theorem progT_no {ks : List (List UInt8 × List UInt8)} {l : List UInt8} (h : progL ks 0 false [] = some l) (hr : l.length ≤ 6000 → readsL l ks = false) : progT ks = none := by
  unfold progT; rw [h]
  simp only
  rw [if_neg]
  rintro ⟨h1, h2⟩
  rw [hr h1] at h2; cases h2
theorem progT_yes {ks : List (List UInt8 × List UInt8)} {l : List UInt8} (h : progL ks 0 false [] = some l) (h1 : l.length ≤ 6000) (hr : readsL l ks = true) : progT ks = some l := by
  unfold progT; rw [h]
  simp only
  rw [if_pos ⟨h1, hr⟩]
theorem reads_bad {l : List UInt8} {ks : List (List UInt8 × List UInt8)} {k : Nat} (h : lexL l = .error k) : readsL l ks = false := by unfold readsL; rw [h]
theorem reads_no {l : List UInt8} {ks : List (List UInt8 × List UInt8)} {us : List Tok} (h : lexL l = .ok us) (hn : us.map kt ≠ ks) : readsL l ks = false := by
  unfold readsL; rw [h]; simp only; rw [beq_eq_false_iff_ne]; exact hn
theorem reads_yes {l : List UInt8} {ks : List (List UInt8 × List UInt8)} {us : List Tok} (h : lexL l = .ok us) (hn : us.map kt = ks) : readsL l ks = true := by
  unfold readsL; rw [h]; simp only; rw [beq_iff_eq]; exact hn
theorem oneOk_size {k x : List UInt8} (h : oneOk k x = true) : (textS k x).length ≤ 6000 := by
  unfold oneOk at h; rw [Bool.and_eq_true] at h; simpa using h.1
theorem map_at {ks : List (List UInt8 × List UInt8)} {us : List Tok} (h : us.map kt = ks) (j : Nat) (h1 : j < us.length) (h2 : j < ks.length) : us[j].kind = ks[j].1 ∧ us[j].text = ks[j].2 := by
  subst h
  simp [kt]
theorem map_of {ks : List (List UInt8 × List UInt8)} {us : List Tok} (hl : us.length = ks.length) (h : ∀ j (h1 : j < us.length) (h2 : j < ks.length), us[j].kind = ks[j].1 ∧ us[j].text = ks[j].2) : us.map kt = ks := by
  refine List.ext_getElem (by simpa using hl) fun j h1 h2 => ?_
  have := h j (by simpa using h1) h2
  rw [List.getElem_map]
  exact Prod.ext this.1 this.2

set_option maxRecDepth 100000 in
set_option maxHeartbeats 20000000 in
theorem lexText_nil {w : World} (hg : GlobE w.heap.size w) (te : TypeId) (pe : Value) (hsh : w.cell? ⟨0, 0, none⟩ = some (.iface te pe)) :
    Calls Tryz.prog 25 #[.slice none 0 0] w (TextPost w [] te pe) := by
  have hno : progT [] = none := by kernel_rfl
  have Hno := Lib.hid hno; clear hno
  have hshl := World.block_lt_of_cell? w _ hsh
  go_enter Tryz.func25, Tryz.ntmps25
  go_wp2_with fail
  have hB0 : Lib.IsBuilderF 77 5 w.heap.size w.heap.size (Lib.byteCells []) (w.alloc (.cells #[.pointer none, .slice none 0 0] 77)) :=
    .inl ⟨Nat.le_refl _, .slice none 0 0, heap_alloc_new _ _, ⟨rfl, .inl ⟨rfl, rfl⟩⟩, by simp [Value.ownBlock]⟩
  have hbel : Below w.heap.size w (w.alloc (.cells #[.pointer none, .slice none 0 0] 77)) := (Below.refl _ _).alloc (Nat.le_refl _) _
  go_loopw [17] (fun i wr => i = .int .i64 0 ∧ wr = w.alloc (.cells #[.pointer none, .slice none 0 0] 77)) (fun _ _ => 0)
  case atStart => exact ⟨rfl, rfl⟩
  case round =>
    obtain ⟨rfl, rfl⟩ := hrel
    generalize w.alloc (.cells #[.pointer none, .slice none 0 0] 77) = wr at hB0 hbel ⊢
    go_wp2_with fail
    refine (Tryz.Builder_String_any_f w.heap.size w.heap.size [] wr hB0 hbel.size).mono ?_
    rintro e w4 ⟨rfl, hB4, hb4⟩
    have hb4' : Below w.heap.size w w4 := hbel.trans hb4
    have hg4 : GlobE w4.heap.size w4 := (hg.below hb4').mono hb4'.size
    go_wp2_with fail
    refine (lex_any ⟨#[]⟩ (by decide) hg4).mono ?_
    rintro e w5 ⟨hb5, h5⟩
    have hl : lexL (⟨#[]⟩ : ByteArray).data.toList = .ok [⟨kEnd, [], 0⟩] := by kernel_rfl
    rw [hl] at h5
    obtain ⟨vo, rfl, hown⟩ := h5
    obtain ⟨g, cap, rfl, _, _, hc⟩ := toks_row hown (by decide)
    have hb5' : Below w.heap.size w w5 := below_grow hb4' hb4'.size hb5
    have hs5 : w5.cell? ⟨0, 0, none⟩ = some (.iface te pe) := (hb5'.cell (p := ⟨0, 0, none⟩) hshl).trans hsh
    clear hl hown hc hg4 hb4 hbel hB0
    go_upto_region 31 with fail
    go_quiet (fail)
    go_wp2_with fail
    refine bodyPost_ret (results_tmp2 rfl _ _ _) rfl ?_
    exact ⟨m_drewN hb5' _, by rw [Hno.out]; rfl⟩

set_option maxRecDepth 100000 in
set_option maxHeartbeats 20000000 in
theorem lexText_exact {w : World} (ks : List (List UInt8 × List UInt8)) (g cap : Nat) (ht : KtAt w g ks) (hg : GlobE w.heap.size w) (te : TypeId) (pe : Value) (hsh : w.cell? ⟨0, 0, none⟩ = some (.iface te pe)) :
    Calls Tryz.prog 25 #[.slice (some ⟨g, 0, none⟩) ks.length cap] w (TextPost w ks te pe) := by
  have hpos := ht.pos
  have hmany := ht.many
  have hgl := ht.lt
  have hshl := World.block_lt_of_cell? w _ hsh
  go_enter Tryz.func25, Tryz.ntmps25
  go_wp2_with fail
  have hB0 : Lib.IsBuilderF 77 5 w.heap.size w.heap.size (Lib.byteCells []) (w.alloc (.cells #[.pointer none, .slice none 0 0] 77)) :=
    .inl ⟨Nat.le_refl _, .slice none 0 0, heap_alloc_new _ _, ⟨rfl, .inl ⟨rfl, rfl⟩⟩, by simp [Value.ownBlock]⟩
  go_loopw [5, 6, 17] (fun inn bg i wr => ∃ (j d : Nat) (bb : Bool) (l : List UInt8), j ≤ ks.length ∧ i = .int .i64 j ∧ inn = .int .i64 d ∧ d ≤ j ∧ bg = .bool bb ∧ l.length ≤ 95000 + j ∧
    Lib.IsBuilderF 77 5 w.heap.size w.heap.size (Lib.byteCells l) wr ∧ Below w.heap.size w wr ∧ progL ks 0 false [] = progL (ks.drop j) d bb l) (fun _ _ i _ => ks.length - (intOf i).toNat)
  case atStart => exact ⟨0, 0, false, [], by omega, rfl, rfl, by omega, rfl, by simp, hB0, (Below.refl _ _).alloc (Nat.le_refl _) _, rfl⟩
  case round =>
    obtain ⟨j, d, bb, l, hj, rfl, rfl, hd, rfl, hl, hB, hbel, hP⟩ := hrel
    have HP := Lib.hid hP
    clear hB0 hP
    by_cases hjl : j < ks.length
    · have t1 : decide ((j : Int) < (ks.length : Int)) = true := by simp; omega
      obtain ⟨k0, k1, pl, k2⟩ := ht.cell j hjl
      have k0 := (hbel.cell (p := ⟨g, j * 3, none⟩) hgl).trans k0
      have k1 := (hbel.cell (p := ⟨g, j * 3 + 1, none⟩) hgl).trans k1
      have k2 := (hbel.cell (p := ⟨g, j * 3 + 2, none⟩) hgl).trans k2
      have hxl : ks[j].2.length ≤ 3000 := ht.short _ (List.getElem_mem hjl)
      have he : ks.drop j = (ks[j].1, ks[j].2) :: ks.drop (j + 1) := List.drop_eq_getElem_cons hjl
      obtain ⟨kd, hkd⟩ : ∃ kd, kd = ks[j].1 := ⟨_, rfl⟩
      obtain ⟨tx, htx⟩ : ∃ tx, tx = ks[j].2 := ⟨_, rfl⟩
      rw [← hkd] at k0 he; rw [← htx] at k1 hxl he
      have He := Lib.hid he
      clear he hkd htx
      go_upto_region 6 with fail
      have hbA : Below wr.heap.size wr (wr.alloc (.cells #[.string (toBA kd), .string (toBA tx), .int .i64 pl] 104)) := (Below.refl _ _).alloc (Nat.le_refl _) _
      have a0 : (wr.alloc (.cells #[.string (toBA kd), .string (toBA tx), .int .i64 pl] 104)).cell? ⟨wr.heap.size, 0, none⟩ = some (.string (toBA kd)) := by simp
      have a1 : (wr.alloc (.cells #[.string (toBA kd), .string (toBA tx), .int .i64 pl] 104)).cell? ⟨wr.heap.size, 1, none⟩ = some (.string (toBA tx)) := by simp
      have a2 : (wr.alloc (.cells #[.string (toBA kd), .string (toBA tx), .int .i64 pl] 104)).cell? ⟨wr.heap.size, 2, none⟩ = some (.int .i64 pl) := by simp
      clear k0 k1 k2
      generalize wr.alloc (.cells #[.string (toBA kd), .string (toBA tx), .int .i64 pl] 104) = W at hbA a0 a1 a2 ⊢
      have hBW := builder_below hB hbA
      have hbW : Below w.heap.size w W := below_grow hbel hbel.size hbA
      have hWs : w.heap.size ≤ W.heap.size := hbW.size
      have hwr : w.heap.size ≤ wr.heap.size := hbel.size
      have hsW : W.cell? ⟨0, 0, none⟩ = some (.iface te pe) := (hbW.cell (p := ⟨0, 0, none⟩) hshl).trans hsh
      have hgW : GlobE W.heap.size W := (hg.below hbW).mono hWs
      clear hB hbA hbel
      by_cases c1 : kd = kNewline
      · subst c1
        have a0' : W.cell? ⟨wr.heap.size, 0, none⟩ = some (.string ⟨#[110, 101, 119, 108, 105, 110, 101]⟩) := a0
        clear a0
        go_wp2_with fail
        refine (writeStr_any _ _ l ⟨#[10]⟩ W hBW (by show l.length + 1 ≤ _; omega) hWs).mono ?_
        rintro e w4 ⟨rfl, hB4, hb4⟩
        have hbl4 : Below w.heap.size w w4 := hbW.trans hb4
        go_wp2_with fail
        go_roundw
        case rel => exact ⟨j + 1, d, false, _, by omega, by go_num, rfl, by omega, rfl, by rw [List.length_append]; show l.length + 1 ≤ _; omega, hB4, hbl4, by rw [HP.out, He.out, progL_cons, if_pos rfl]⟩
        case measure => simp [intOf]; omega
      have f1 : ((toBA kd).toList == [110, 101, 119, 108, 105, 110, 101]) = false := m_ne c1
      by_cases c2 : kd = kIndent
      · have hP2 : progL ks 0 false [] = progL (ks.drop (j + 1)) (d + 1) bb l := by rw [HP.out, He.out, progL_cons, if_neg c1, if_pos c2]
        have HP2 := Lib.hid hP2
        subst c2
        have a0' : W.cell? ⟨wr.heap.size, 0, none⟩ = some (.string ⟨#[105, 110, 100, 101, 110, 116]⟩) := a0
        clear f1 a0 hP2 c1
        have u1 : decide (((d : Int) + 1) < 0) = false := by simp; omega
        go_wp2_with fail
        go_roundw
        case rel => exact ⟨j + 1, d + 1, bb, l, by omega, by go_num, by go_num, by omega, rfl, by omega, hBW, hbW, HP2.out⟩
        case measure => simp [intOf]; omega
      have f2 : ((toBA kd).toList == [105, 110, 100, 101, 110, 116]) = false := m_ne c2
      by_cases c3 : kd = kDedent
      · have hP2 : progL ks 0 false [] = if d = 0 then none else progL (ks.drop (j + 1)) (d - 1) bb l := by rw [HP.out, He.out, progL_cons, if_neg c1, if_neg c2, if_pos c3]
        subst c3
        have a0' : W.cell? ⟨wr.heap.size, 0, none⟩ = some (.string ⟨#[100, 101, 100, 101, 110, 116]⟩) := a0
        clear f1 f2 a0 c1 c2
        by_cases hd0 : d = 0
        · rw [if_pos hd0] at hP2
          have hno := progT_none hP2
          have Hno := Lib.hid hno; clear hno
          clear hP2
          subst hd0
          go_upto_region 16 with fail
          go_quiet (fail)
          go_wp2_with fail
          refine bodyPost_ret (results_tmp2 rfl _ _ _) rfl ?_
          exact ⟨by first | exact m_drewN hbW _ | exact m_drewN (m_drewN hbW _) _, by rw [Hno.out]; rfl⟩
        · rw [if_neg hd0] at hP2
          obtain ⟨d1, hd1⟩ : ∃ d1, d = d1 + 1 := ⟨d - 1, by omega⟩
          subst hd1
          have HP2 := Lib.hid hP2; clear hP2
          have u1 : IntKind.i64.wrap (((d1 + 1 : Nat) : Int) - 1) = (d1 : Int) := by rw [show ((d1 + 1 : Nat) : Int) - 1 = (d1 : Int) by omega]; exact m_wrap d1 (by omega)
          have u2 : decide ((d1 : Int) < 0) = false := by simp
          go_wp2_with fail
          go_roundw
          case rel => exact ⟨j + 1, d1, bb, l, by omega, by go_num, rfl, by omega, rfl, by omega, hBW, hbW, HP2.out⟩
          case measure => simp [intOf]; omega
      have f3 : ((toBA kd).toList == [100, 101, 100, 101, 110, 116]) = false := m_ne c3
      by_cases c4 : kd = kEnd
      · have hP2 : progL ks 0 false [] = if 0 < (ks.drop (j + 1)).length then none else progL (ks.drop (j + 1)) d bb l := by rw [HP.out, He.out, progL_cons, if_neg c1, if_neg c2, if_neg c3, if_pos c4]
        rw [List.length_drop] at hP2
        subst c4
        have a0' : W.cell? ⟨wr.heap.size, 0, none⟩ = some (.string ⟨#[101, 110, 100]⟩) := a0
        clear f1 f2 f3 a0 c1 c2 c3
        by_cases hje : j + 1 < ks.length
        · have u1 : decide ((j : Int) + 1 < (ks.length : Int)) = true := by simp; omega
          rw [if_pos (by omega)] at hP2
          have hno := progT_none hP2
          have Hno := Lib.hid hno; clear hno
          clear hP2
          go_upto_region 19 with fail
          go_quiet (fail)
          go_wp2_with fail
          refine bodyPost_ret (results_tmp2 rfl _ _ _) rfl ?_
          exact ⟨by first | exact m_drewN hbW _ | exact m_drewN (m_drewN hbW _) _, by rw [Hno.out]; rfl⟩
        · have u1 : decide ((j : Int) + 1 < (ks.length : Int)) = false := by simp; omega
          rw [if_neg (by omega)] at hP2
          have HP2 := Lib.hid hP2; clear hP2
          go_wp2_with fail
          go_roundw
          case rel => exact ⟨j + 1, d, bb, l, by omega, by go_num, rfl, by omega, rfl, by omega, hBW, hbW, HP2.out⟩
          case measure => simp [intOf]; omega
      have f4 : ((toBA kd).toList == [101, 110, 100]) = false := m_ne c4
      have hP2 : progL ks 0 false [] = if oneOk kd tx = false then none else if 6000 < l.length then none else progL (ks.drop (j + 1)) d true (l ++ pieceL kd tx d bb) := by
        rw [HP.out, He.out, progL_cons, if_neg c1, if_neg c2, if_neg c3, if_neg c4]
      have HP2 := Lib.hid hP2; clear hP2
      go_wp2_with fail
      refine (text_any kd tx pl (by omega) hgW).mono ?_
      rintro e w4 ⟨rfl, hb4⟩
      have hb4' : Below w.heap.size w w4 := below_grow hbW hWs hb4
      have hB4 := builder_below hBW hb4
      have hw4 : w.heap.size ≤ w4.heap.size := hb4'.size
      have hs4 : w4.cell? ⟨0, 0, none⟩ = some (.iface te pe) := (hb4'.cell (p := ⟨0, 0, none⟩) hshl).trans hsh
      have hok : oneOk kd tx = true → (toBA (textS kd tx)).size ≤ 6000 := fun h => by have := oneOk_size h; show (textS kd tx).toArray.size ≤ _; simpa using this
      have HSd : Hid ((toBA (textS kd tx)).data.toList = textS kd tx) := Lib.hid rfl
      generalize toBA (textS kd tx) = S at hok HSd ⊢
      clear a0 a1 a2 hsW hgW hBW hb4 f1 f2 f3 f4 hxl c1 c2 c3 c4
      rcases hb : oneOk kd tx with _ | _
      · have hno := progT_none (by rw [HP2.out, hb]; rfl)
        have Hno := Lib.hid hno; clear hno
        clear hok
        go_upto_region 22 with fail
        go_quiet (fail)
        go_wp2_with fail
        refine bodyPost_ret (results_tmp2 rfl _ _ _) rfl ?_
        exact ⟨m_drewN hb4' _, by rw [Hno.out]; rfl⟩
      · have hS := hok hb
        have Hb := Lib.hid hb
        clear hok hb
        go_wp2_with fail
        refine (Tryz.Builder_Len_f w.heap.size w.heap.size _ w4 hB4).mono ?_
        rintro e w5 ⟨rfl, rfl⟩
        rw [byteCells_len]
        by_cases hlen : 6000 < l.length
        · have u1 : decide ((6000 : Int) < (l.length : Int)) = true := by simp; omega
          have hno := progT_none (by rw [HP2.out, Hb.out, if_neg (by decide), if_pos hlen])
          have Hno := Lib.hid hno; clear hno
          go_upto_region 22 with fail
          go_quiet (fail)
          go_wp2_with fail
          refine bodyPost_ret (results_tmp2 rfl _ _ _) rfl ?_
          exact ⟨m_drewN hb4' _, by rw [Hno.out]; rfl⟩
        · have u1 : decide ((6000 : Int) < (l.length : Int)) = false := by simp; omega
          have hP3 := HP2.out
          rw [Hb.out, if_neg (by decide), if_neg hlen] at hP3
          have HP3 := Lib.hid hP3; clear hP3
          rcases bb with _ | _
          · go_wp2_with fail
            refine (Tryz.strings_Repeat ⟨#[32, 32, 32, 32]⟩ d w5 (by omega) (by show 4 * d ≤ _; omega)).mono ?_
            rintro e w6 ⟨rfl, hb6⟩
            have hB6 := builder_below hB4 hb6
            have hb6' : Below w.heap.size w w6 := below_grow hb4' hw4 hb6
            obtain ⟨R, hR⟩ : ∃ R : ByteArray, R = ⟨(Lib.repeatL (⟨#[32, 32, 32, 32]⟩ : ByteArray).data.toList d).toArray⟩ := ⟨_, rfl⟩
            have hRs : R.size ≤ 80000 := by
              have h1 : R.size = R.data.toList.length := by simp
              have h2 := Lib.repeatL_length (⟨#[32, 32, 32, 32]⟩ : ByteArray).data.toList d
              rw [h1, hR]
              show (Lib.repeatL _ d).length ≤ _
              rw [h2]
              show d * 4 ≤ _
              omega
            have HRd : Hid (R.data.toList = Lib.repeatL [32, 32, 32, 32] d) := Lib.hid (by rw [hR])
            rw [← hR]
            clear hR
            go_wp2_with fail
            refine (writeStr_any _ _ l R w6 hB6 (by omega) hb6'.size).mono ?_
            rintro e w7 ⟨rfl, hB7, hb7⟩
            have hb7' : Below w.heap.size w w7 := hb6'.trans hb7
            have hRl : R.data.toList.length = R.size := by simp
            go_wp2_with fail
            refine (writeStr_any _ _ _ S w7 hB7 (by rw [List.length_append]; omega) hb7'.size).mono ?_
            rintro e w8 ⟨rfl, hB8, hb8⟩
            have hb8' : Below w.heap.size w w8 := hb7'.trans hb8
            have hSl : S.data.toList.length = S.size := by simp
            go_wp2_with fail
            go_roundw
            case rel =>
              refine ⟨j + 1, d, true, _, by omega, by go_num, rfl, by omega, rfl, by simp only [List.length_append]; omega, hB8, hb8', ?_⟩
              rw [HP3.out, HRd.out, HSd.out]
              simp [pieceL]
            case measure => simp [intOf]; omega
          · go_wp2_with fail
            refine (writeStr_any _ _ l ⟨#[32]⟩ w5 hB4 (by show l.length + 1 ≤ _; omega) hw4).mono ?_
            rintro e w7 ⟨rfl, hB7, hb7⟩
            have hb7' : Below w.heap.size w w7 := hb4'.trans hb7
            go_wp2_with fail
            refine (writeStr_any _ _ _ S w7 hB7 (by rw [List.length_append]; show l.length + 1 + S.size ≤ _; omega) hb7'.size).mono ?_
            rintro e w8 ⟨rfl, hB8, hb8⟩
            have hb8' : Below w.heap.size w w8 := hb7'.trans hb8
            have hSl : S.data.toList.length = S.size := by simp
            go_wp2_with fail
            go_roundw
            case rel =>
              refine ⟨j + 1, d, true, _, by omega, by go_num, rfl, by omega, rfl, by simp only [List.length_append]; show l.length + 1 + _ ≤ _; omega, hB8, hb8', ?_⟩
              rw [HP3.out, HSd.out]
              simp [pieceL]
            case measure => simp [intOf]; omega
    · have hje : j = ks.length := by omega
      subst hje
      have t1 : decide ((ks.length : Int) < (ks.length : Int)) = false := by simp
      have hP2 : progL ks 0 false [] = some l := by rw [HP.out, List.drop_of_length_le (Nat.le_refl _)]; rfl
      have HP2 := Lib.hid hP2; clear hP2
      go_wp2_with fail
      refine (Tryz.Builder_String_any_f w.heap.size w.heap.size l wr hB hbel.size).mono ?_
      rintro e w4 ⟨rfl, hB4, hb4⟩
      have hb4' : Below w.heap.size w w4 := hbel.trans hb4
      have hw4 : w.heap.size ≤ w4.heap.size := hb4'.size
      have hg4 : GlobE w4.heap.size w4 := (hg.below hb4').mono hw4
      obtain ⟨R, hR⟩ : ∃ R : ByteArray, R = ⟨l.toArray⟩ := ⟨_, rfl⟩
      have hRd : R.data.toList = l := by rw [hR]
      have hRl : R.size = l.length := by have h1 : R.size = R.data.toList.length := by simp
                                         rw [h1, hRd]
      have hRs : R.size ≤ 200000 := by omega
      rw [← hR]
      have HRd := Lib.hid hRd; have HRl := Lib.hid hRl
      clear hR hRd hB hRl
      go_wp2_with fail
      refine (lex_all R (by omega) hg4).mono ?_
      rintro e w5 ⟨v5, v6, rfl, hb5, h5⟩
      have hb5' : Below w.heap.size w w5 := below_grow hb4' hw4 hb5
      have hB5 := builder_below hB4 hb5
      have hs5 : w5.cell? ⟨0, 0, none⟩ = some (.iface te pe) := (hb5'.cell (p := ⟨0, 0, none⟩) hshl).trans hsh
      rw [HRd.out] at h5
      clear hg4 hbel hb4 hB4
      rcases h5 with ⟨h6, ⟨k, hlx, rfl, q, rfl⟩ | ⟨ts2, g2, cap2, hlx, hpos2, rfl, rfl, hgs, hgs2, hc2⟩⟩ | ⟨h6, rfl, te2, pe2, rfl⟩
      · have hno := progT_no HP2.out (fun _ => reads_bad hlx)
        have Hno := Lib.hid hno; clear hno
        clear hlx
        go_upto_region 31 with fail
        go_quiet (fail)
        go_wp2_with fail
        refine bodyPost_ret (results_tmp2 rfl _ _ _) rfl ?_
        exact ⟨m_drewN hb5' _, by rw [Hno.out]; rfl⟩
      · by_cases hlen : ts2.length = ks.length
        · rw [hlen]
          have hc : ∀ j (hj : j < ks.length), w5.cell? ⟨g, j * 3, none⟩ = some (.string (toBA ks[j].1)) ∧ w5.cell? ⟨g, j * 3 + 1, none⟩ = some (.string (toBA ks[j].2)) := fun j hj =>
            ⟨(hb5'.cell (p := ⟨g, j * 3, none⟩) hgl).trans (ht.cell j hj).1, (hb5'.cell (p := ⟨g, j * 3 + 1, none⟩) hgl).trans (ht.cell j hj).2.1⟩
          have Hc := Lib.hid hc; have Hc2 := Lib.hid hc2; have Hlx := Lib.hid hlx
          clear hc hc2 hlx
          go_wp2_with fail
          go_loopw [85] (fun i wr => ∃ j : Nat, j ≤ ks.length ∧ i = .int .i64 j ∧ (∀ i (h1 : i < ts2.length) (h2 : i < ks.length), i < j → ts2[i].kind = ks[i].1 ∧ ts2[i].text = ks[i].2) ∧ Below w5.heap.size w5 wr) (fun i _ => ks.length - (intOf i).toNat)
          case atStart => exact ⟨0, by omega, rfl, fun _ _ _ h => absurd h (by omega), Below.refl _ _⟩
          case round =>
            obtain ⟨j, hj, rfl, hsame, hbr⟩ := hrel
            have Hs := Lib.hid hsame; clear hsame
            have hgl5 : g < w5.heap.size := by have := hb5'.size; omega
            have hbr' : Below w.heap.size w wr := below_grow hb5' (by have := hb5'.size; omega) hbr
            by_cases hjl2 : j < ks.length
            · have t3 : decide ((j : Int) < (ks.length : Int)) = true := by simp; omega
              have hj2 : j < ts2.length := by omega
              obtain ⟨q0, q1⟩ := Hc.out j hjl2
              obtain ⟨r0, r1, r2⟩ := Hc2.out j hj2
              have q0 := (hbr.cell (p := ⟨g, j * 3, none⟩) hgl5).trans q0
              have q1 := (hbr.cell (p := ⟨g, j * 3 + 1, none⟩) hgl5).trans q1
              have r0 := (hbr.cell (p := ⟨g2, j * 3, none⟩) hgs2).trans r0
              have r1 := (hbr.cell (p := ⟨g2, j * 3 + 1, none⟩) hgs2).trans r1
              have r2 := (hbr.cell (p := ⟨g2, j * 3 + 2, none⟩) hgs2).trans r2
              have hstep : ts2[j].kind = ks[j].1 → ts2[j].text = ks[j].2 → ∀ i (h1 : i < ts2.length) (h2 : i < ks.length), i < j + 1 → ts2[i].kind = ks[i].1 ∧ ts2[i].text = ks[i].2 := by
                intro h1 h2 i a b c
                rcases Nat.lt_or_ge i j with h | h
                · exact Hs.out i a b h
                · have : i = j := by omega
                  subst this
                  exact ⟨h1, h2⟩
              have hdiff : ts2[j].kind ≠ ks[j].1 ∨ ts2[j].text ≠ ks[j].2 → progT ks = none := by
                intro h
                refine progT_no HP2.out (fun _ => reads_no Hlx.out ?_)
                intro e
                have := map_at e j hj2 hjl2
                rcases h with h | h
                · exact h this.1
                · exact h this.2
              obtain ⟨k1, hk1⟩ : ∃ k1, k1 = ks[j].1 := ⟨_, rfl⟩
              obtain ⟨x1, hx1⟩ : ∃ x1, x1 = ks[j].2 := ⟨_, rfl⟩
              obtain ⟨k2, hk2⟩ : ∃ k2, k2 = ts2[j].kind := ⟨_, rfl⟩
              obtain ⟨x2, hx2⟩ : ∃ x2, x2 = ts2[j].text := ⟨_, rfl⟩
              obtain ⟨p2, hp2⟩ : ∃ p2 : Int, p2 = (ts2[j].at_ : Int) := ⟨_, rfl⟩
              rw [← hk1, ← hk2, ← hx1, ← hx2] at hstep hdiff
              rw [← hk1] at q0; rw [← hx1] at q1; rw [← hk2] at r0; rw [← hx2] at r1; rw [← hp2] at r2
              have Hst := Lib.hid hstep; have Hdf := Lib.hid hdiff
              clear hk1 hk2 hx1 hx2 hp2 hstep hdiff
              have hsr : wr.cell? ⟨0, 0, none⟩ = some (.iface te pe) := (hbr'.cell (p := ⟨0, 0, none⟩) hshl).trans hsh
              have hgw : g < wr.heap.size := by have := hbr.size; omega
              have hg2w : g2 < wr.heap.size := by have := hbr.size; omega
              have hshw : 0 < wr.heap.size := World.block_lt_of_cell? wr _ hsr
              go_upto_region 35 with fail
              have hbA : Below wr.heap.size wr (wr.alloc (.cells #[.string (toBA k2), .string (toBA x2), .int .i64 p2] 104)) := (Below.refl _ _).alloc (Nat.le_refl _) _
              have a0 : (wr.alloc (.cells #[.string (toBA k2), .string (toBA x2), .int .i64 p2] 104)).cell? ⟨wr.heap.size, 0, none⟩ = some (.string (toBA k2)) := by simp
              have a1 : (wr.alloc (.cells #[.string (toBA k2), .string (toBA x2), .int .i64 p2] 104)).cell? ⟨wr.heap.size, 1, none⟩ = some (.string (toBA x2)) := by simp
              clear r0 r1 r2
              generalize wr.alloc (.cells #[.string (toBA k2), .string (toBA x2), .int .i64 p2] 104) = W at hbA a0 a1 ⊢
              have b0 := (hbA.cell (p := ⟨g, j * 3, none⟩) hgw).trans q0
              have b1 := (hbA.cell (p := ⟨g, j * 3 + 1, none⟩) hgw).trans q1
              have hsW := (hbA.cell (p := ⟨0, 0, none⟩) hshw).trans hsr
              have hbW : Below w.heap.size w W := below_grow hbr' (hbr'.size) hbA
              have hbW5 : Below w5.heap.size w5 W := below_grow hbr hbr.size hbA
              clear q0 q1 hsr hbr hbr' hbA hgw hg2w hshw
              by_cases e1 : k2 = k1
              · subst e1
                by_cases e2 : x2 = x1
                · subst e2
                  go_quiet (fail)
                  go_wp2_with fail
                  go_roundw
                  case rel => exact ⟨j + 1, by omega, by go_num, Hst.out rfl rfl, m_drewN hbW5 _⟩
                  case measure => simp [intOf]; omega
                · have f2 : ((toBA x2).toList == (toBA x1).toList) = false := by rw [m_toList, m_toList]; simp [e2]
                  have hno := Hdf.out (.inr e2)
                  have Hno := Lib.hid hno; clear hno
                  go_quiet (fail)
                  go_upto_region 36 with fail
                  go_quiet (fail)
                  go_wp2_with fail
                  refine bodyPost_ret (results_tmp2 rfl _ _ _) rfl ?_
                  exact ⟨by first | exact m_drewN hbW _ | exact m_drewN (m_drewN hbW _) _, by rw [Hno.out]; rfl⟩
              · have f1 : ((toBA k2).toList == (toBA k1).toList) = false := by rw [m_toList, m_toList]; simp [e1]
                have hno := Hdf.out (.inl e1)
                have Hno := Lib.hid hno; clear hno
                go_quiet (fail)
                go_upto_region 36 with fail
                go_quiet (fail)
                go_wp2_with fail
                refine bodyPost_ret (results_tmp2 rfl _ _ _) rfl ?_
                exact ⟨by first | exact m_drewN hbW _ | exact m_drewN (m_drewN hbW _) _, by rw [Hno.out]; rfl⟩
            · have hje : j = ks.length := by omega
              subst hje
              have t3 : decide ((ks.length : Int) < (ks.length : Int)) = false := by simp
              have hyes : progT ks = some l := by
                refine progT_yes HP2.out (by rw [← HRl.out]; exact h6) (reads_yes Hlx.out (map_of hlen fun i a b => Hs.out i a b b))
              have Hyes := Lib.hid hyes; clear hyes
              have hBr := builder_below hB5 hbr
              go_wp2_with fail
              refine (Tryz.Builder_String_any_f w.heap.size w.heap.size l wr hBr hbr'.size).mono ?_
              rintro e w9 ⟨rfl, hB9, hb9⟩
              go_wp2_with fail
              refine bodyPost_ret (results_tmp2 rfl _ _ _) rfl ?_
              exact ⟨hbr'.trans hb9, by rw [Hyes.out]; rfl⟩
        · have u1 : (((ts2.length : Int)) != (ks.length : Int)) = true := by rw [bne_iff_ne]; omega
          have hno := progT_no HP2.out (fun _ => reads_no hlx (fun e => hlen (by rw [← e]; simp)))
          have Hno := Lib.hid hno; clear hno
          clear hlx
          go_upto_region 31 with fail
          go_quiet (fail)
          go_wp2_with fail
          refine bodyPost_ret (results_tmp2 rfl _ _ _) rfl ?_
          exact ⟨m_drewN hb5' _, by rw [Hno.out]; rfl⟩
      · have hno := progT_no HP2.out (fun h => absurd h (by rw [← HRl.out]; omega))
        have Hno := Lib.hid hno; clear hno
        go_upto_region 31 with fail
        go_quiet (fail)
        go_wp2_with fail
        refine bodyPost_ret (results_tmp2 rfl _ _ _) rfl ?_
        exact ⟨m_drewN hb5' _, by rw [Hno.out]; rfl⟩

end Go.Proofs.YtdoaeapahgmfoaaGreatDoor
