/- Token.text: one token as a text, and whether it is one: exactly. -/
import Derived.Test.YtdoaeapahgmfoaaGreatDoorV2
import Derived.Test.YtdoaeapahgmfoaaGreatDoorY1
namespace Go.Proofs.YtdoaeapahgmfoaaGreatDoor
open Go.RowKit

theorem builder_below {T e : TypeId} {B b : Nat} {bs : List Value} {w w' : World} (h : Lib.IsBuilderF T e B b bs w) (hb : Below w.heap.size w w') : Lib.IsBuilderF T e B b bs w' := by
  have key : ∀ p, Lib.BuilderAtF T e B b p bs w → Lib.BuilderAtF T e B b p bs w' := by
    intro p h
    have hl := h.lt
    obtain ⟨hB, v, hbk, hown, hne⟩ := h
    refine ⟨hB, v, (hb.block b hl).trans hbk, ?_, hne⟩
    refine ⟨hown.1, ?_⟩
    rcases hown.2 with h2 | ⟨g, cap, cur, fz, rfl, h3, h4, h5⟩
    · exact .inl h2
    · refine .inr ⟨g, cap, cur, fz, rfl, h3, (hb.block g ?_).trans h4, h5⟩
      rcases Nat.lt_or_ge g w.heap.size with h' | h'
      · exact h'
      · rw [Array.getElem?_eq_none h'] at h4; cases h4
  exact h.elim (fun h => .inl (key _ h)) (fun h => .inr (key _ h))

/-- What Lex left, in both cases, with the places. -/
def LexThree (w w' : World) (l : List UInt8) (v e : Value) : Prop :=
  (∃ k, lexL l = .error k ∧ v = .slice none 0 0 ∧ ∃ p, e = .iface 107 p) ∨ ∃ ts g cap, lexL l = .ok ts ∧ 0 < ts.length ∧ v = .slice (some ⟨g, 0, none⟩) ts.length cap ∧ e = .nilIface ∧ w.heap.size ≤ g ∧ g < w'.heap.size ∧
    ∀ j (hj : j < ts.length), w'.cell? ⟨g, j * 3, none⟩ = some (.string (toBA ts[j].kind)) ∧ w'.cell? ⟨g, j * 3 + 1, none⟩ = some (.string (toBA ts[j].text)) ∧ w'.cell? ⟨g, j * 3 + 2, none⟩ = some (.int .i64 (ts[j].at_ : Int))
theorem lex_three {w : World} (s : ByteArray) (hs : s.size ≤ 6000) (hg : GlobE w.heap.size w) :
    Calls Tryz.prog 18 #[.string s] w fun e w' => ∃ v1 v2, e = .returned (.tuple #[v1, v2]) ∧ LexThree w w' s.data.toList v1 v2 ∧ Below w.heap.size w w' := by
  refine (lex_any s hs hg).mono ?_
  rintro e w' ⟨hb, h⟩
  rcases hl : lexL s.data.toList with k | ts
  · rw [hl] at h
    obtain ⟨N, te, pe, rfl, _⟩ := h
    exact ⟨_, _, rfl, .inl ⟨k, hl, rfl, _, rfl⟩, hb⟩
  · rw [hl] at h
    obtain ⟨vo, rfl, hown⟩ := h
    obtain ⟨g, cap, rfl, hg1, hg2, hc⟩ := toks_row hown (lexL_pos hl)
    exact ⟨_, _, rfl, .inr ⟨ts, g, cap, hl, lexL_pos hl, rfl, rfl, hg1, hg2, hc⟩, hb⟩

set_option maxRecDepth 100000 in
set_option maxHeartbeats 20000000 in
/-- Lex, whatever the text's length: it is short where there is no error. -/
theorem lex_all {w : World} (s : ByteArray) (hs : s.size ≤ 4000000) (hg : GlobE w.heap.size w) :
    Calls Tryz.prog 18 #[.string s] w fun e w' => ∃ v1 v2, e = .returned (.tuple #[v1, v2]) ∧ Below w.heap.size w w' ∧
      ((s.size ≤ 6000 ∧ LexThree w w' s.data.toList v1 v2) ∨ (6000 < s.size ∧ v1 = .slice none 0 0 ∧ ∃ te pe, v2 = .iface te pe)) := by
  by_cases h : s.size ≤ 6000
  · refine (lex_three s h hg).mono ?_
    rintro e w' ⟨v1, v2, rfl, h2, hb⟩
    exact ⟨v1, v2, rfl, hb, .inl ⟨h, h2⟩⟩
  · obtain ⟨te, pe, hbd⟩ := hg.bound
    refine (lex_long s (by omega) (by omega) te pe hbd).mono ?_
    rintro e w' hpost
    obtain ⟨rfl, hb⟩ := hpost
    exact ⟨_, _, rfl, hb, .inr ⟨by omega, rfl, te, pe, rfl⟩⟩

/-! When a token is one. -/
theorem oneOk_bad {k x : List UInt8} {e : Nat} (h : lexL (textS k x) = .error e) : oneOk k x = false := by
  unfold oneOk; rw [h]; simp
theorem oneOk_long {k x : List UInt8} (h : 6000 < (textS k x).length) : oneOk k x = false := by
  unfold oneOk; rw [Bool.and_eq_false_iff]; left; simp; omega
theorem oneOk_many {k x : List UInt8} {ts : List Tok} (h : lexL (textS k x) = .ok ts) (hl : ts.length ≠ 3) : oneOk k x = false := by
  unfold oneOk; rw [h]
  rcases ts with _ | ⟨a, _ | ⟨b, _ | ⟨c, _ | ⟨d, r⟩⟩⟩⟩
  · simp
  · simp
  · simp
  · simp at hl
  · simp
theorem oneOk_three {k x : List UInt8} {ts : List Tok} (h : lexL (textS k x) = .ok ts) (hl : ts.length = 3) (hs : (textS k x).length ≤ 6000) : oneOk k x = ((ts[0]'(by omega)).kind == k && (ts[0]'(by omega)).text == x) := by
  unfold oneOk; rw [h]
  rcases ts with _ | ⟨a, _ | ⟨b, _ | ⟨c, _ | ⟨d, r⟩⟩⟩⟩
  · simp at hl
  · simp at hl
  · simp at hl
  · simp [hs]
  · simp at hl


set_option maxRecDepth 100000 in
set_option maxHeartbeats 20000000 in
/-- A token as a text; is it one? -/
theorem text_any {w : World} (kd tx : List UInt8) (a : Int) (hx : tx.length ≤ 6000) (hg : GlobE w.heap.size w) :
    Calls Tryz.prog 58 #[.agg #[.string (toBA kd), .string (toBA tx), .int .i64 a]] w fun e w' => e = .returned (.tuple #[.string (toBA (textS kd tx)), .bool (oneOk kd tx)]) ∧ Below w.heap.size w w' := by
  have hbW0 : Below w.heap.size w (w.alloc (.cells #[.string (toBA kd), .string (toBA tx), .int .i64 a] 104)) := (Below.refl _ _).alloc (Nat.le_refl _) _
  have c00 : (w.alloc (.cells #[.string (toBA kd), .string (toBA tx), .int .i64 a] 104)).cell? ⟨w.heap.size, 0, none⟩ = some (.string (toBA kd)) := by simp
  have c10 : (w.alloc (.cells #[.string (toBA kd), .string (toBA tx), .int .i64 a] 104)).cell? ⟨w.heap.size, 1, none⟩ = some (.string (toBA tx)) := by simp
  have hx0 : w.heap.size < (w.alloc (.cells #[.string (toBA kd), .string (toBA tx), .int .i64 a] 104)).heap.size := by simp
  rcases hk : ((toBA kd).toList == [115, 116, 114]) with _ | _
  · have hts : textS kd tx = tx := by
      unfold textS; rw [if_neg]; intro e; rw [m_toList, e] at hk; exact absurd hk (by decide)
    have HS : Hid ((toBA tx).data.toList = textS kd tx) := Lib.hid (by rw [hts]; rfl)
    have HS2 : Hid (toBA tx = toBA (textS kd tx)) := Lib.hid (by rw [hts])
    clear hts
    go_enter Tryz.func58, Tryz.ntmps58
    go_wp2_with fail
    generalize w.alloc (.cells #[.string (toBA kd), .string (toBA tx), .int .i64 a] 104) = W at hbW0 c00 c10 hx0 ⊢
    have hbW := hbW0; have c0 := c00; have c1 := c10; have hxW := hx0
    have hgW : GlobE W.heap.size W := (hg.below hbW).mono hbW.size
    have hS : (toBA tx).size ≤ 4000000 := by show tx.toArray.size ≤ _; simp; omega
    clear hbW0 c00 c10 hx0
    refine (lex_all (toBA tx) hS hgW).mono ?_
    rintro e w5 ⟨v5, v6, rfl, hb5, h5⟩
    have hbl : Below w.heap.size w w5 := below_grow hbW hbW.size hb5
    have c0' := (hb5.cell (p := ⟨w.heap.size, 0, none⟩) hxW).trans c0
    have c1' := (hb5.cell (p := ⟨w.heap.size, 1, none⟩) hxW).trans c1
    clear c0 c1 hbW hgW
    rcases h5 with ⟨h6, ⟨k, hl, rfl, q, rfl⟩ | ⟨ts, g, cap, hl, hpos, rfl, rfl, hgs, hgs2, hc⟩⟩ | ⟨h6, rfl, te, pe, rfl⟩
    · have hno := oneOk_bad (by rw [← HS.out]; exact hl)
      have Hno := Lib.hid hno; clear hl hno
      go_upto_region 5 with fail
      go_quiet (fail)
      go_wp2_with fail
      refine bodyPost_ret (results_tmp2 rfl _ _ _) rfl ?_
      exact ⟨by rw [Hno.out, ← HS2.out]; rfl, m_drewN hbl _⟩
    · rcases h3 : ((ts.length : Int) == 3) with _ | _
      · have hno := oneOk_many (by rw [← HS.out]; exact hl) (show ts.length ≠ 3 by rw [beq_eq_false_iff_ne] at h3; omega)
        have Hno := Lib.hid hno; clear hl hno
        go_upto_region 5 with fail
        go_quiet (fail)
        go_wp2_with fail
        refine bodyPost_ret (results_tmp2 rfl _ _ _) rfl ?_
        exact ⟨by rw [Hno.out, ← HS2.out]; rfl, m_drewN hbl _⟩
      · have hlen3 : ts.length = 3 := by rw [beq_iff_eq] at h3; omega
        obtain ⟨k0, k1, _⟩ := hc 0 hpos
        have k0' : w5.cell? ⟨g, 0, none⟩ = some (.string (toBA ts[0].kind)) := k0
        have k1' : w5.cell? ⟨g, 1, none⟩ = some (.string (toBA ts[0].text)) := k1
        have hyes := oneOk_three (k := kd) (x := tx) (by rw [← HS.out]; exact hl) hlen3 (by rw [← HS.out]; simpa using h6)
        generalize ts[0].kind = kd0 at k0' hyes
        generalize ts[0].text = tx0 at k1' hyes
        have Hyes := Lib.hid hyes
        clear k0 k1 hc hl h3 hyes
        rw [hlen3]
        rcases e1 : ((toBA kd0).toList == (toBA kd).toList) with _ | _
        · have hno : oneOk kd tx = false := by rw [Hyes.out]; rw [m_toList, m_toList] at e1; rw [e1]; rfl
          have Hno := Lib.hid hno; clear hno
          go_upto_region 5 with fail
          go_quiet (fail)
          go_wp2_with fail
          refine bodyPost_ret (results_tmp2 rfl _ _ _) rfl ?_
          exact ⟨by rw [Hno.out, ← HS2.out]; rfl, m_drewN hbl _⟩
        · rcases e2 : ((toBA tx0).toList == (toBA tx).toList) with _ | _
          · have hno : oneOk kd tx = false := by rw [Hyes.out]; rw [m_toList, m_toList] at e1 e2; rw [e1, e2]; rfl
            have Hno := Lib.hid hno; clear hno
            go_upto_region 5 with fail
            go_quiet (fail)
            go_wp2_with fail
            refine bodyPost_ret (results_tmp2 rfl _ _ _) rfl ?_
            exact ⟨by rw [Hno.out, ← HS2.out]; rfl, m_drewN hbl _⟩
          · have hno : oneOk kd tx = true := by rw [Hyes.out]; rw [m_toList, m_toList] at e1 e2; rw [e1, e2]; rfl
            have Hno := Lib.hid hno; clear hno
            go_upto_region 5 with fail
            go_quiet (fail)
            go_wp2_with fail
            refine bodyPost_ret (results_tmp2 rfl _ _ _) rfl ?_
            exact ⟨by rw [Hno.out, ← HS2.out]; rfl, m_drewN hbl _⟩
    · have hno := oneOk_long (k := kd) (x := tx) (by rw [← HS.out]; simpa using h6)
      have Hno := Lib.hid hno; clear hno
      go_upto_region 5 with fail
      go_quiet (fail)
      go_wp2_with fail
      refine bodyPost_ret (results_tmp2 rfl _ _ _) rfl ?_
      exact ⟨by rw [Hno.out, ← HS2.out]; rfl, m_drewN hbl _⟩
  · have hts : textS kd tx = quotedL tx := by
      unfold textS; rw [if_pos]; rw [m_toList] at hk; exact beq_iff_eq.1 hk
    have hsz : (toBA tx).size ≤ 6000 := by show tx.toArray.size ≤ _; simp; omega
    go_enter Tryz.func58, Tryz.ntmps58
    have HT := Lib.hid hts; clear hts
    go_wp2_with fail
    generalize w.alloc (.cells #[.string (toBA kd), .string (toBA tx), .int .i64 a] 104) = W0 at hbW0 c00 c10 hx0 ⊢
    refine (quote_any (toBA tx) W0 hsz).mono ?_
    rintro e W ⟨rfl, hbq⟩
    have hbW : Below w.heap.size w W := below_grow hbW0 hbW0.size hbq
    have c0 := (hbq.cell (p := ⟨w.heap.size, 0, none⟩) hx0).trans c00
    have c1 := (hbq.cell (p := ⟨w.heap.size, 1, none⟩) hx0).trans c10
    have hxW : w.heap.size < W.heap.size := by have := hbq.size; omega
    have hgW : GlobE W.heap.size W := (hg.below hbW).mono hbW.size
    have HS : Hid ((toBA (quotedL (toBA tx).data.toList)).data.toList = textS kd tx) := Lib.hid (by rw [HT.out]; rfl)
    have HS2 : Hid (toBA (quotedL (toBA tx).data.toList) = toBA (textS kd tx)) := Lib.hid (by rw [HT.out]; rfl)
    have hS0 : (toBA (quotedL (toBA tx).data.toList)).size ≤ 4000000 := by
      have h1 := qL_len tx
      show (quotedL tx).toArray.size ≤ 4000000
      simp [quotedL]; omega
    generalize toBA (quotedL (toBA tx).data.toList) = S at hS0 HS HS2 ⊢
    have hS := hS0
    clear hbW0 c00 c10 hx0 hbq hS0
    go_wp2_with fail
    refine (lex_all S hS hgW).mono ?_
    rintro e w5 ⟨v5, v6, rfl, hb5, h5⟩
    have hbl : Below w.heap.size w w5 := below_grow hbW hbW.size hb5
    have c0' := (hb5.cell (p := ⟨w.heap.size, 0, none⟩) hxW).trans c0
    have c1' := (hb5.cell (p := ⟨w.heap.size, 1, none⟩) hxW).trans c1
    clear c0 c1 hbW hgW
    rcases h5 with ⟨h6, ⟨k, hl, rfl, q, rfl⟩ | ⟨ts, g, cap, hl, hpos, rfl, rfl, hgs, hgs2, hc⟩⟩ | ⟨h6, rfl, te, pe, rfl⟩
    · have hno := oneOk_bad (by rw [← HS.out]; exact hl)
      have Hno := Lib.hid hno; clear hl hno
      go_upto_region 5 with fail
      go_quiet (fail)
      go_wp2_with fail
      refine bodyPost_ret (results_tmp2 rfl _ _ _) rfl ?_
      exact ⟨by rw [Hno.out, ← HS2.out]; rfl, m_drewN hbl _⟩
    · rcases h3 : ((ts.length : Int) == 3) with _ | _
      · have hno := oneOk_many (by rw [← HS.out]; exact hl) (show ts.length ≠ 3 by rw [beq_eq_false_iff_ne] at h3; omega)
        have Hno := Lib.hid hno; clear hl hno
        go_upto_region 5 with fail
        go_quiet (fail)
        go_wp2_with fail
        refine bodyPost_ret (results_tmp2 rfl _ _ _) rfl ?_
        exact ⟨by rw [Hno.out, ← HS2.out]; rfl, m_drewN hbl _⟩
      · have hlen3 : ts.length = 3 := by rw [beq_iff_eq] at h3; omega
        obtain ⟨k0, k1, _⟩ := hc 0 hpos
        have k0' : w5.cell? ⟨g, 0, none⟩ = some (.string (toBA ts[0].kind)) := k0
        have k1' : w5.cell? ⟨g, 1, none⟩ = some (.string (toBA ts[0].text)) := k1
        have hyes := oneOk_three (k := kd) (x := tx) (by rw [← HS.out]; exact hl) hlen3 (by rw [← HS.out]; simpa using h6)
        generalize ts[0].kind = kd0 at k0' hyes
        generalize ts[0].text = tx0 at k1' hyes
        have Hyes := Lib.hid hyes
        clear k0 k1 hc hl h3 hyes
        rw [hlen3]
        rcases e1 : ((toBA kd0).toList == (toBA kd).toList) with _ | _
        · have hno : oneOk kd tx = false := by rw [Hyes.out]; rw [m_toList, m_toList] at e1; rw [e1]; rfl
          have Hno := Lib.hid hno; clear hno
          go_upto_region 5 with fail
          go_quiet (fail)
          go_wp2_with fail
          refine bodyPost_ret (results_tmp2 rfl _ _ _) rfl ?_
          exact ⟨by rw [Hno.out, ← HS2.out]; rfl, m_drewN hbl _⟩
        · rcases e2 : ((toBA tx0).toList == (toBA tx).toList) with _ | _
          · have hno : oneOk kd tx = false := by rw [Hyes.out]; rw [m_toList, m_toList] at e1 e2; rw [e1, e2]; rfl
            have Hno := Lib.hid hno; clear hno
            go_upto_region 5 with fail
            go_quiet (fail)
            go_wp2_with fail
            refine bodyPost_ret (results_tmp2 rfl _ _ _) rfl ?_
            exact ⟨by rw [Hno.out, ← HS2.out]; rfl, m_drewN hbl _⟩
          · have hno : oneOk kd tx = true := by rw [Hyes.out]; rw [m_toList, m_toList] at e1 e2; rw [e1, e2]; rfl
            have Hno := Lib.hid hno; clear hno
            go_upto_region 5 with fail
            go_quiet (fail)
            go_wp2_with fail
            refine bodyPost_ret (results_tmp2 rfl _ _ _) rfl ?_
            exact ⟨by rw [Hno.out, ← HS2.out]; rfl, m_drewN hbl _⟩
    · have hno := oneOk_long (k := kd) (x := tx) (by rw [← HS.out]; simpa using h6)
      have Hno := Lib.hid hno; clear hno
      go_upto_region 5 with fail
      go_quiet (fail)
      go_wp2_with fail
      refine bodyPost_ret (results_tmp2 rfl _ _ _) rfl ?_
      exact ⟨by rw [Hno.out, ← HS2.out]; rfl, m_drewN hbl _⟩

end Go.Proofs.YtdoaeapahgmfoaaGreatDoor
