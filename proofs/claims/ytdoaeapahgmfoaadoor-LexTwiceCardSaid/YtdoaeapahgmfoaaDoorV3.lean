/- Token.text: one token as a text, and whether it is one. -/
import Derived.Test.YtdoaeapahgmfoaaDoorV2
import Derived.Test.YtdoaeapahgmfoaaDoorB2
import Derived.BigQuiet
namespace Go.Proofs.YtdoaeapahgmfoaaDoor
open Go.RowKit

theorem builder_below {T e : TypeId} {B b : Nat} {bs : List Value} {w w' : World} (h : Lib.IsBuilderF T e B b bs w) (hb : Below w.heap.size w w') : Lib.IsBuilderF T e B b bs w' := by
  have key : ∀ p, Lib.BuilderAtF T e B b p bs w → Lib.BuilderAtF T e B b p bs w' := by
    intro p h
    have hl := h.lt
    obtain ⟨hB, v, hbk, hown, hne⟩ := h
    refine ⟨hB, v, (hb.block b hl).trans hbk, ?_, hne⟩
    refine ⟨hown.1, ?_⟩
    rcases hown.2 with h2 | ⟨g, cap, cur, fz, rfl, h3, h4, h5⟩
    · exact .inl h2
    · refine .inr ⟨g, cap, cur, fz, rfl, h3, (hb.block g ?_).trans h4, h5⟩
      rcases Nat.lt_or_ge g w.heap.size with h' | h'
      · exact h'
      · rw [Array.getElem?_eq_none h'] at h4; cases h4
  exact h.elim (fun h => .inl (key _ h)) (fun h => .inr (key _ h))

/-- What a token is as a text. -/
def textS (kd tx : List UInt8) : List UInt8 := if kd = kStr then quotedL tx else tx

/-- What Lex left, in both cases, with the places. -/
def LexThree (w w' : World) (l : List UInt8) (v e : Value) : Prop :=
  (∃ k, lexL l = .error k ∧ v = .slice none 0 0 ∧ ∃ p, e = .iface 30 p) ∨ ∃ ts g cap, lexL l = .ok ts ∧ 0 < ts.length ∧ v = .slice (some ⟨g, 0, none⟩) ts.length cap ∧ e = .nilIface ∧ w.heap.size ≤ g ∧ g < w'.heap.size ∧
    ∀ j (hj : j < ts.length), w'.cell? ⟨g, j * 3, none⟩ = some (.string (toBA ts[j].kind)) ∧ w'.cell? ⟨g, j * 3 + 1, none⟩ = some (.string (toBA ts[j].text)) ∧ w'.cell? ⟨g, j * 3 + 2, none⟩ = some (.int .i64 (ts[j].at_ : Int))
theorem lex_three {w : World} (s : ByteArray) (hs : s.size ≤ 6000) (hg : GlobE w.heap.size w) :
    Calls Tryd.prog 13 #[.string s] w fun e w' => ∃ v1 v2, e = .returned (.tuple #[v1, v2]) ∧ LexThree w w' s.data.toList v1 v2 ∧ Below w.heap.size w w' := by
  refine (lex_any s hs hg).mono ?_
  rintro e w' ⟨hb, h⟩
  rcases hl : lexL s.data.toList with k | ts
  · rw [hl] at h
    obtain ⟨N, te, pe, rfl, _⟩ := h
    exact ⟨_, _, rfl, .inl ⟨k, hl, rfl, _, rfl⟩, hb⟩
  · rw [hl] at h
    obtain ⟨vo, rfl, hown⟩ := h
    obtain ⟨g, cap, rfl, hg1, hg2, hc⟩ := toks_row hown (lexL_pos hl)
    exact ⟨_, _, rfl, .inr ⟨ts, g, cap, hl, lexL_pos hl, rfl, rfl, hg1, hg2, hc⟩, hb⟩

set_option maxRecDepth 100000 in
set_option maxHeartbeats 20000000 in
/-- Lex, whatever the text's length: it is short where there is no error. -/
theorem lex_all {w : World} (s : ByteArray) (hs : s.size ≤ 200000) (hg : GlobE w.heap.size w) :
    Calls Tryd.prog 13 #[.string s] w fun e w' => ∃ v1 v2, e = .returned (.tuple #[v1, v2]) ∧ Below w.heap.size w w' ∧
      ((s.size ≤ 6000 ∧ LexThree w w' s.data.toList v1 v2) ∨ (6000 < s.size ∧ v1 = .slice none 0 0 ∧ ∃ te pe, v2 = .iface te pe)) := by
  by_cases h : s.size ≤ 6000
  · refine (lex_three s h hg).mono ?_
    rintro e w' ⟨v1, v2, rfl, h2, hb⟩
    exact ⟨v1, v2, rfl, hb, .inl ⟨h, h2⟩⟩
  · obtain ⟨te, pe, hbd⟩ := hg.bound
    refine (lex_long s (by omega) (by omega) te pe hbd).mono ?_
    rintro e w' hpost
    obtain ⟨rfl, hb⟩ := hpost
    exact ⟨_, _, rfl, hb, .inr ⟨by omega, rfl, te, pe, rfl⟩⟩


set_option maxRecDepth 100000 in
set_option maxHeartbeats 20000000 in
/-- A token as a text; where it is one, the text is short. -/
theorem text_any {w : World} (kd tx : ByteArray) (a : Int) (hx : tx.size ≤ 6000) (hg : GlobE w.heap.size w) :
    Calls Tryd.prog 24 #[.agg #[.string kd, .string tx, .int .i64 a]] w fun e w' => ∃ (s : ByteArray) (b : Bool), e = .returned (.tuple #[.string s, .bool b]) ∧ (b = true → s.size ≤ 6000) ∧ Below w.heap.size w w' := by
  have hbW0 : Below w.heap.size w (w.alloc (.cells #[.string kd, .string tx, .int .i64 a] 42)) := (Below.refl _ _).alloc (Nat.le_refl _) _
  have c00 : (w.alloc (.cells #[.string kd, .string tx, .int .i64 a] 42)).cell? ⟨w.heap.size, 0, none⟩ = some (.string kd) := by simp
  have c10 : (w.alloc (.cells #[.string kd, .string tx, .int .i64 a] 42)).cell? ⟨w.heap.size, 1, none⟩ = some (.string tx) := by simp
  have hx0 : w.heap.size < (w.alloc (.cells #[.string kd, .string tx, .int .i64 a] 42)).heap.size := by simp
  rcases hk : (kd.toList == [115, 116, 114]) with _ | _
  · go_enter Tryd.func24, Tryd.ntmps24
    go_wp2_with fail
    generalize w.alloc (.cells #[.string kd, .string tx, .int .i64 a] 42) = W at hbW0 c00 c10 hx0 ⊢
    have hbW := hbW0; have c0 := c00; have c1 := c10; have hxW := hx0
    have hgW : GlobE W.heap.size W := (hg.below hbW).mono hbW.size
    have hS : tx.size ≤ 200000 := by omega
    clear hbW0 c00 c10 hx0
    refine (lex_all tx hS hgW).mono ?_
    rintro e w5 ⟨v5, v6, rfl, hb5, h5⟩
    have hbl : Below w.heap.size w w5 := below_grow hbW hbW.size hb5
    have c0' := (hb5.cell (p := ⟨w.heap.size, 0, none⟩) hxW).trans c0
    have c1' := (hb5.cell (p := ⟨w.heap.size, 1, none⟩) hxW).trans c1
    clear c0 c1 hbW hgW
    rcases h5 with ⟨h6, ⟨k, hl, rfl, q, rfl⟩ | ⟨ts, g, cap, hl, hpos, rfl, rfl, hgs, hgs2, hc⟩⟩ | ⟨h6, rfl, te, pe, rfl⟩
    · go_upto_region 5 with fail
      go_quiet (fail)
      go_wp2_with fail
      refine bodyPost_ret (results_tmp2 rfl _ _ _) rfl ?_
      exact ⟨tx, false, rfl, by simp, below_drewN hbl _⟩
    · rcases h3 : ((ts.length : Int) == 3) with _ | _
      · go_upto_region 5 with fail
        go_quiet (fail)
        go_wp2_with fail
        refine bodyPost_ret (results_tmp2 rfl _ _ _) rfl ?_
        exact ⟨tx, false, rfl, by simp, below_drewN hbl _⟩
      · have hlen3 : ts.length = 3 := by rw [beq_iff_eq] at h3; omega
        obtain ⟨k0, k1, _⟩ := hc 0 hpos
        have k0' : w5.cell? ⟨g, 0, none⟩ = some (.string (toBA ts[0].kind)) := k0
        have k1' : w5.cell? ⟨g, 1, none⟩ = some (.string (toBA ts[0].text)) := k1
        generalize toBA ts[0].kind = kd0 at k0'
        generalize toBA ts[0].text = tx0 at k1'
        clear k0 k1 hc hl h3
        rw [hlen3]
        rcases e1 : (kd0.toList == kd.toList) with _ | _
        · go_upto_region 5 with fail
          go_quiet (fail)
          go_wp2_with fail
          refine bodyPost_ret (results_tmp2 rfl _ _ _) rfl ?_
          exact ⟨tx, false, rfl, by simp, below_drewN hbl _⟩
        · rcases e2 : (tx0.toList == tx.toList) with _ | _
          · go_upto_region 5 with fail
            go_quiet (fail)
            go_wp2_with fail
            refine bodyPost_ret (results_tmp2 rfl _ _ _) rfl ?_
            exact ⟨tx, false, rfl, by simp, below_drewN hbl _⟩
          · go_upto_region 5 with fail
            go_quiet (fail)
            go_wp2_with fail
            refine bodyPost_ret (results_tmp2 rfl _ _ _) rfl ?_
            exact ⟨tx, true, rfl, fun _ => h6, below_drewN hbl _⟩
    · go_upto_region 5 with fail
      go_quiet (fail)
      go_wp2_with fail
      refine bodyPost_ret (results_tmp2 rfl _ _ _) rfl ?_
      exact ⟨tx, false, rfl, by simp, below_drewN hbl _⟩
  · go_enter Tryd.func24, Tryd.ntmps24
    go_wp2_with fail
    generalize w.alloc (.cells #[.string kd, .string tx, .int .i64 a] 42) = W0 at hbW0 c00 c10 hx0 ⊢
    refine (quote_any tx W0 hx).mono ?_
    rintro e W ⟨rfl, hbq⟩
    have hbW : Below w.heap.size w W := below_grow hbW0 hbW0.size hbq
    have c0 := (hbq.cell (p := ⟨w.heap.size, 0, none⟩) hx0).trans c00
    have c1 := (hbq.cell (p := ⟨w.heap.size, 1, none⟩) hx0).trans c10
    have hxW : w.heap.size < W.heap.size := by have := hbq.size; omega
    have hgW : GlobE W.heap.size W := (hg.below hbW).mono hbW.size
    have hS0 : (toBA (quotedL tx.data.toList)).size ≤ 200000 := by
      have h1 := qL_len tx.data.toList
      have h2 : tx.data.toList.length = tx.size := by simp
      show (quotedL tx.data.toList).toArray.size ≤ 200000
      simp [quotedL]; simp at h1 h2; omega
    generalize toBA (quotedL tx.data.toList) = S at hS0 ⊢
    have hS := hS0
    clear hbW0 c00 c10 hx0 hbq hS0
    go_wp2_with fail
    refine (lex_all S hS hgW).mono ?_
    rintro e w5 ⟨v5, v6, rfl, hb5, h5⟩
    have hbl : Below w.heap.size w w5 := below_grow hbW hbW.size hb5
    have c0' := (hb5.cell (p := ⟨w.heap.size, 0, none⟩) hxW).trans c0
    have c1' := (hb5.cell (p := ⟨w.heap.size, 1, none⟩) hxW).trans c1
    clear c0 c1 hbW hgW
    rcases h5 with ⟨h6, ⟨k, hl, rfl, q, rfl⟩ | ⟨ts, g, cap, hl, hpos, rfl, rfl, hgs, hgs2, hc⟩⟩ | ⟨h6, rfl, te, pe, rfl⟩
    · go_upto_region 5 with fail
      go_quiet (fail)
      go_wp2_with fail
      refine bodyPost_ret (results_tmp2 rfl _ _ _) rfl ?_
      exact ⟨S, false, rfl, by simp, below_drewN hbl _⟩
    · rcases h3 : ((ts.length : Int) == 3) with _ | _
      · go_upto_region 5 with fail
        go_quiet (fail)
        go_wp2_with fail
        refine bodyPost_ret (results_tmp2 rfl _ _ _) rfl ?_
        exact ⟨S, false, rfl, by simp, below_drewN hbl _⟩
      · have hlen3 : ts.length = 3 := by rw [beq_iff_eq] at h3; omega
        obtain ⟨k0, k1, _⟩ := hc 0 hpos
        have k0' : w5.cell? ⟨g, 0, none⟩ = some (.string (toBA ts[0].kind)) := k0
        have k1' : w5.cell? ⟨g, 1, none⟩ = some (.string (toBA ts[0].text)) := k1
        generalize toBA ts[0].kind = kd0 at k0'
        generalize toBA ts[0].text = tx0 at k1'
        clear k0 k1 hc hl h3
        rw [hlen3]
        rcases e1 : (kd0.toList == kd.toList) with _ | _
        · go_upto_region 5 with fail
          go_quiet (fail)
          go_wp2_with fail
          refine bodyPost_ret (results_tmp2 rfl _ _ _) rfl ?_
          exact ⟨S, false, rfl, by simp, below_drewN hbl _⟩
        · rcases e2 : (tx0.toList == tx.toList) with _ | _
          · go_upto_region 5 with fail
            go_quiet (fail)
            go_wp2_with fail
            refine bodyPost_ret (results_tmp2 rfl _ _ _) rfl ?_
            exact ⟨S, false, rfl, by simp, below_drewN hbl _⟩
          · go_upto_region 5 with fail
            go_quiet (fail)
            go_wp2_with fail
            refine bodyPost_ret (results_tmp2 rfl _ _ _) rfl ?_
            exact ⟨S, true, rfl, fun _ => h6, below_drewN hbl _⟩
    · go_upto_region 5 with fail
      go_quiet (fail)
      go_wp2_with fail
      refine bodyPost_ret (results_tmp2 rfl _ _ _) rfl ?_
      exact ⟨S, false, rfl, by simp, below_drewN hbl _⟩

end Go.Proofs.YtdoaeapahgmfoaaDoor
