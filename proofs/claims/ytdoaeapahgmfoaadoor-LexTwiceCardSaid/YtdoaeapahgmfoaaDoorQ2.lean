/- The plain law: a quoted text has one token, a str, of the text's own bytes. The walk of LexQuotes. -/
import Derived.Test.YtdoaeapahgmfoaaDoorQ1
namespace Go.Proofs.YtdoaeapahgmfoaaDoor
open Go.RowKit

theorem hexV_hexD (n : Nat) (h : n < 16) : hexV (hexD n) = some n := by
  have h1 : ∀ n : Fin 16, hexV (hexD n.val) = some n.val := by decide +kernel
  exact h1 ⟨n, h⟩

theorem unq_qB (c : UInt8) (r acc : List UInt8) (i : Nat) : unq (qB c ++ r) acc i = unq r (acc ++ [c]) (i + (qB c).length) := by
  have hc := c.toNat_lt
  unfold qB
  split
  · rename_i h
    have e : c = 10 := UInt8.toNat_inj.mp (by rw [h]; rfl)
    subst e
    simp only [List.cons_append, List.nil_append]
    rw [unq_cons]
    simp
  · split
    · rename_i h1 h
      simp only [List.cons_append, List.nil_append]
      rw [unq_cons]
      have n1 : c.toNat ≠ 110 := by omega
      simp [n1, h]
    · split
      · simp only [List.cons_append, List.nil_append]
        rw [unq_cons]
        simp only [hexV_hexD _ (show c.toNat / 16 < 16 by omega), hexV_hexD _ (show c.toNat % 16 < 16 by omega)]
        have e : UInt8.ofNat (16 * (c.toNat / 16) + c.toNat % 16) = c := by rw [Nat.div_add_mod]; simp
        rw [e]
        simp
      · rename_i h1 h2 h3
        simp only [List.cons_append, List.nil_append]
        rw [unq_cons, if_neg (by omega), if_neg (by omega), if_pos (by omega)]
        simp
theorem unq_qL : ∀ (l acc : List UInt8) (i : Nat), unq (qL l ++ [34]) acc i = some (acc ++ l, i + (qL l).length + 1)
  | [], acc, i => by simp [qL, unq_cons]
  | c :: r, acc, i => by
    rw [show qL (c :: r) ++ [34] = qB c ++ (qL r ++ [34]) by simp [qL], unq_qB, unq_qL r]
    simp [qL]; omega

theorem lexL_quoted (l : List UInt8) : lexL (quotedL l) = .ok [⟨kStr, l, 0⟩, ⟨kNewline, [], (quotedL l).length⟩, ⟨kEnd, [], (quotedL l).length⟩] := by
  have hq : quotedL l = 34 :: (qL l ++ [34]) := by simp [quotedL]
  have hn : (quotedL l).length = 1 + (qL l).length + 1 := by simp [quotedL]; omega
  have hpos : 0 < (quotedL l).length := by omega
  have h0 : (quotedL l)[0] = 34 := by simp [hq]
  have h0' : (quotedL l)[0]? = some 34 := by simp [hq]
  have hs : spanL blankB (quotedL l) 0 = 0 := spanL_no _ _ _ hpos (by rw [h0]; rfl)
  have hcm : commentL (quotedL l) 0 = 0 := by unfold commentL; rw [h0']; rfl
  have he : endB (quotedL l) 0 = false := by unfold endB; rw [h0']; rfl
  have ht : tokL ((quotedL l).drop 0) = some (kStr, l, (quotedL l).length) := by
    have hu : unqS (quotedL l) = some (l, (quotedL l).length) := by
      unfold unqS
      rw [hq, List.drop_one, List.tail_cons, unq_qL, ← hq, hn]
      rfl
    rw [List.drop_zero]
    rw [hq] at hu ⊢
    unfold tokL
    rw [hu]
    rfl
  have hnone : (quotedL l)[(quotedL l).length]? = none := List.getElem?_eq_none (Nat.le_refl _)
  have hs2 : spanL blankB (quotedL l) (0 + (quotedL l).length) = (quotedL l).length := by rw [Nat.zero_add]; exact spanL_end _ _ _ (Nat.le_refl _)
  have hc2 : commentL (quotedL l) (quotedL l).length = (quotedL l).length := by unfold commentL; rw [hnone]
  have he2 : endB (quotedL l) (quotedL l).length = true := by unfold endB; rw [hnone]
  have htoks : toksL ((quotedL l).length + 1) (quotedL l) 0 = .ok ([⟨kStr, l, 0⟩], (quotedL l).length) := by
    rw [toksL, if_neg (by rw [he]; decide), ht]
    simp only
    rw [hs2, hc2]
    have : ∀ f, toksL (f + 1) (quotedL l) (quotedL l).length = .ok ([], (quotedL l).length) := by intro f; rw [toksL, if_pos he2]
    have h1 : toksL ((quotedL l).length) (quotedL l) (quotedL l).length = .ok ([], (quotedL l).length) := by
      have e : ((quotedL l).length) = ((quotedL l).length - 1) + 1 := by omega
      rw [e, ← e]
      have := this ((quotedL l).length - 1)
      rwa [← e] at this
    rw [h1]
  have hline : lineL (quotedL l) 0 [0] = .ok ([⟨kStr, l, 0⟩, ⟨kNewline, [], (quotedL l).length⟩], (quotedL l).length + 1, [0]) := by
    unfold lineL
    rw [hs, hcm, if_neg (by rw [he]; decide), htoks]
    rfl
  have hlines : linesL ((quotedL l).length + 1) (quotedL l) 0 [0] = .ok ([⟨kStr, l, 0⟩, ⟨kNewline, [], (quotedL l).length⟩], [0]) := by
    rw [linesL, if_pos hpos, hline]
    simp only
    have : ∀ f, linesL f (quotedL l) ((quotedL l).length + 1) [0] = .ok ([], [0]) := by
      intro f
      cases f with
      | zero => rfl
      | succ f => rw [linesL, if_neg (by omega)]
    rw [this]
    rfl
  unfold lexL
  rw [hlines]
  rfl

set_option maxRecDepth 100000 in
set_option maxHeartbeats 20000000 in
theorem lexQuotes_any {w : World} (s : ByteArray) (hg : GlobE w.heap.size w) :
    Calls Tryd.prog 5 #[.string s] w fun e w' => e = .returned (.bool true) ∧ Below w.heap.size w w' := by
  go_enter Tryd.func5, Tryd.ntmps5
  go_wp2_with fail
  refine (one_any hg).mono ?_
  rintro e w1 ⟨rfl, hb1⟩
  by_cases hs : 1000 < s.size
  · have hd : decide (1000 < (s.size : Int)) = true := by simp; omega
    go_wp2_with fail
    refine bodyPost_ret (results_tmp rfl _ _ _) rfl ?_
    exact ⟨rfl, hb1⟩
  · have hd : decide (1000 < (s.size : Int)) = false := by simp; omega
    go_wp2_with fail
    refine (quoted_any s w1 (by omega)).mono ?_
    rintro e w2 ⟨rfl, hb2⟩
    have hb12 : Below w.heap.size w w2 := below_grow hb1 hb1.size hb2
    have hg2 : GlobE w2.heap.size w2 := (hg.below hb12).mono hb12.size
    go_wp2_with fail
    have hlen : (toBA (quotedL s.data.toList)).size ≤ 6000 := by
      have h1 := qL_len s.data.toList
      have h2 : s.data.toList.length = s.size := by simp
      show (quotedL s.data.toList).toArray.size ≤ 6000
      simp [quotedL]; simp at h1 h2; omega
    refine (lex_any (toBA (quotedL s.data.toList)) hlen hg2).mono ?_
    rintro e w3 ⟨hb3, h⟩
    rw [toBA_list, lexL_quoted] at h
    obtain ⟨vo, rfl, hown⟩ := h
    obtain ⟨g, cap, rfl, _, _, hc⟩ := toks_row hown (by simp)
    have c0 : w3.cell? ⟨g, 0, none⟩ = some (.string ⟨#[115, 116, 114]⟩) := (hc 0 (by simp)).1
    have c1 : w3.cell? ⟨g, 1, none⟩ = some (.string s) := (hc 0 (by simp)).2.1
    have hbl : Below w.heap.size w w3 := below_grow hb12 hb12.size hb3
    clear hown hc hg hg2 hlen hb2 hb3 hb1
    go_wp2_with fail
    refine bodyPost_ret (results_tmp rfl _ _ _) rfl ?_
    exact ⟨rfl, hbl⟩

end Go.Proofs.YtdoaeapahgmfoaaDoor
