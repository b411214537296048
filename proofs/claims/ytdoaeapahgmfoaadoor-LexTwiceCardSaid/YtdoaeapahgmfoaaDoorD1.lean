/- LexDeep: the text that the law builds. The walk of pick. -/
import Derived.Test.YtdoaeapahgmfoaaDoorQ2
namespace Go.Proofs.YtdoaeapahgmfoaaDoor
open Go.RowKit

/-- The law's pick of 5: a number below 5. -/
def pickN (k : Int) : Nat := (k % 5).toNat
theorem pickN_lt (k : Int) : pickN k < 5 := by unfold pickN; omega

set_option maxRecDepth 100000 in
set_option maxHeartbeats 20000000 in
theorem pick_any (k : Int) (w : World) :
    Calls Tryd.prog 14 #[.int .i64 k, .int .i64 5] w fun e w' => e = .returned (.int .i64 (pickN k : Int)) ∧ w = w' := by
  have hb : -5 < k.tmod 5 ∧ k.tmod 5 < 5 := by
    have h1 := Int.tmod_lt_of_pos k (show (0:Int) < 5 by omega)
    have h2 := Int.lt_tmod_of_pos k (show (0:Int) < 5 by omega)
    omega
  have hv : (pickN k : Int) = if k.tmod 5 < 0 then k.tmod 5 + 5 else k.tmod 5 := by
    unfold pickN
    have h1 := Int.emod_nonneg k (show (5:Int) ≠ 0 by omega)
    have h2 := Int.tmod_eq_emod (a := k) (b := 5)
    rw [Int.toNat_of_nonneg h1]
    split at h2 <;> split <;> omega
  obtain ⟨m, hm⟩ : ∃ m, m = k.tmod 5 := ⟨_, rfl⟩
  rw [← hm] at hb hv
  have hw1 : IntKind.i64.wrap m = m := by rw [IntKind.wrap_i64]; omega
  have hw2 : IntKind.i64.wrap (m + 5) = m + 5 := by rw [IntKind.wrap_i64]; omega
  go_enter Tryd.func14, Tryd.ntmps14
  go_wp2_with fail
  · rename_i h
    refine bodyPost_ret (results_tmp rfl _ _ _) rfl ?_
    have e : (pickN k : Int) = k.tmod 5 + 5 := by rw [hv, if_pos (by omega), hm]
    exact ⟨by rw [e]; rfl, rfl⟩
  · rename_i h
    refine bodyPost_ret (results_tmp rfl _ _ _) rfl ?_
    have e : (pickN k : Int) = k.tmod 5 := by rw [hv, if_neg (by omega), hm]
    exact ⟨by rw [e]; rfl, rfl⟩

/-- A line of one letter, D blanks deep. -/
theorem spanL_count (p : UInt8 → Bool) (l : List UInt8) (i D : Nat) (h : ∀ j, j < D → ∃ b, l[i + j]? = some b ∧ p b = true) (hn : ∀ b, l[i + D]? = some b → p b = false) : spanL p l i = i + D := by
  induction D generalizing i with
  | zero =>
    rw [Nat.add_zero] at hn ⊢
    by_cases hi : i < l.length
    · exact spanL_no p l i hi (hn _ (List.getElem?_eq_getElem hi))
    · exact spanL_end p l i (by omega)
  | succ D ih =>
    obtain ⟨b, hb, hp⟩ := h 0 (by omega)
    rw [Nat.add_zero] at hb
    obtain ⟨hi, hb'⟩ := List.getElem?_eq_some_iff.1 hb
    rw [spanL_yes p l i hi (by rw [hb']; exact hp), ih (i + 1) (fun j hj => by
      have := h (j + 1) (by omega)
      rwa [show i + (j + 1) = i + 1 + j by omega] at this) (fun b hb => hn b (by rwa [show i + 1 + D = i + (D + 1) by omega] at hb))]
    omega

theorem word_letter (c : UInt8) (hc : lowB c = true) : wordsL.contains [c] = false ∧ wordB c = true ∧ c.toNat ≠ 10 ∧ c.toNat ≠ 32 ∧ c.toNat ≠ 35 := by
  have h : ∀ n : Fin 256, lowB (UInt8.ofNat n.val) = true → wordsL.contains [UInt8.ofNat n.val] = false ∧ wordB (UInt8.ofNat n.val) = true ∧ (UInt8.ofNat n.val).toNat ≠ 10 ∧ (UInt8.ofNat n.val).toNat ≠ 32 ∧ (UInt8.ofNat n.val).toNat ≠ 35 := by decide +kernel
  have := h ⟨c.toNat, c.toNat_lt⟩
  simpa using this (by simpa using hc)

theorem lineL_letter (l : List UInt8) (i D : Nat) (c : UInt8) (st : List Nat) (hc : lowB c = true) (hb : ∀ j, j < D → l[i + j]? = some 32) (h1 : l[i + D]? = some c) (h2 : l[i + D + 1]? = some 10)
    (hd : ¬ (indL D (i + D) st).2.headD 0 < D) :
    lineL l i st = .ok ((indL D (i + D) st).1 ++ [⟨kName, [c], i + D⟩, ⟨kNewline, [], i + D + 1⟩], i + D + 2, (indL D (i + D) st).2) := by
  obtain ⟨hw, hwb, c1, c2, c3⟩ := word_letter c hc
  have hs : spanL blankB l i = i + D := spanL_count _ _ _ _ (fun j hj => ⟨32, hb j hj, rfl⟩) (fun b hb => by rw [h1] at hb; cases hb; simp [blankB]; omega)
  have hcm : commentL l (i + D) = i + D := by unfold commentL; rw [h1]; simp [c3]
  have he : endB l (i + D) = false := by unfold endB; rw [h1]; simp; omega
  have he2 : endB l (i + D + 1) = true := by unfold endB; rw [h2]; rfl
  have hs2 : spanL blankB l (i + D + 1) = i + D + 1 := spanL_count blankB l (i + D + 1) 0 (fun j hj => by omega) (fun b hb => by rw [Nat.add_zero, h2] at hb; cases hb; rfl)
  have hcm2 : commentL l (i + D + 1) = i + D + 1 := by unfold commentL; rw [h2]; rfl
  obtain ⟨hlt1, g1⟩ := List.getElem?_eq_some_iff.1 h1
  obtain ⟨hlt2, g2⟩ := List.getElem?_eq_some_iff.1 h2
  have hdrop : l.drop (i + D) = c :: 10 :: l.drop (i + D + 2) := by
    rw [List.drop_eq_getElem_cons hlt1, List.drop_eq_getElem_cons hlt2, g1, g2]
  have ht : tokL (l.drop (i + D)) = some (kName, [c], 1) := by
    rw [hdrop]
    have hsp : spanL wordB (c :: 10 :: l.drop (i + D + 2)) 1 = 1 := spanL_no _ _ _ (by simp) rfl
    unfold tokL
    rw [hsp]
    simp only [hc, true_or, if_true]
    rw [show List.take 1 (c :: 10 :: l.drop (i + D + 2)) = [c] from rfl, hw]
    simp
  have htoks : toksL (l.length + 1) l (i + D) = .ok ([⟨kName, [c], i + D⟩], i + D + 1) := by
    rw [toksL, if_neg (by rw [he]; decide), ht]
    simp only
    rw [hs2, hcm2]
    have e : l.length = (l.length - 1) + 1 := by omega
    rw [e, toksL, if_pos he2]
  unfold lineL
  rw [hs, hcm, if_neg (by rw [he]; decide), show i + D - i = D by omega, if_neg hd, htoks]
  simp

theorem lineL_mid (pre post : List UInt8) (D : Nat) (c : UInt8) (st : List Nat) (hc : lowB c = true) (hd : ¬ (indL D (pre.length + D) st).2.headD 0 < D) :
    lineL (pre ++ (List.replicate D 32 ++ (c :: 10 :: post))) pre.length st =
      .ok ((indL D (pre.length + D) st).1 ++ [⟨kName, [c], pre.length + D⟩, ⟨kNewline, [], pre.length + D + 1⟩], pre.length + D + 2, (indL D (pre.length + D) st).2) := by
  refine lineL_letter _ _ D c st hc (fun j hj => ?_) ?_ ?_ hd
  · rw [List.getElem?_append_right (by omega), Nat.add_sub_cancel_left, List.getElem?_append_left (by simpa using hj), List.getElem?_replicate_of_lt hj]
  · rw [List.getElem?_append_right (by omega), Nat.add_sub_cancel_left, List.getElem?_append_right (by simp)]; simp
  · rw [List.getElem?_append_right (by omega), List.getElem?_append_right (by simp; omega)]
    simp [show pre.length + D + 1 - pre.length - D = 1 by omega]

/-- The depths' lines. -/
def bodyD : List Nat → List UInt8
  | [] => []
  | d :: r => List.replicate d 32 ++ (98 :: 10 :: bodyD r)
/-- Each deeper than the one ahead. -/
def upFrom : Nat → List Nat → Prop
  | _, [] => True
  | a, d :: r => a < d ∧ upFrom d r

/-- What the law counts: indents, dedents, the dedents ahead of c. -/
def stepD (x : Nat × Nat × Nat) (t : Tok) : Nat × Nat × Nat :=
  if t.kind = kIndent then (x.1 + 1, x.2.1, x.2.2)
  else if t.kind = kDedent then (x.1, x.2.1 + 1, x.2.2)
  else if t.kind = kName then (if t.text = [99] then (x.1, x.2.1, x.2.1) else x) else x
def countD (ts : List Tok) (x : Nat × Nat × Nat) : Nat × Nat × Nat := ts.foldl stepD x
theorem countD_dedents (m b : Nat) (x : Nat × Nat × Nat) : countD (List.replicate m ⟨kDedent, [], b⟩) x = (x.1, x.2.1 + m, x.2.2) := by
  induction m generalizing x with
  | zero => rfl
  | succ m ih =>
    rw [List.replicate_succ]
    show countD (List.replicate m _) (stepD x _) = _
    rw [ih]
    simp [stepD, kDedent, kIndent]; omega

theorem popL_at (b : Nat) : ∀ (st : List Nat) (k : Nat) (hk : k < st.length), st.Pairwise (· > ·) → popL st[k] b st = (List.replicate k ⟨kDedent, [], b⟩, st.drop k)
  | t :: r, 0, _, _ => by simp [popL]
  | t :: r, k + 1, hk, h => by
    have hk' : k < r.length := by simpa using hk
    obtain ⟨h1, h2⟩ := List.pairwise_cons.1 h
    have hlt : r[k] < t := h1 _ (List.getElem_mem hk')
    have := popL_at b r k hk' h2
    simp only [List.getElem_cons_succ, popL, if_pos hlt, this, List.replicate_succ, List.drop_succ_cons]

/-- The lines of the depths: from the state at a to the state behind them. -/
theorem lines_body (post : List UInt8) : ∀ (ds : List Nat) (a : Nat) (st : List Nat) (pre : List UInt8) (ts : List Tok) (l : List UInt8) (x : Nat × Nat × Nat), l = pre ++ (bodyD ds ++ post) → upFrom a ds → LinesRel l pre.length (a :: st) ts → countD ts (0, 0, 0) = x →
    ∃ ts', LinesRel l (pre ++ bodyD ds).length (ds.reverse ++ (a :: st)) ts' ∧ countD ts' (0, 0, 0) = (x.1 + ds.length, x.2.1, x.2.2)
  | [], a, st, pre, ts, l, x, hl, _, h, hx => ⟨ts, by simpa [bodyD] using h, by simp [hx]⟩
  | d :: r, a, st, pre, ts, l, x, hl, hu, h, hx => by
    obtain ⟨had, hu⟩ := hu
    have hl' : l = pre ++ (List.replicate d 32 ++ (98 :: 10 :: (bodyD r ++ post))) := by rw [hl]; simp [bodyD]
    have hi : indL d (pre.length + d) (a :: st) = ([⟨kIndent, [], pre.length + d⟩], d :: a :: st) := by unfold indL; rw [if_pos (by simpa using had)]
    have hline := lineL_mid pre (bodyD r ++ post) d 98 (a :: st) (by rfl) (by rw [hi]; simp)
    rw [← hl', hi] at hline
    have hn := h.next (by rw [hl']; simp; omega) hline
    have e : pre.length + d + 2 = (pre ++ (List.replicate d 32 ++ [98, 10])).length := by simp; omega
    rw [e] at hn
    obtain ⟨ts', h1, h2⟩ := lines_body post r d (a :: st) (pre ++ (List.replicate d 32 ++ [98, 10])) _ l (x.1 + 1, x.2.1, x.2.2) (by rw [hl']; simp) hu hn (by
      unfold countD at hx ⊢
      rw [List.foldl_append, hx]
      simp [stepD, kIndent, kName, kDedent, kNewline])
    refine ⟨ts', ?_, ?_⟩
    · have e2 : (pre ++ bodyD (d :: r)) = (pre ++ (List.replicate d 32 ++ [98, 10])) ++ bodyD r := by simp [bodyD]
      rw [e2, show (d :: r).reverse ++ (a :: st) = r.reverse ++ (d :: a :: st) by simp]
      exact h1
    · rw [h2]; simp; omega

theorem upFrom_pairwise : ∀ (a : Nat) (ds : List Nat) (st : List Nat), upFrom a ds → (a :: st).Pairwise (· > ·) → (ds.reverse ++ (a :: st)).Pairwise (· > ·)
  | a, [], st, _, h => h
  | a, d :: r, st, hu, h => by
    rw [show (d :: r).reverse ++ (a :: st) = r.reverse ++ (d :: a :: st) by simp]
    refine upFrom_pairwise d r (a :: st) hu.2 (List.pairwise_cons.2 ⟨fun y hy => ?_, h⟩)
    rcases List.mem_cons.1 hy with rfl | hy
    · exact hu.1
    · have := (List.pairwise_cons.1 h).1 y hy
      have := hu.1
      omega

/-- The law's text. -/
def deepText (ds : List Nat) (e : Nat) : List UInt8 := [97, 10] ++ (bodyD ds ++ (List.replicate e 32 ++ [99, 10]))
theorem lexL_deep (ds : List Nat) (back : Nat) (hu : upFrom 0 ds) (hb : back ≤ ds.length) (e : Nat) (he : (ds.reverse ++ [0])[back]? = some e) :
    ∃ ts, lexL (deepText ds e) = .ok ts ∧ countD ts (0, 0, 0) = (ds.length, ds.length, back) := by
  have hl : deepText ds e = [97, 10] ++ (bodyD ds ++ (List.replicate e 32 ++ [99, 10])) := rfl
  generalize deepText ds e = l at hl ⊢
  have h0 := LinesRel.start l
  have hl0 : l = [] ++ (List.replicate 0 32 ++ (97 :: 10 :: (bodyD ds ++ (List.replicate e 32 ++ [99, 10])))) := by rw [hl]; rfl
  have line0 := lineL_mid [] (bodyD ds ++ (List.replicate e 32 ++ [99, 10])) 0 97 [0] (by rfl) (by simp [indL, popL])
  rw [← hl0] at line0
  have h1 := h0.next (by rw [hl]; simp) line0
  have hst : (indL 0 (([] : List UInt8).length + 0) [0]) = ([], [0]) := by simp [indL, popL]
  rw [hst] at h1
  obtain ⟨ts, h2, c2⟩ := lines_body (List.replicate e 32 ++ [99, 10]) ds 0 [] [97, 10] _ l (0, 0, 0) hl hu h1 (by simp [countD, stepD, kIndent, kName, kDedent, kNewline])
  have hlen : back < (ds.reverse ++ [0]).length := by simp; omega
  obtain ⟨_, he'⟩ := List.getElem?_eq_some_iff.1 he
  have hpw : (ds.reverse ++ [0]).Pairwise (· > ·) := upFrom_pairwise 0 ds [] hu (by simp)
  have hpop := popL_at (([97, 10] ++ bodyD ds).length + e) _ back hlen hpw
  rw [he'] at hpop
  have hhead : e ≤ (ds.reverse ++ [0]).headD 0 := by
    rcases hs : ds.reverse ++ [0] with _ | ⟨t, r⟩
    · simp at hs
    · rw [hs] at hpw he
      rcases back with _ | k
      · simp at he; simp [he]
      · have hm : e ∈ r := by
          rw [List.getElem?_cons_succ] at he
          exact List.mem_of_getElem? he
        have := (List.pairwise_cons.1 hpw).1 e hm
        simp; omega
  have hind : indL e (([97, 10] ++ bodyD ds).length + e) (ds.reverse ++ [0]) = (List.replicate back ⟨kDedent, [], ([97, 10] ++ bodyD ds).length + e⟩, (ds.reverse ++ [0]).drop back) := by
    unfold indL
    rw [if_neg (by omega), hpop]
  have hdh : ((ds.reverse ++ [0]).drop back).headD 0 = e := by
    rw [List.drop_eq_getElem_cons hlen, he']; rfl
  have line1 := lineL_mid ([97, 10] ++ bodyD ds) [] e 99 (ds.reverse ++ [0]) (by rfl) (by rw [hind]; simp only; omega)
  have hl1 : l = ([97, 10] ++ bodyD ds) ++ (List.replicate e 32 ++ [99, 10]) := by rw [hl]; simp
  rw [← hl1, hind] at line1
  have h3 := h2.next (by rw [hl1]; simp) line1
  have hstop := h3.stop (by rw [hl1]; simp; omega)
  refine ⟨_, hstop, ?_⟩
  unfold countD at c2 ⊢
  rw [List.foldl_append, List.foldl_append, List.foldl_append, c2, List.foldl_append]
  have e1 := countD_dedents back (([97, 10] ++ bodyD ds).length + e) (ds.length, 0, 0)
  unfold countD at e1
  simp only [Nat.zero_add]
  rw [e1]
  have e2 : ∀ q r : Nat, List.foldl stepD ((ds.length, 0 + back, 0) : Nat × Nat × Nat) [⟨kName, [99], q⟩, ⟨kNewline, [], r⟩] = (ds.length, 0 + back, 0 + back) := by
    intro q r; simp [stepD, kIndent, kName, kDedent, kNewline]
  rw [e2]
  have e3 := countD_dedents (((ds.reverse ++ [0]).drop back).length - 1) l.length (ds.length, 0 + back, 0 + back)
  unfold countD at e3
  rw [e3]
  have e4 : ((ds.reverse ++ [0]).drop back).length - 1 = ds.length - back := by simp; omega
  rw [e4]
  simp [stepD, kIndent, kName, kDedent, kEnd]
  omega

end Go.Proofs.YtdoaeapahgmfoaaDoor
