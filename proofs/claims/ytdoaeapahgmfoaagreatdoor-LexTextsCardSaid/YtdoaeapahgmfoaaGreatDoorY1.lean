/- Plain laws of LexTexts: a token that a text holds is a token alone; the program's way to write tokens and the document's give the same. -/
import Derived.Test.YtdoaeapahgmfoaaGreatDoorM1
import Derived.Lib.Repeat
namespace Go.Proofs.YtdoaeapahgmfoaaGreatDoor
open Go.RowKit

/-- What a token is as a text. -/
def textS (kd tx : List UInt8) : List UInt8 := if kd = kStr then quotedL tx else tx

theorem tokL_no (c : UInt8) (r : List UInt8) (h : c.toNat = 32 ∨ c.toNat = 35 ∨ c.toNat = 10) : tokL (c :: r) = none := by
  rcases h with h | h | h <;> (have e := byte_of h; subst e; rfl)

/-- A text that is one token. -/
theorem lexL_one (x k t : List UInt8) (h : tokL x = some (k, t, x.length)) : lexL x = .ok [⟨k, t, 0⟩, ⟨kNewline, [], x.length⟩, ⟨kEnd, [], x.length⟩] := by
  have hpos : 0 < x.length := (tokL_pos h).1
  obtain ⟨c, r, hq⟩ : ∃ c r, x = c :: r := by
    rcases x with _ | ⟨c, r⟩
    · simp at hpos
    · exact ⟨c, r, rfl⟩
  have hc : c.toNat ≠ 32 ∧ c.toNat ≠ 35 ∧ c.toNat ≠ 10 := by
    refine ⟨fun e => ?_, fun e => ?_, fun e => ?_⟩
    · rw [hq, tokL_no c r (.inl e)] at h; cases h
    · rw [hq, tokL_no c r (.inr (.inl e))] at h; cases h
    · rw [hq, tokL_no c r (.inr (.inr e))] at h; cases h
  have h0 : x[0] = c := by simp [hq]
  have h0' : x[0]? = some c := by simp [hq]
  have hs : spanL blankB x 0 = 0 := spanL_no _ _ _ hpos (by rw [h0]; unfold blankB; simpa using hc.1)
  have hcm : commentL x 0 = 0 := by unfold commentL; rw [h0']; simp only [if_neg hc.2.1]
  have he : endB x 0 = false := by unfold endB; rw [h0']; simpa using hc.2.2
  have ht : tokL (x.drop 0) = some (k, t, x.length) := by rw [List.drop_zero]; exact h
  have hnone : x[x.length]? = none := List.getElem?_eq_none (Nat.le_refl _)
  have hs2 : spanL blankB x (0 + x.length) = x.length := by rw [Nat.zero_add]; exact spanL_end _ _ _ (Nat.le_refl _)
  have hc2 : commentL x x.length = x.length := by unfold commentL; rw [hnone]
  have he2 : endB x x.length = true := by unfold endB; rw [hnone]
  have htoks : toksL (x.length + 1) x 0 = .ok ([⟨k, t, 0⟩], x.length) := by
    rw [toksL, if_neg (by rw [he]; decide), ht]
    simp only
    rw [hs2, hc2]
    have h2 : ∀ f, toksL (f + 1) x x.length = .ok ([], x.length) := by intro f; rw [toksL, if_pos he2]
    have h1 : toksL x.length x x.length = .ok ([], x.length) := by
      have e : x.length = (x.length - 1) + 1 := by omega
      have h3 := h2 (x.length - 1)
      rwa [← e] at h3
    rw [h1]
  have hline : lineL x 0 [0] = .ok ([⟨k, t, 0⟩, ⟨kNewline, [], x.length⟩], x.length + 1, [0]) := by
    unfold lineL
    rw [hs, hcm, if_neg (by rw [he]; decide), htoks]
    rfl
  have hlines : linesL (x.length + 1) x 0 [0] = .ok ([⟨k, t, 0⟩, ⟨kNewline, [], x.length⟩], [0]) := by
    rw [linesL, if_pos hpos, hline]
    simp only
    have h4 : ∀ f, linesL f x (x.length + 1) [0] = .ok ([], [0]) := by
      intro f
      cases f with
      | zero => rfl
      | succ f => rw [linesL, if_neg (by omega)]
    rw [h4]
    rfl
  unfold lexL
  rw [hlines]
  rfl

theorem tw_take (p : UInt8 → Bool) : ∀ l : List UInt8, l.take (l.takeWhile p).length = l.takeWhile p
  | [] => rfl
  | c :: r => by
    rw [List.takeWhile_cons]
    split
    · simp [tw_take p r]
    · simp
theorem tw_tw (p : UInt8 → Bool) : ∀ l : List UInt8, (l.takeWhile p).takeWhile p = l.takeWhile p
  | [] => rfl
  | c :: r => by
    rw [List.takeWhile_cons]
    split
    · rename_i h; rw [List.takeWhile_cons, if_pos h, tw_tw p r]
    · rfl
theorem spanL_take (p : UInt8 → Bool) (r : List UInt8) (i : Nat) : spanL p (r.take (spanL p r i)) i = spanL p r i := by
  have e : (r.take (spanL p r i)).drop i = (r.drop i).takeWhile p := by
    rw [List.drop_take, show spanL p r i - i = ((r.drop i).takeWhile p).length by unfold spanL; omega, tw_take]
  show i + (((r.take (spanL p r i)).drop i).takeWhile p).length = spanL p r i
  rw [e, tw_tw]
  rfl
theorem tokL_ops : ∀ o ∈ opsL, tokL o = some (kOp, o, o.length) := by decide +kernel

/-- A token that is no str is a token alone, of all its bytes. -/
theorem tokL_alone {r k x : List UInt8} {n : Nat} (h : tokL r = some (k, x, n)) (hk : k ≠ kStr) : tokL x = some (k, x, x.length) := by
  match r, h with
  | [], h => simp [tokL] at h
  | c :: r', h =>
    simp only [tokL] at h
    split at h
    · rename_i hc
      have h1 := spanL_le wordB (c :: r') 1 (by simp)
      have h2 := spanL_take wordB (c :: r') 1
      obtain ⟨m, hm⟩ : ∃ m, spanL wordB (c :: r') 1 = m + 1 := ⟨spanL wordB (c :: r') 1 - 1, by omega⟩
      rw [hm] at h h1 h2
      have ht : (c :: r').take (m + 1) = c :: r'.take m := rfl
      have ht2 : (c :: r'.take m).take (m + 1) = c :: r'.take m := by rw [List.take_succ_cons, List.take_take, Nat.min_self]
      have hl : (c :: r'.take m).length = m + 1 := by simp at h1 ⊢; omega
      rw [ht] at h h2
      split at h
      · rename_i hw
        injection h with h; injection h with hk1 h; injection h with hx hn; subst hk1; subst hx; subst hn
        simp only [tokL]
        rw [if_pos hc, h2, ht2, if_pos hw, hl]
      · rename_i hw
        split at h
        · rename_i hn
          injection h with h; injection h with hk1 h; injection h with hx hn'; subst hk1; subst hx; subst hn'
          simp only [tokL]
          rw [if_pos hc, h2, ht2, if_neg hw, if_pos hn, hl]
        · cases h
    · rename_i hc
      split at h
      · rename_i hd
        have h1 := spanL_le digitB (c :: r') 0 (by simp)
        have h2 := spanL_take digitB (c :: r') 0
        have h3 : spanL digitB (c :: r') 0 = spanL digitB (c :: r') 1 := spanL_yes digitB (c :: r') 0 (by simp) hd
        have h4 := spanL_le digitB (c :: r') 1 (by simp)
        obtain ⟨m, hm⟩ : ∃ m, spanL digitB (c :: r') 0 = m + 1 := ⟨spanL digitB (c :: r') 0 - 1, by omega⟩
        rw [hm] at h h1 h2
        have ht : (c :: r').take (m + 1) = c :: r'.take m := rfl
        have ht2 : (c :: r'.take m).take (m + 1) = c :: r'.take m := by rw [List.take_succ_cons, List.take_take, Nat.min_self]
        have hl : (c :: r'.take m).length = m + 1 := by simp at h1 ⊢; omega
        rw [ht] at h h2
        split at h
        · rename_i hp
          injection h with h; injection h with hk1 h; injection h with hx hn; subst hk1; subst hx; subst hn
          simp only [tokL]
          rw [if_neg hc, if_pos hd, h2, ht2, if_pos hp, hl]
        · cases h
      · split at h
        · split at h
          · injection h with h; injection h with hk1 h; exact absurd hk1.symm hk
          · cases h
        · split at h
          · rename_i o ho
            injection h with h; injection h with hk1 h; injection h with hx hn; subst hk1; subst hx
            exact tokL_ops o (List.mem_of_find?_eq_some ho)
          · cases h

theorem tokL_kinds {r kd tx : List UInt8} {n : Nat} (h : tokL r = some (kd, tx, n)) : kd = kWord ∨ kd = kName ∨ kd = kInt ∨ kd = kStr ∨ kd = kOp := by
  match r, h with
  | [], h => simp [tokL] at h
  | c :: r', h =>
    simp only [tokL] at h
    split at h
    · split at h
      · injection h with h; injection h with h _; exact .inl h.symm
      · split at h
        · injection h with h; injection h with h _; exact .inr (.inl h.symm)
        · cases h
    · split at h
      · split at h
        · injection h with h; injection h with h _; exact .inr (.inr (.inl h.symm))
        · cases h
      · split at h
        · split at h
          · injection h with h; injection h with h _; exact .inr (.inr (.inr (.inl h.symm)))
          · cases h
        · split at h
          · injection h with h; injection h with h _; exact .inr (.inr (.inr (.inr h.symm)))
          · cases h

/-- A token as a text holds it, ahead of the end. -/
def OutTok (k x : List UInt8) : Prop := ((k = kNewline ∨ k = kIndent ∨ k = kDedent) ∧ x = []) ∨ ∃ r n, tokL r = some (k, x, n)

theorem toksL_out : ∀ (f : Nat) (l : List UInt8) (k : Nat) (ts : List Tok) (j : Nat), toksL f l k = .ok (ts, j) → ∀ t ∈ ts, OutTok t.kind t.text := by
  intro f
  induction f with
  | zero => intro l k ts j h; rw [toksL] at h; injection h with h; injection h with h1 _; subst h1; simp
  | succ f ih =>
    intro l k ts j h
    rw [toksL] at h
    split at h
    · injection h with h; injection h with h1 _; subst h1; simp
    · split at h
      · cases h
      · rename_i kd tx n ht
        split at h
        · cases h
        · rename_i ts' j' he
          injection h with h; injection h with h1 _; subst h1
          intro t hm
          rcases List.mem_cons.1 hm with rfl | hm
          · exact .inr ⟨_, _, ht⟩
          · exact ih _ _ _ _ he t hm
theorem popL_out (deep b : Nat) : ∀ st : List Nat, ∀ t ∈ (popL deep b st).1, OutTok t.kind t.text
  | [], t, h => by simp [popL] at h
  | u :: r, t, h => by
    unfold popL at h
    split at h
    · rcases List.mem_cons.1 h with rfl | h
      · exact .inl ⟨.inr (.inr rfl), rfl⟩
      · exact popL_out deep b r t h
    · simp at h
theorem indL_out (deep b : Nat) (st : List Nat) (t : Tok) (h : t ∈ (indL deep b st).1) : OutTok t.kind t.text := by
  unfold indL at h
  split at h
  · simp at h; rw [h]; exact .inl ⟨.inr (.inl rfl), rfl⟩
  · exact popL_out deep b st t h
theorem lineL_out {l : List UInt8} {i : Nat} {st st' : List Nat} {ts : List Tok} {j : Nat} (hl : lineL l i st = .ok (ts, j, st')) : ∀ t ∈ ts, OutTok t.kind t.text := by
  unfold lineL at hl
  split at hl
  · injection hl with hl; injection hl with h1 hl; subst h1; simp
  · split at hl
    · cases hl
    · split at hl
      · cases hl
      · rename_i ts0 k hk
        injection hl with hl; injection hl with h1 hl; subst h1
        intro t ht
        rcases List.mem_append.1 ht with ht | ht
        · rcases List.mem_append.1 ht with ht | ht
          · exact indL_out _ _ _ t ht
          · exact toksL_out _ _ _ _ _ hk t ht
        · simp at ht; rw [ht]; exact .inl ⟨.inl rfl, rfl⟩
theorem linesL_out : ∀ (f : Nat) (l : List UInt8) (i : Nat) (st st' : List Nat) (ts : List Tok), linesL f l i st = .ok (ts, st') → ∀ t ∈ ts, OutTok t.kind t.text := by
  intro f
  induction f with
  | zero => intro l i st st' ts h; rw [linesL] at h; injection h with h; injection h with h1 _; subst h1; simp
  | succ f ih =>
    intro l i st st' ts h
    rw [linesL] at h
    split at h
    · split at h
      · cases h
      · rename_i ts1 j st1 hl
        split at h
        · cases h
        · rename_i ts2 st2 h2
          injection h with h; injection h with e1 _; subst e1
          intro t ht
          rcases List.mem_append.1 ht with ht | ht
          · exact lineL_out hl t ht
          · exact ih _ _ _ _ _ h2 t ht
    · injection h with h; injection h with h1 _; subst h1; simp
theorem lexL_out {l : List UInt8} {ts : List Tok} (h : lexL l = .ok ts) : ∃ us b, ts = us ++ [⟨kEnd, [], b⟩] ∧ ∀ t ∈ us, OutTok t.kind t.text := by
  unfold lexL at h
  split at h
  · cases h
  · rename_i ts1 st1 h1
    injection h with h
    refine ⟨_, _, h.symm, ?_⟩
    intro t ht
    rcases List.mem_append.1 ht with ht | ht
    · exact linesL_out _ _ _ _ _ _ h1 t ht
    · rw [List.eq_of_mem_replicate ht]; exact .inl ⟨.inr (.inr rfl), rfl⟩

/-- Is a token what its text is? -/
def oneOk (k x : List UInt8) : Bool := decide ((textS k x).length ≤ 6000) && (match lexL (textS k x) with
  | .ok [a, _, _] => a.kind == k && a.text == x
  | _ => false)

theorem hexV_hexD' (n : Nat) (h : n < 16) : hexV (hexD n) = some n := by
  have h1 : ∀ n : Fin 16, hexV (hexD n.val) = some n.val := by decide +kernel
  exact h1 ⟨n, h⟩
theorem unq_qB' (c : UInt8) (r acc : List UInt8) (i : Nat) : unq (qB c ++ r) acc i = unq r (acc ++ [c]) (i + (qB c).length) := by
  have hc := c.toNat_lt
  unfold qB
  split
  · rename_i h
    have e : c = 10 := UInt8.toNat_inj.mp (by rw [h]; rfl)
    subst e
    simp only [List.cons_append, List.nil_append]
    rw [unq_cons]
    simp
  · split
    · rename_i h1 h
      simp only [List.cons_append, List.nil_append]
      rw [unq_cons]
      have n1 : c.toNat ≠ 110 := by omega
      simp [n1, h]
    · split
      · simp only [List.cons_append, List.nil_append]
        rw [unq_cons]
        simp only [hexV_hexD' _ (show c.toNat / 16 < 16 by omega), hexV_hexD' _ (show c.toNat % 16 < 16 by omega)]
        have e : UInt8.ofNat (16 * (c.toNat / 16) + c.toNat % 16) = c := by rw [Nat.div_add_mod]; simp
        rw [e]
        simp
      · rename_i h1 h2 h3
        simp only [List.cons_append, List.nil_append]
        rw [unq_cons, if_neg (by omega), if_neg (by omega), if_pos (by omega)]
        simp
theorem unq_qL' : ∀ (l acc : List UInt8) (i : Nat), unq (qL l ++ [34]) acc i = some (acc ++ l, i + (qL l).length + 1)
  | [], acc, i => by simp [qL, unq_cons]
  | c :: r, acc, i => by
    rw [show qL (c :: r) ++ [34] = qB c ++ (qL r ++ [34]) by simp [qL], unq_qB', unq_qL' r]
    simp [qL]; omega
theorem tokL_quoted (l : List UInt8) : tokL (quotedL l) = some (kStr, l, (quotedL l).length) := by
  have hq : quotedL l = 34 :: (qL l ++ [34]) := by simp [quotedL]
  have hn : (quotedL l).length = 1 + (qL l).length + 1 := by simp [quotedL]; omega
  have hu : unqS (quotedL l) = some (l, (quotedL l).length) := by
    unfold unqS
    rw [hq, List.drop_one, List.tail_cons, unq_qL', ← hq, hn]
    rfl
  rw [hq] at hu ⊢
  unfold tokL
  rw [hu]
  rfl

theorem oneOk_out {k x : List UInt8} (h : ∃ r n, tokL r = some (k, x, n)) (hs : (textS k x).length ≤ 6000) : oneOk k x = true := by
  obtain ⟨r, n, h⟩ := h
  have ht : tokL (textS k x) = some (k, x, (textS k x).length) := by
    unfold textS
    by_cases hk : k = kStr
    · rw [if_pos hk, hk]; exact tokL_quoted x
    · rw [if_neg hk]; exact tokL_alone h hk
  unfold oneOk
  rw [lexL_one _ _ _ ht]
  simp [hs]

/-! How tokens are written. -/
def pieceL (k x : List UInt8) (d : Nat) (bg : Bool) : List UInt8 := (if bg = true then [32] else Lib.repeatL [32, 32, 32, 32] d) ++ textS k x
/-- The program's way: none: there is no text. -/
def progL : List (List UInt8 × List UInt8) → Nat → Bool → List UInt8 → Option (List UInt8)
  | [], _, _, l => some l
  | t :: r, d, bg, l =>
    if t.1 = kNewline then progL r d false (l ++ [10])
    else if t.1 = kIndent then progL r (d + 1) bg l
    else if t.1 = kDedent then (if d = 0 then none else progL r (d - 1) bg l)
    else if t.1 = kEnd then (if 0 < r.length then none else progL r d bg l)
    else if oneOk t.1 t.2 = false then none
    else if 6000 < l.length then none
    else progL r d true (l ++ pieceL t.1 t.2 d bg)
/-- The document's way. -/
def chkL (d : Nat) (l : List UInt8) (o : Option (List UInt8)) : Option (List UInt8) := if 6000 < l.length ∨ 2000 < d then none else o
def refL : List (List UInt8 × List UInt8) → Nat → Bool → List UInt8 → Option (List UInt8)
  | [], _, _, l => some l
  | t :: r, d, bg, l =>
    if t.1 = kNewline then chkL d (l ++ [10]) (refL r d false (l ++ [10]))
    else if t.1 = kIndent then chkL (d + 1) l (refL r (d + 1) bg l)
    else if t.1 = kDedent then (if d = 0 then none else chkL (d - 1) l (refL r (d - 1) bg l))
    else if t.1 = kEnd then chkL d l (refL r d bg l)
    else chkL d (l ++ pieceL t.1 t.2 d bg) (refL r d true (l ++ pieceL t.1 t.2 d bg))
/-- Does a text have just these tokens? -/
def readsL (l : List UInt8) (ts : List (List UInt8 × List UInt8)) : Bool := match lexL l with
  | .ok us => us.map kt == ts
  | .error _ => false
def progT (ts : List (List UInt8 × List UInt8)) : Option (List UInt8) := match progL ts 0 false [] with
  | none => none
  | some l => if l.length ≤ 6000 ∧ readsL l ts = true then some l else none
def refT (ts : List (List UInt8 × List UInt8)) : Option (List UInt8) := match refL ts 0 false [] with
  | none => none
  | some l => if readsL l ts = true then some l else none

theorem progL_mono : ∀ (ts : List (List UInt8 × List UInt8)) (d : Nat) (bg : Bool) (l o : List UInt8), progL ts d bg l = some o → l.length ≤ o.length
  | [], d, bg, l, o, h => by simp [progL] at h; rw [h]; exact Nat.le_refl _
  | t :: r, d, bg, l, o, h => by
    unfold progL at h
    split at h
    · have := progL_mono r _ _ _ _ h; simp at this; omega
    · split at h
      · exact progL_mono r _ _ _ _ h
      · split at h
        · split at h
          · cases h
          · exact progL_mono r _ _ _ _ h
        · split at h
          · split at h
            · cases h
            · exact progL_mono r _ _ _ _ h
          · split at h
            · cases h
            · split at h
              · cases h
              · have := progL_mono r _ _ _ _ h; simp at this; omega
theorem chkL_no {d : Nat} {l : List UInt8} {o : Option (List UInt8)} (h1 : l.length ≤ 6000) (h2 : d ≤ 2000) : chkL d l o = o := if_neg (by omega)
theorem chkL_some {d : Nat} {l x : List UInt8} {o : Option (List UInt8)} (h : chkL d l o = some x) : l.length ≤ 6000 ∧ d ≤ 2000 ∧ o = some x := by
  unfold chkL at h
  split at h
  · cases h
  · exact ⟨by omega, by omega, h⟩
theorem ref_of_prog : ∀ (ts : List (List UInt8 × List UInt8)) (d : Nat) (bg : Bool) (l o : List UInt8), progL ts d bg l = some o → o.length ≤ 6000 → d + ts.length ≤ 2000 → refL ts d bg l = some o
  | [], d, bg, l, o, h, _, _ => h
  | t :: r, d, bg, l, o, h, ho, hd => by
    simp only [List.length_cons] at hd
    unfold progL at h
    unfold refL
    split at h
    · rename_i c1
      have := progL_mono r _ _ _ _ h
      rw [if_pos c1, chkL_no (by omega) (by omega)]
      exact ref_of_prog r _ _ _ _ h ho (by omega)
    · rename_i c1
      split at h
      · rename_i c2
        have := progL_mono r _ _ _ _ h
        rw [if_neg c1, if_pos c2, chkL_no (by omega) (by omega)]
        exact ref_of_prog r _ _ _ _ h ho (by omega)
      · rename_i c2
        split at h
        · rename_i c3
          split at h
          · cases h
          · rename_i c4
            have := progL_mono r _ _ _ _ h
            rw [if_neg c1, if_neg c2, if_pos c3, if_neg c4, chkL_no (by omega) (by omega)]
            exact ref_of_prog r _ _ _ _ h ho (by omega)
        · rename_i c3
          split at h
          · rename_i c4
            split at h
            · cases h
            · have := progL_mono r _ _ _ _ h
              rw [if_neg c1, if_neg c2, if_neg c3, if_pos c4, chkL_no (by omega) (by omega)]
              exact ref_of_prog r _ _ _ _ h ho (by omega)
          · rename_i c4
            split at h
            · cases h
            · split at h
              · cases h
              · have := progL_mono r _ _ _ _ h
                rw [if_neg c1, if_neg c2, if_neg c3, if_neg c4, chkL_no (by omega) (by omega)]
                exact ref_of_prog r _ _ _ _ h ho (by omega)
/-- An ordinary token is one that a text may hold; the end stands last. -/
def Likely : List (List UInt8 × List UInt8) → Prop
  | [] => True
  | t :: r => (t.1 = kEnd → r = []) ∧ (t.1 ≠ kNewline → t.1 ≠ kIndent → t.1 ≠ kDedent → t.1 ≠ kEnd → ∃ s n, tokL s = some (t.1, t.2, n)) ∧ Likely r
theorem prog_of_ref : ∀ (ts : List (List UInt8 × List UInt8)) (d : Nat) (bg : Bool) (l o : List UInt8), Likely ts → refL ts d bg l = some o → l.length ≤ 6000 → progL ts d bg l = some o ∧ o.length ≤ 6000
  | [], d, bg, l, o, _, h, hl => ⟨h, by simp [refL] at h; rw [← h]; exact hl⟩
  | t :: r, d, bg, l, o, hk, h, hl => by
    obtain ⟨k1, k2, k3⟩ := hk
    unfold refL at h
    unfold progL
    split at h
    · rename_i c1
      obtain ⟨a, b, h⟩ := chkL_some h
      rw [if_pos c1]
      exact prog_of_ref r _ _ _ _ k3 h a
    · rename_i c1
      split at h
      · rename_i c2
        obtain ⟨a, b, h⟩ := chkL_some h
        rw [if_neg c1, if_pos c2]
        exact prog_of_ref r _ _ _ _ k3 h a
      · rename_i c2
        split at h
        · rename_i c3
          split at h
          · cases h
          · rename_i c4
            obtain ⟨a, b, h⟩ := chkL_some h
            rw [if_neg c1, if_neg c2, if_pos c3, if_neg c4]
            exact prog_of_ref r _ _ _ _ k3 h a
        · rename_i c3
          split at h
          · rename_i c4
            obtain ⟨a, b, h⟩ := chkL_some h
            rw [if_neg c1, if_neg c2, if_neg c3, if_pos c4, if_neg (by rw [k1 c4]; simp)]
            exact prog_of_ref r _ _ _ _ k3 h a
          · rename_i c4
            obtain ⟨a, b, h⟩ := chkL_some h
            have hp : (pieceL t.1 t.2 d bg).length = (if bg = true then ([32] : List UInt8) else Lib.repeatL [32, 32, 32, 32] d).length + (textS t.1 t.2).length := by unfold pieceL; rw [List.length_append]
            have ha := a
            rw [List.length_append] at ha
            have ho := oneOk_out (k2 c1 c2 c3 c4) (by omega)
            rw [if_neg c1, if_neg c2, if_neg c3, if_neg c4, if_neg (by rw [ho]; decide), if_neg (by omega)]
            exact prog_of_ref r _ _ _ _ k3 h a

theorem likely_of : ∀ (us : List (List UInt8 × List UInt8)) (x : List UInt8), (∀ t ∈ us, OutTok t.1 t.2) → Likely (us ++ [(kEnd, x)])
  | [], x, _ => ⟨fun _ => rfl, fun _ _ _ h => absurd rfl h, trivial⟩
  | t :: r, x, h => by
    have ht := h t (by simp)
    refine ⟨fun e => ?_, fun h1 h2 h3 h4 => ?_, likely_of r x fun u hu => h u (by simp [hu])⟩
    · exfalso
      have n1 : kEnd ≠ kNewline ∧ kEnd ≠ kIndent ∧ kEnd ≠ kDedent := by decide
      have n2 : kEnd ≠ kWord ∧ kEnd ≠ kName ∧ kEnd ≠ kInt ∧ kEnd ≠ kStr ∧ kEnd ≠ kOp := by decide
      rw [e] at ht
      rcases ht with ⟨ht, _⟩ | ⟨_, _, ht⟩
      · rcases ht with ht | ht | ht
        · exact n1.1 ht
        · exact n1.2.1 ht
        · exact n1.2.2 ht
      · rcases tokL_kinds ht with ht | ht | ht | ht | ht
        · exact n2.1 ht
        · exact n2.2.1 ht
        · exact n2.2.2.1 ht
        · exact n2.2.2.2.1 ht
        · exact n2.2.2.2.2 ht
    · rcases ht with ⟨ht, _⟩ | ht
      · rcases ht with ht | ht | ht
        · exact absurd ht h1
        · exact absurd ht h2
        · exact absurd ht h3
      · exact ht
theorem reads_likely {l : List UInt8} {ts : List (List UInt8 × List UInt8)} (h : readsL l ts = true) : Likely ts := by
  unfold readsL at h
  split at h
  · rename_i us hu
    obtain ⟨vs, b, rfl, hv⟩ := lexL_out hu
    have e : ts = (vs.map kt) ++ [(kEnd, [])] := by
      have := beq_iff_eq.1 h
      rw [← this]; simp [kt]
    rw [e]
    refine likely_of _ _ ?_
    intro t ht
    obtain ⟨u, hu, rfl⟩ := List.mem_map.1 ht
    exact hv u hu
  · cases h
/-- The program's text of tokens is the document's. -/
theorem progT_refT (ts : List (List UInt8 × List UInt8)) (hn : ts.length ≤ 2000) : progT ts = refT ts := by
  unfold progT refT
  rcases hr : refL ts 0 false [] with _ | o
  · simp only
    split
    · rfl
    · rename_i l hl
      split
      · rename_i hc
        have := ref_of_prog ts 0 false [] l hl hc.1 (by omega)
        rw [hr] at this; cases this
      · rfl
  · simp only
    by_cases hk : readsL o ts = true
    · obtain ⟨hp, ho⟩ := prog_of_ref ts 0 false [] o (reads_likely hk) hr (by simp)
      rw [hp]
      simp only
      rw [if_pos ⟨ho, hk⟩, if_pos hk]
    · rw [if_neg hk]
      split
      · rfl
      · rename_i l hl
        split
        · rename_i hc
          have := ref_of_prog ts 0 false [] l hl hc.1 (by omega)
          rw [hr] at this
          injection this with this
          subst this
          exact absurd hc.2 hk
        · rfl
end Go.Proofs.YtdoaeapahgmfoaaGreatDoor
