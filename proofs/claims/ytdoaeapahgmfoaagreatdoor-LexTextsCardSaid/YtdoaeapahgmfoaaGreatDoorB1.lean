/- The plain law of LexBlanks: blanks, a comment, or lines without tokens at a line's end turn no token. -/
import Derived.Test.YtdoaeapahgmfoaaGreatDoorX2
namespace Go.Proofs.YtdoaeapahgmfoaaGreatDoor
open Go.RowKit

/-- A token without its place. -/
def kt (t : Tok) : List UInt8 × List UInt8 := (t.kind, t.text)
/-- A line's end, or the text's. -/
def EndS (r : List UInt8) : Prop := r = [] ∨ ∃ t, r = 10 :: t
def isEnd (r : List UInt8) : Bool := match r with
  | [] => true
  | c :: _ => c.toNat == 10
def skipB (r : List UInt8) : List UInt8 := r.dropWhile blankB
def noNl (b : UInt8) : Bool := b.toNat != 10
def skipC (r : List UInt8) : List UInt8 := match r with
  | [] => []
  | c :: t => if c.toNat = 35 then (c :: t).dropWhile noNl else c :: t
theorem skipC_cons (c : UInt8) (t : List UInt8) : skipC (c :: t) = if c.toNat = 35 then (c :: t).dropWhile noNl else c :: t := rfl
def skipS (r : List UInt8) : List UInt8 := skipC (skipB r)

theorem byte_of {c : UInt8} {n : Nat} (h : c.toNat = n) : c = UInt8.ofNat n := by rw [← h]; simp
theorem EndS.isEnd {r : List UInt8} (h : EndS r) : isEnd r = true := by
  rcases h with rfl | ⟨t, rfl⟩ <;> rfl
theorem drop_tw (p : UInt8 → Bool) : ∀ r : List UInt8, r.drop (r.takeWhile p).length = r.dropWhile p
  | [] => rfl
  | c :: t => by
    rw [List.takeWhile_cons, List.dropWhile_cons]
    split
    · simpa using drop_tw p t
    · rfl
theorem drop_spanL (p : UInt8 → Bool) (l : List UInt8) (i : Nat) : l.drop (spanL p l i) = (l.drop i).dropWhile p := by
  unfold spanL; rw [← List.drop_drop, drop_tw]
theorem endB_drop (l : List UInt8) (k : Nat) : endB l k = isEnd (l.drop k) := by
  unfold endB isEnd; rw [← List.head?_drop]
  rcases l.drop k with _ | ⟨c, t⟩ <;> rfl
theorem drop_comment (l : List UInt8) (k : Nat) : l.drop (commentL l k) = skipC (l.drop k) := by
  unfold commentL skipC
  rw [← List.head?_drop]
  rcases h : l.drop k with _ | ⟨c, t⟩
  · simpa using h
  · simp only [List.head?_cons]
    split
    · rw [drop_spanL, h]; rfl
    · exact h
theorem drop_skip (l : List UInt8) (k : Nat) : l.drop (commentL l (spanL blankB l k)) = skipS (l.drop k) := by
  rw [drop_comment, drop_spanL]; rfl
theorem dropWhile_len (p : UInt8 → Bool) (r : List UInt8) : (r.dropWhile p).length ≤ r.length := (List.dropWhile_sublist p).length_le
theorem skipC_len (r : List UInt8) : (skipC r).length ≤ r.length := by
  unfold skipC; split
  · simp
  · split
    · exact dropWhile_len _ _
    · exact Nat.le_refl _
theorem skipS_len (r : List UInt8) : (skipS r).length ≤ r.length := by
  have h1 := skipC_len (skipB r)
  have h2 := dropWhile_len blankB r
  unfold skipS skipB at *
  omega

/-- The tokens of a line from here on, and what stands behind them. -/
def toksS : Nat → List UInt8 → Option (List (List UInt8 × List UInt8) × List UInt8)
  | 0, r => some ([], r)
  | f + 1, r => if isEnd r = true then some ([], r) else match tokL r with
    | none => none
    | some (kd, tx, n) => match toksS f (skipS (r.drop n)) with
      | none => none
      | some (ts, x) => some ((kd, tx) :: ts, x)

theorem toksL_S : ∀ (f : Nat) (l : List UInt8) (k : Nat), (match toksL f l k with
    | .error _ => none
    | .ok (ts, j) => some (ts.map kt, l.drop j)) = toksS f (l.drop k) := by
  intro f
  induction f with
  | zero => intro l k; rfl
  | succ f ih =>
    intro l k
    rw [toksL, toksS, endB_drop]
    rcases he : isEnd (l.drop k) with _ | _
    · simp only [Bool.false_eq_true, if_false]
      rcases ht : tokL (l.drop k) with _ | ⟨kd, tx, n⟩
      · rfl
      · simp only
        have h := ih l (commentL l (spanL blankB l (k + n)))
        rw [drop_skip, ← List.drop_drop] at h
        rw [← h]
        rcases toksL f l (commentL l (spanL blankB l (k + n))) with e | ⟨ts, j⟩ <;> rfl
    · simp
theorem toksS_len : ∀ (f : Nat) (r : List UInt8) (ts) (x : List UInt8), toksS f r = some (ts, x) → x.length ≤ r.length := by
  intro f
  induction f with
  | zero => intro r ts x h; rw [toksS] at h; injection h with h; injection h with _ h; subst h; exact Nat.le_refl _
  | succ f ih =>
    intro r ts x h
    rw [toksS] at h
    split at h
    · injection h with h; injection h with _ h; subst h; exact Nat.le_refl _
    · split at h
      · cases h
      · rename_i kd tx n ht
        split at h
        · cases h
        · rename_i ts' x' hx
          injection h with h; injection h with _ h; subst h
          have h1 := ih _ _ _ hx
          have h2 := skipS_len (r.drop n)
          simp only [List.length_drop] at h2
          omega
theorem toksS_fuel : ∀ (f g : Nat) (r : List UInt8), r.length < f → r.length < g → toksS f r = toksS g r := by
  intro f
  induction f with
  | zero => intro g r h; omega
  | succ f ih =>
    intro g r h1 h2
    match g, h2 with
    | 0, h2 => omega
    | g + 1, h2 =>
      rw [toksS, toksS]
      rcases ht : tokL r with _ | ⟨kd, tx, n⟩
      · rfl
      · have hn := tokL_pos ht
        have h3 := skipS_len (r.drop n)
        simp only [List.length_drop] at h3
        simp only
        rw [ih g _ (by omega) (by omega)]

/-- Behind a line's bytes: nothing that goes on with a token. -/
structure TailV (v1 v2 : List UInt8) : Prop where
  fin : EndS v2
  noq : ∀ b ∈ v1, b.toNat ≠ 34
  non : ∀ b ∈ v1, noNl b = true
  hd : v1 = [] ∨ ∃ t, v1 = 32 :: t
  skip : skipS (v1 ++ v2) = v2

theorem TailV.nil {v2 : List UInt8} (h : EndS v2) : TailV [] v2 := by
  refine ⟨h, by simp, by simp, .inl rfl, ?_⟩
  rcases h with rfl | ⟨t, rfl⟩ <;> rfl

theorem unq_nope {v2 : List UInt8} (h2 : EndS v2) : ∀ (m : Nat) (v1 acc : List UInt8) (i : Nat), v1.length ≤ m → (∀ b ∈ v1, b.toNat ≠ 34) → unq (v1 ++ v2) acc i = none := by
  have hx10 : hexV 10 = none := by decide
  intro m
  induction m with
  | zero =>
    intro v1 acc i hm h1
    have : v1 = [] := List.eq_nil_of_length_eq_zero (by omega)
    subst this
    rcases h2 with rfl | ⟨t, rfl⟩
    · rfl
    · rw [List.nil_append, unq_cons]; rfl
  | succ m ih =>
    intro v1 acc i hm h1
    match v1, hm, h1 with
    | [], _, h1 => exact ih [] acc i (by simp) h1
    | c :: w, hm, h1 =>
      simp only [List.length_cons] at hm
      rw [List.cons_append, unq_cons, if_neg (h1 c (by simp))]
      split
      · rfl
      · split
        · exact ih w _ _ (by omega) (fun b hb => h1 b (by simp [hb]))
        · match w, hm, h1 with
          | [], _, _ =>
            rcases h2 with rfl | ⟨t, rfl⟩
            · rfl
            · rfl
          | d :: w2, hm, h1 =>
            simp only [List.length_cons] at hm
            have hd := h1 d (by simp)
            simp only [List.cons_append]
            split
            · exact ih w2 _ _ (by omega) (fun b hb => h1 b (by simp [hb]))
            · split
              · exact ih w2 _ _ (by omega) (fun b hb => h1 b (by simp [hb]))
              · split
                · match w2, hm, h1 with
                  | [], _, _ =>
                    rcases h2 with rfl | ⟨t, rfl⟩
                    · rfl
                    · rcases t with _ | ⟨y, t⟩
                      · rfl
                      · simp only [List.nil_append, hx10]
                  | [a], _, _ =>
                    rcases h2 with rfl | ⟨t, rfl⟩
                    · rfl
                    · simp only [List.cons_append, List.nil_append, hx10]
                      split
                      · rename_i h; cases h
                      · rfl
                  | a :: b :: w3, hm, h1 =>
                    simp only [List.length_cons] at hm
                    simp only [List.cons_append]
                    split
                    · exact ih w3 _ _ (by omega) (fun b hb => h1 b (by simp [hb]))
                    · rfl
                · rfl

theorem unq_tail {v1 v2 : List UInt8} (T : TailV v1 v2) : ∀ (m : Nat) (u acc : List UInt8) (i : Nat), u.length ≤ m → unq (u ++ (v1 ++ v2)) acc i = unq u acc i := by
  have hq34 : hexV 34 = none := by decide
  have hnil : ∀ acc i, unq [] acc i = none := fun _ _ => rfl
  intro m
  induction m with
  | zero =>
    intro u acc i hm
    have : u = [] := List.eq_nil_of_length_eq_zero (by omega)
    subst this
    rw [List.nil_append, unq_nope T.fin _ _ _ _ (Nat.le_refl _) T.noq, hnil]
  | succ m ih =>
    intro u acc i hm
    match u, hm with
    | [], _ => exact ih [] acc i (by simp)
    | c :: r, hm =>
      simp only [List.length_cons] at hm
      rw [List.cons_append, unq_cons, unq_cons c r]
      split
      · rfl
      · split
        · rfl
        · split
          · exact ih r _ _ (by omega)
          · rename_i h34 hr h92
            have hc : c.toNat = 92 := by omega
            match r, hm with
            | [], _ =>
              have h := unq_nope T.fin _ (c :: v1) acc i (Nat.le_refl _) (by
                intro b hb; rcases List.mem_cons.1 hb with rfl | hb
                · omega
                · exact T.noq b hb)
              rw [List.cons_append, unq_cons, if_neg h34, if_neg hr, if_neg h92] at h
              exact h
            | d :: r2, hm =>
              simp only [List.length_cons] at hm
              simp only [List.cons_append]
              split
              · exact ih r2 _ _ (by omega)
              · split
                · exact ih r2 _ _ (by omega)
                · rename_i h110 h92d
                  split
                  · rename_i h120
                    match r2, hm with
                    | [], _ =>
                      have h := unq_nope T.fin _ (c :: d :: v1) acc i (Nat.le_refl _) (by
                        intro b hb; rcases List.mem_cons.1 hb with rfl | hb
                        · omega
                        · rcases List.mem_cons.1 hb with rfl | hb
                          · omega
                          · exact T.noq b hb)
                      rw [List.cons_append, unq_cons, if_neg h34, if_neg hr, if_neg h92] at h
                      simp only [List.cons_append] at h
                      rw [if_neg h110, if_neg h92d, if_pos h120] at h
                      exact h
                    | [a], _ =>
                      by_cases ha : a.toNat = 34
                      · have e := byte_of ha
                        subst e
                        have hq : hexV (UInt8.ofNat 34) = none := by decide
                        simp only [List.cons_append, List.nil_append]
                        rcases v1 ++ v2 with _ | ⟨y, t⟩
                        · rfl
                        · simp only [hq]
                      · have h := unq_nope T.fin _ (c :: d :: a :: v1) acc i (Nat.le_refl _) (by
                          intro b hb; rcases List.mem_cons.1 hb with rfl | hb
                          · omega
                          · rcases List.mem_cons.1 hb with rfl | hb
                            · omega
                            · rcases List.mem_cons.1 hb with rfl | hb
                              · exact ha
                              · exact T.noq b hb)
                        rw [List.cons_append, unq_cons, if_neg h34, if_neg hr, if_neg h92] at h
                        simp only [List.cons_append] at h
                        rw [if_neg h110, if_neg h92d, if_pos h120] at h
                        exact h
                    | a :: b :: r3, hm =>
                      simp only [List.length_cons] at hm
                      simp only [List.cons_append]
                      split
                      · exact ih r3 _ _ (by omega)
                      · rfl
                  · rfl

theorem tw_tail (p : UInt8 → Bool) {v : List UInt8} (hv : v.takeWhile p = []) : ∀ x : List UInt8, (x ++ v).takeWhile p = x.takeWhile p
  | [] => hv
  | c :: t => by rw [List.cons_append, List.takeWhile_cons, List.takeWhile_cons, tw_tail p hv t]
theorem TailV.tw {v1 v2 : List UInt8} (T : TailV v1 v2) (p : UInt8 → Bool) (h32 : p 32 = false) (h10 : p 10 = false) : (v1 ++ v2).takeWhile p = [] := by
  rcases T.hd with rfl | ⟨t, rfl⟩
  · rcases T.fin with rfl | ⟨t, rfl⟩
    · rfl
    · rw [List.nil_append, List.takeWhile_cons, h10]; rfl
  · rw [List.cons_append, List.takeWhile_cons, h32]; rfl
theorem TailV.head {v1 v2 : List UInt8} (T : TailV v1 v2) : v1 ++ v2 = [] ∨ (∃ t, v1 ++ v2 = 32 :: t) ∨ ∃ t, v1 ++ v2 = 10 :: t := by
  rcases T.hd with rfl | ⟨t, rfl⟩
  · rcases T.fin with rfl | ⟨t, rfl⟩
    · exact .inl rfl
    · exact .inr (.inr ⟨t, rfl⟩)
  · exact .inr (.inl ⟨_, rfl⟩)
theorem spanL_tail {v1 v2 : List UInt8} (T : TailV v1 v2) (p : UInt8 → Bool) (h32 : p 32 = false) (h10 : p 10 = false) (a : List UInt8) (i : Nat) (hi : i ≤ a.length) :
    spanL p (a ++ (v1 ++ v2)) i = spanL p a i := by
  unfold spanL
  rw [List.drop_append_of_le_length hi, tw_tail p (T.tw p h32 h10)]
theorem find_congr {p q : List UInt8 → Bool} : ∀ l : List (List UInt8), (∀ o ∈ l, p o = q o) → l.find? p = l.find? q
  | [], _ => rfl
  | o :: r, h => by rw [List.find?_cons, List.find?_cons, h o (by simp), find_congr r (fun o ho => h o (by simp [ho]))]
theorem ops_form : ∀ o ∈ opsL, (match o with
  | [_] => true
  | [_, y] => y.toNat != 32 && y.toNat != 10
  | _ => false) = true := by decide

theorem tokL_tail {v1 v2 : List UInt8} (T : TailV v1 v2) (c : UInt8) (a : List UInt8) : tokL ((c :: a) ++ (v1 ++ v2)) = tokL (c :: a) := by
  have hw := spanL_tail T wordB (by decide) (by decide) (c :: a) 1 (by simp)
  have hd := spanL_tail T digitB (by decide) (by decide) (c :: a) 0 (by simp)
  have lw := (spanL_le wordB (c :: a) 1 (by simp)).2
  have ld := (spanL_le digitB (c :: a) 0 (by simp)).2
  have hu : unqS ((c :: a) ++ (v1 ++ v2)) = unqS (c :: a) := by
    unfold unqS
    exact unq_tail T _ a [] 1 (Nat.le_refl _)
  have ho : opsL.find? (fun o => o.isPrefixOf ((c :: a) ++ (v1 ++ v2))) = opsL.find? (fun o => o.isPrefixOf (c :: a)) := by
    refine find_congr _ fun o ho => ?_
    have hf := ops_form o ho
    match o, hf with
    | [x], _ => simp [List.isPrefixOf]
    | [x, y], hf =>
      simp only [Bool.and_eq_true, bne_iff_ne] at hf
      rcases a with _ | ⟨d, a⟩
      · have e1 : (y == (32 : UInt8)) = false := by rw [beq_eq_false_iff_ne]; intro e; rw [e] at hf; exact hf.1 rfl
        have e2 : (y == (10 : UInt8)) = false := by rw [beq_eq_false_iff_ne]; intro e; rw [e] at hf; exact hf.2 rfl
        rcases T.head with h | ⟨t, h⟩ | ⟨t, h⟩ <;> rw [h] <;> simp [List.isPrefixOf, e1, e2]
      · simp [List.isPrefixOf]
  have h1 : ∀ n, n ≤ (c :: a).length → ((c :: a) ++ (v1 ++ v2)).take n = (c :: a).take n := fun n hn => List.take_append_of_le_length hn
  have e1 := h1 _ lw
  have e2 := h1 _ ld
  rw [List.cons_append] at hw hd hu ho e1 e2 ⊢
  unfold tokL
  simp only [hw, hd, hu, ho, e1, e2]

theorem skipB_app (a v : List UInt8) : skipB (a ++ v) = if (skipB a).isEmpty then skipB v else skipB a ++ v := List.dropWhile_append
theorem dropAll (p : UInt8 → Bool) : ∀ a : List UInt8, (∀ b ∈ a, p b = true) → a.dropWhile p = []
  | [], _ => rfl
  | c :: t, h => by rw [List.dropWhile_cons, if_pos (h c (by simp)), dropAll p t (fun b hb => h b (by simp [hb]))]
theorem EndS.nonl {v2 : List UInt8} (h : EndS v2) : v2.dropWhile noNl = v2 := by
  rcases h with rfl | ⟨t, rfl⟩ <;> rfl
theorem mem_skipB {a : List UInt8} {b : UInt8} (h : b ∈ skipB a) : b ∈ a := (List.dropWhile_sublist blankB).subset h

/-- Behind a line's bytes: the line's own answer. -/
theorem skip_cases {v1 v2 : List UInt8} (T : TailV v1 v2) (a : List UInt8) (ha : ∀ b ∈ a, noNl b = true) :
    (skipS a = [] ∧ skipS (a ++ (v1 ++ v2)) = v2) ∨ ∃ c t, noNl c = true ∧ skipB a = c :: t ∧ skipS a = c :: t ∧ skipS (a ++ (v1 ++ v2)) = (c :: t) ++ (v1 ++ v2) := by
  unfold skipS
  rw [skipB_app]
  rcases h : skipB a with _ | ⟨c, t⟩
  · exact .inl ⟨rfl, T.skip⟩
  · have hc : noNl c = true := ha c (mem_skipB (by rw [h]; simp))
    have ht : ∀ b ∈ c :: t, noNl b = true := fun b hb => ha b (mem_skipB (by rw [h]; exact hb))
    simp only [List.isEmpty_cons, Bool.false_eq_true, if_false]
    by_cases h35 : c.toNat = 35
    · refine .inl ⟨?_, ?_⟩
      · rw [skipC_cons, if_pos h35]; exact dropAll _ _ ht
      · show skipC (c :: (t ++ (v1 ++ v2))) = v2
        rw [skipC_cons, if_pos h35, ← List.cons_append, List.dropWhile_append, dropAll _ _ ht]
        simp only [List.isEmpty_nil, if_true]
        rw [List.dropWhile_append, dropAll _ _ T.non]
        simp only [List.isEmpty_nil, if_true]
        exact T.fin.nonl
    · refine .inr ⟨c, t, hc, rfl, ?_, ?_⟩
      · rw [skipC_cons, if_neg h35]
      · show skipC (c :: (t ++ (v1 ++ v2))) = _
        rw [skipC_cons, if_neg h35]; rfl

theorem toksS_tail {v1 v2 : List UInt8} (T : TailV v1 v2) : ∀ (f : Nat) (a : List UInt8), a.length < f → (∀ b ∈ a, noNl b = true) →
    toksS f (skipS (a ++ (v1 ++ v2))) = match toksS f (skipS a) with
      | none => none
      | some (ts, _) => some (ts, v2) := by
  intro f
  induction f with
  | zero => intro a h; omega
  | succ f ih =>
    intro a hf ha
    rcases skip_cases T a ha with ⟨h1, h2⟩ | ⟨c, t, hc, h0, h1, h2⟩
    · rw [h1, h2, toksS, toksS, if_pos T.fin.isEnd]; rfl
    · have hm : ∀ b ∈ c :: t, noNl b = true := fun b hb => ha b (mem_skipB (by rw [h0]; exact hb))
      have hl : (c :: t).length ≤ a.length := by rw [← h0]; exact dropWhile_len _ _
      have hE : ∀ x, isEnd (c :: x) = false := by
        intro x
        show (c.toNat == 10) = false
        unfold noNl at hc; simpa using hc
      rw [h1, h2, toksS, toksS, tokL_tail T, if_neg (by rw [List.cons_append, hE]; decide), if_neg (by rw [hE]; decide)]
      rcases ht : tokL (c :: t) with _ | ⟨kd, tx, n⟩
      · rfl
      · have hn := tokL_pos ht
        simp only
        rw [List.drop_append_of_le_length hn.2, ih _ (by simp only [List.length_drop]; omega) (fun b hb => hm b (List.mem_of_mem_drop hb))]
        rcases toksS f (skipS ((c :: t).drop n)) with _ | ⟨ts, x⟩ <;> rfl

/-- A line: its tokens, what stands at its end, the open indentations. -/
def lineS (r : List UInt8) (st : List Nat) : Option (List (List UInt8 × List UInt8) × List UInt8 × List Nat) :=
  if isEnd (skipS r) = true then some ([], skipS r, st)
  else if (indL (r.takeWhile blankB).length 0 st).2.headD 0 < (r.takeWhile blankB).length then none
  else match toksS (r.length + 1) (skipS r) with
    | none => none
    | some (ts, x) => some ((indL (r.takeWhile blankB).length 0 st).1.map kt ++ ts ++ [(kNewline, [])], x, (indL (r.takeWhile blankB).length 0 st).2)

theorem popL_kt (deep b : Nat) : ∀ st : List Nat, (popL deep b st).1.map kt = (popL deep 0 st).1.map kt ∧ (popL deep b st).2 = (popL deep 0 st).2
  | [] => ⟨rfl, rfl⟩
  | t :: r => by
    have h := popL_kt deep b r
    unfold popL
    split
    · simp [h.1, h.2, kt]
    · exact ⟨rfl, rfl⟩
theorem indL_kt (deep b : Nat) (st : List Nat) : (indL deep b st).1.map kt = (indL deep 0 st).1.map kt ∧ (indL deep b st).2 = (indL deep 0 st).2 := by
  unfold indL
  split
  · exact ⟨rfl, rfl⟩
  · exact popL_kt deep b st

theorem lineL_S (l : List UInt8) (i : Nat) (st : List Nat) (hi : i ≤ l.length) : (match lineL l i st with
    | .error _ => none
    | .ok (ts, j, st') => some (ts.map kt, l.drop j, st')) = match lineS (l.drop i) st with
    | none => none
    | some (ts, x, st') => some (ts, x.drop 1, st') := by
  have hD : spanL blankB l i - i = ((l.drop i).takeWhile blankB).length := by unfold spanL; omega
  have hsk := drop_skip l i
  unfold lineL lineS
  rw [endB_drop, hsk, hD]
  rcases he : isEnd (skipS (l.drop i)) with _ | _
  · simp only [Bool.false_eq_true, if_false]
    have hcm : commentL l (spanL blankB l i) = spanL blankB l i := comment_noend (by rw [endB_drop, hsk, he])
    rw [hcm] at hsk
    have hk := indL_kt ((l.drop i).takeWhile blankB).length (spanL blankB l i) st
    rw [hk.2]
    by_cases hdd : (indL ((l.drop i).takeWhile blankB).length 0 st).2.headD 0 < ((l.drop i).takeWhile blankB).length
    · rw [if_pos hdd, if_pos hdd]
    · rw [if_neg hdd, if_neg hdd]
      have h := toksL_S (l.length + 1) l (spanL blankB l i)
      rw [hsk, toksS_fuel (l.length + 1) ((l.drop i).length + 1) (skipS (l.drop i)) (by have := skipS_len (l.drop i); simp only [List.length_drop] at this; omega) (by have := skipS_len (l.drop i); omega)] at h
      rw [← h]
      rcases toksL (l.length + 1) l (spanL blankB l i) with e | ⟨ts, j⟩
      · rfl
      · simp only [List.map_append, hk.1, List.drop_drop]
        rfl
  · simp only [if_true, List.map_nil]
    rw [← List.drop_drop, hsk]

/-- All lines. -/
def linesS : Nat → List UInt8 → List Nat → Option (List (List UInt8 × List UInt8) × List Nat)
  | 0, _, st => some ([], st)
  | f + 1, r, st => match lineS r st with
    | none => none
    | some (ts, x, st') => match linesS f (x.drop 1) st' with
      | none => none
      | some (ts', st'') => some (ts ++ ts', st'')
theorem linesS_nil : ∀ (f : Nat) (st : List Nat), linesS f [] st = some ([], st)
  | 0, _ => rfl
  | f + 1, st => by
    have h : lineS [] st = some ([], [], st) := rfl
    rw [linesS, h]
    simp only [List.drop_nil]
    rw [linesS_nil f st]
    rfl
theorem lineS_len {r : List UInt8} {st : List Nat} {ts} {x : List UInt8} {st' : List Nat} (h : lineS r st = some (ts, x, st')) : x.length ≤ r.length := by
  have h1 := skipS_len r
  unfold lineS at h
  split at h
  · injection h with h; injection h with _ h; injection h with h _; rw [← h]; exact h1
  · split at h
    · cases h
    · split at h
      · cases h
      · rename_i ts' x' hx
        injection h with h; injection h with _ h; injection h with h _
        have := toksS_len _ _ _ _ hx
        rw [← h]; omega
theorem linesS_fuel : ∀ (f g : Nat) (r : List UInt8) (st : List Nat), r.length < f → r.length < g → linesS f r st = linesS g r st := by
  intro f
  induction f with
  | zero => intro g r st h; omega
  | succ f ih =>
    intro g r st h1 h2
    match g, h2 with
    | 0, h2 => omega
    | g + 1, h2 =>
      rcases r with _ | ⟨c, t⟩
      · rw [linesS_nil, linesS_nil]
      · rw [linesS, linesS]
        rcases hl : lineS (c :: t) st with _ | ⟨ts, x, st'⟩
        · rfl
        · have := lineS_len hl
          simp only [List.length_cons] at this h1 h2
          simp only
          rw [ih g (x.drop 1) st' (by simp only [List.length_drop]; omega) (by simp only [List.length_drop]; omega)]
def linesT (r : List UInt8) (st : List Nat) : Option (List (List UInt8 × List UInt8) × List Nat) := linesS (r.length + 1) r st
theorem linesT_eq (r : List UInt8) (st : List Nat) : linesT r st = match lineS r st with
    | none => none
    | some (ts, x, st') => match linesT (x.drop 1) st' with
      | none => none
      | some (ts', st'') => some (ts ++ ts', st'') := by
  rcases r with _ | ⟨c, t⟩
  · rfl
  · unfold linesT
    rw [linesS]
    rcases hl : lineS (c :: t) st with _ | ⟨ts, x, st'⟩
    · rfl
    · have := lineS_len hl
      simp only [List.length_cons] at this
      simp only
      rw [linesS_fuel (c :: t).length ((x.drop 1).length + 1) (x.drop 1) st' (by simp only [List.length_drop, List.length_cons]; omega) (by omega)]
theorem linesL_S : ∀ (f : Nat) (l : List UInt8) (i : Nat) (st : List Nat), (match linesL f l i st with
    | .error _ => none
    | .ok (ts, st') => some (ts.map kt, st')) = linesS f (l.drop i) st := by
  intro f
  induction f with
  | zero => intro l i st; rfl
  | succ f ih =>
    intro l i st
    by_cases hi : i < l.length
    · rw [linesL, if_pos hi, linesS]
      have h := lineL_S l i st (by omega)
      rcases h1 : lineL l i st with e | ⟨ts, j, st'⟩
      · rw [h1] at h
        rcases h2 : lineS (l.drop i) st with _ | ⟨ts2, x2, st2⟩
        · rfl
        · rw [h2] at h; cases h
      · rw [h1] at h
        rcases h2 : lineS (l.drop i) st with _ | ⟨ts2, x2, st2⟩
        · rw [h2] at h; cases h
        · rw [h2] at h
          simp only at h
          injection h with h; injection h with ha h; injection h with hb hc
          simp only
          rw [← hb, ← hc, ← ih l j st', ← ha]
          rcases linesL f l j st' with e | ⟨ts', st''⟩
          · rfl
          · simp
    · rw [linesL, if_neg hi, List.drop_eq_nil_of_le (by omega), linesS_nil]; rfl

/-- The tokens of a text, without their places. -/
def lexS (r : List UInt8) : Option (List (List UInt8 × List UInt8)) := match linesT r [0] with
  | none => none
  | some (ts, st) => some (ts ++ List.replicate (st.length - 1) (kDedent, []) ++ [(kEnd, [])])
theorem lexL_S (l : List UInt8) : (match lexL l with
    | .error _ => none
    | .ok ts => some (ts.map kt)) = lexS l := by
  have h := linesL_S (l.length + 1) l 0 [0]
  rw [List.drop_zero] at h
  unfold lexL lexS linesT
  rw [← h]
  rcases linesL (l.length + 1) l 0 [0] with e | ⟨ts, st⟩
  · rfl
  · simp [kt]

theorem takeWhile_app_ne {p : UInt8 → Bool} {a v : List UInt8} (h : a.dropWhile p ≠ []) : (a ++ v).takeWhile p = a.takeWhile p := by
  induction a with
  | nil => simp at h
  | cons c t ih =>
    rw [List.cons_append, List.takeWhile_cons, List.takeWhile_cons]
    split
    · rename_i hc
      rw [List.dropWhile_cons, if_pos hc] at h
      rw [ih h]
    · rfl

theorem lineS_tail {v1 v2 : List UInt8} (T : TailV v1 v2) (u : List UInt8) (hu : ∀ b ∈ u, noNl b = true) (st : List Nat) :
    lineS (u ++ (v1 ++ v2)) st = match lineS u st with
      | none => none
      | some (ts, _, st') => some (ts, v2, st') := by
  rcases skip_cases T u hu with ⟨h1, h2⟩ | ⟨c, t, hc, h0, h1, h2⟩
  · have e1 : lineS u st = some ([], [], st) := by unfold lineS; rw [h1]; rfl
    rw [e1]
    unfold lineS
    rw [h2, if_pos T.fin.isEnd]
  · have hE : ∀ x, isEnd (c :: x) = false := by
      intro x
      show (c.toNat == 10) = false
      unfold noNl at hc; simpa using hc
    have htw : (u ++ (v1 ++ v2)).takeWhile blankB = u.takeWhile blankB := takeWhile_app_ne (by show skipB u ≠ []; rw [h0]; simp)
    have hA : isEnd (skipS (u ++ (v1 ++ v2))) = false := by rw [h2, List.cons_append]; exact hE _
    have hB : isEnd (skipS u) = false := by rw [h1]; exact hE _
    have hT := toksS_tail T (u.length + 1) u (by omega) hu
    rw [toksS_fuel (u.length + 1) ((u ++ (v1 ++ v2)).length + 1 + u.length + 1) (skipS u) (by have := skipS_len u; omega) (by have := skipS_len u; omega)] at hT
    have hT2 := toksS_tail T ((u ++ (v1 ++ v2)).length + 1 + u.length + 1) u (by omega) hu
    unfold lineS
    rw [htw, hA, hB]
    simp only [Bool.false_eq_true, if_false]
    split
    · rfl
    · rw [toksS_fuel ((u ++ (v1 ++ v2)).length + 1) ((u ++ (v1 ++ v2)).length + 1 + u.length + 1) _ (by have := skipS_len (u ++ (v1 ++ v2)); omega) (by have := skipS_len (u ++ (v1 ++ v2)); omega), hT2,
        toksS_fuel (u.length + 1) ((u ++ (v1 ++ v2)).length + 1 + u.length + 1) (skipS u) (by have := skipS_len u; omega) (by have := skipS_len u; omega)]
      rcases toksS ((u ++ (v1 ++ v2)).length + 1 + u.length + 1) (skipS u) with _ | ⟨ts, x⟩ <;> rfl

theorem lineS_skip {r q : List UInt8} (h : skipS r = q) (hq : EndS q) (st : List Nat) : lineS r st = some ([], q, st) := by
  unfold lineS; rw [h, if_pos hq.isEnd]
theorem linesT_skip {r q : List UInt8} (h : skipS r = q) (hq : EndS q) (st : List Nat) : linesT r st = linesT (q.drop 1) st := by
  rw [linesT_eq, lineS_skip h hq]
  simp only
  rcases linesT (q.drop 1) st with _ | ⟨ts, st'⟩ <;> rfl
theorem linesT_end {q : List UInt8} (hq : EndS q) (st : List Nat) : linesT q st = linesT (q.drop 1) st := by
  refine linesT_skip ?_ hq st
  rcases hq with rfl | ⟨t, rfl⟩ <;> rfl

/-- What is put in. -/
def moreL : Nat → List UInt8
  | 0 => [32, 32]
  | 1 => [32, 35, 32, 97, 32, 99, 111, 109, 109, 101, 110, 116]
  | 2 => [10, 32, 32, 32]
  | 3 => [10, 35, 32, 34]
  | _ => [10, 10]

theorem more_cases (k : Nat) {q : List UInt8} (hq : EndS q) : TailV (moreL k) q ∨ ∃ w, moreL k = 10 :: w ∧ ∀ st, linesT (w ++ q) st = linesT (q.drop 1) st := by
  match k with
  | 0 =>
    refine .inl ⟨hq, by decide, by decide, .inr ⟨_, rfl⟩, ?_⟩
    rcases hq with rfl | ⟨t, rfl⟩ <;> rfl
  | 1 =>
    refine .inl ⟨hq, by decide, by decide, .inr ⟨_, rfl⟩, ?_⟩
    rcases hq with rfl | ⟨t, rfl⟩ <;> rfl
  | 2 =>
    refine .inr ⟨[32, 32, 32], rfl, fun st => linesT_skip ?_ hq st⟩
    rcases hq with rfl | ⟨t, rfl⟩ <;> rfl
  | 3 =>
    refine .inr ⟨[35, 32, 34], rfl, fun st => linesT_skip ?_ hq st⟩
    rcases hq with rfl | ⟨t, rfl⟩ <;> rfl
  | k + 4 =>
    refine .inr ⟨[10], rfl, fun st => ?_⟩
    rw [← linesT_end hq st]
    exact linesT_end (.inr ⟨q, rfl⟩) st

theorem linesT_more (k : Nat) {q : List UInt8} (hq : EndS q) : ∀ (m : Nat) (p : List UInt8) (st : List Nat), p.length ≤ m → linesT (p ++ (moreL k ++ q)) st = linesT (p ++ q) st := by
  intro m
  induction m with
  | zero =>
    intro p st hp
    have : p = [] := List.eq_nil_of_length_eq_zero (by omega)
    subst this
    rw [List.nil_append, List.nil_append]
    rcases more_cases k hq with T | ⟨w, hw, h⟩
    · rw [linesT_skip T.skip hq, linesT_end hq]
    · rw [hw, List.cons_append, linesT_end (.inr ⟨_, rfl⟩), linesT_end hq]
      exact h st
  | succ m ih =>
    intro p st hp
    have hsp := List.takeWhile_append_dropWhile (p := noNl) (l := p)
    have hu : ∀ b ∈ p.takeWhile noNl, noNl b = true := fun b hb => by
      have := List.all_takeWhile (p := noNl) (l := p)
      rw [List.all_eq_true] at this
      exact this b hb
    generalize p.takeWhile noNl = u at hsp hu
    rcases hd : p.dropWhile noNl with _ | ⟨c, p'⟩
    · rw [hd, List.append_nil] at hsp
      subst hsp
      rw [linesT_eq (u ++ q)]
      have hR := lineS_tail (TailV.nil hq) u hu st
      rw [List.nil_append] at hR
      rw [hR]
      rcases more_cases k hq with T | ⟨w, hw, h⟩
      · rw [linesT_eq, lineS_tail T u hu st]
      · have hL := lineS_tail (TailV.nil (v2 := 10 :: (w ++ q)) (.inr ⟨_, rfl⟩)) u hu st
        rw [List.nil_append] at hL
        rw [hw, List.cons_append, linesT_eq, hL]
        rcases lineS u st with _ | ⟨ts, x, st'⟩
        · rfl
        · simp only [List.drop_one, List.tail_cons]
          rw [h st', List.drop_one]
    · have hc : c = 10 := by
        have h1 : noNl c = false := by
          have h2 := List.head?_dropWhile_not noNl p
          rw [hd] at h2
          simpa using h2
        unfold noNl at h1
        exact byte_of (by simpa using h1)
      subst hc
      rw [hd] at hsp
      have hlen : p'.length ≤ m := by
        have := congrArg List.length hsp
        simp only [List.length_append, List.length_cons] at this
        omega
      rw [← hsp]
      have hA := lineS_tail (TailV.nil (v2 := 10 :: (p' ++ (moreL k ++ q))) (.inr ⟨_, rfl⟩)) u hu st
      have hB := lineS_tail (TailV.nil (v2 := 10 :: (p' ++ q)) (.inr ⟨_, rfl⟩)) u hu st
      rw [List.nil_append] at hA hB
      rw [List.append_assoc, List.append_assoc, List.cons_append, List.cons_append, linesT_eq, hA, linesT_eq, hB]
      rcases lineS u st with _ | ⟨ts, x, st'⟩
      · rfl
      · simp only [List.drop_one, List.tail_cons]
        rw [ih p' st' hlen]

theorem lexS_more (k : Nat) (p q : List UInt8) (hq : EndS q) : lexS (p ++ (moreL k ++ q)) = lexS (p ++ q) := by
  unfold lexS
  rw [linesT_more k hq _ p [0] (Nat.le_refl _)]

end Go.Proofs.YtdoaeapahgmfoaaGreatDoor
