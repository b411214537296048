/- Plain data: a line of tokens; all tokens of a text. -/
import Derived.Test.YtdoaeapahgmfoaaGreatDoorT4
namespace Go.Proofs.YtdoaeapahgmfoaaGreatDoor
open Go.RowKit

def blankB (b : UInt8) : Bool := b.toNat == 32
theorem blank_fn' : ByteFn 81 blankB := blank_fn

/-- The dedents of a line that stands less deep: off the open indentations, the last one first. -/
def popL (deep b : Nat) : List Nat → List Tok × List Nat
  | [] => ([], [])
  | t :: r => if deep < t then (⟨kDedent, [], b⟩ :: (popL deep b r).1, (popL deep b r).2) else ([], t :: r)

/-- The tokens from here on to the end of a line: with the place where it ends; or the place where none begins. -/
def toksL : Nat → List UInt8 → Nat → Except Nat (List Tok × Nat)
  | 0, _, k => .ok ([], k)
  | f + 1, l, k => if endB l k = true then .ok ([], k) else match tokL (l.drop k) with
    | none => .error k
    | some (kd, tx, n) => match toksL f l (commentL l (spanL blankB l (k + n))) with
      | .error e => .error e
      | .ok (ts, j) => .ok (⟨kd, tx, k⟩ :: ts, j)

/-- What a line's indentation gives. -/
def indL (deep b : Nat) (st : List Nat) : List Tok × List Nat := if st.headD 0 < deep then ([⟨kIndent, [], b⟩], deep :: st) else popL deep b st

/-- A line, from its first byte on: its tokens; behind it; the open indentations. -/
def lineL (l : List UInt8) (i : Nat) (st : List Nat) : Except Nat (List Tok × Nat × List Nat) :=
  if endB l (commentL l (spanL blankB l i)) = true then .ok ([], commentL l (spanL blankB l i) + 1, st)
  else if (indL (spanL blankB l i - i) (spanL blankB l i) st).2.headD 0 < spanL blankB l i - i then .error (spanL blankB l i)
  else match toksL (l.length + 1) l (spanL blankB l i) with
    | .error e => .error e
    | .ok (ts, k) => .ok ((indL (spanL blankB l i - i) (spanL blankB l i) st).1 ++ ts ++ [⟨kNewline, [], k⟩], k + 1, (indL (spanL blankB l i - i) (spanL blankB l i) st).2)

theorem endB_lt {l : List UInt8} {k : Nat} (h : endB l k = false) : k < l.length := by
  rcases Nat.lt_or_ge k l.length with h1 | h1
  · exact h1
  · unfold endB at h; rw [List.getElem?_eq_none h1] at h; cases h

theorem comment_noend {l : List UInt8} {b : Nat} (h : endB l (commentL l b) = false) : commentL l b = b := by
  unfold commentL at h ⊢
  split
  · rfl
  · rename_i c hc
    rw [hc] at h
    simp only at h
    split at h
    · rename_i h35
      exfalso
      have hlt := endB_lt h
      unfold endB at h
      rw [List.getElem?_eq_getElem hlt] at h
      simp only [beq_eq_false_iff_ne] at h
      -- the first byte that is no end
      have hstop : ∀ (m : Nat) (p : UInt8 → Bool) (b : Nat), l.length - b = m → (hlt : spanL p l b < l.length) → p (l[spanL p l b]'hlt) = false := by
        intro m
        induction m with
        | zero => intro p b hm hl; rw [spanL_end p l b (by omega)] at hl; omega
        | succ m ih =>
          intro p b hm hl
          have hb' : b < l.length := by omega
          rcases hp : p l[b] with _ | _
          · have := spanL_no p l b hb' hp
            simp only [this]; exact hp
          · have e := spanL_yes p l b hb' hp
            simp only [e]
            exact ih p (b + 1) (by omega) (by rw [← e]; exact hl)
      have := hstop _ _ _ rfl hlt
      simp at this
      exact h this
    · rename_i h35
      rw [if_neg h35]

theorem tokL_pos {r kd tx : List UInt8} {n : Nat} (h : tokL r = some (kd, tx, n)) : 0 < n ∧ n ≤ r.length := by
  match r, h with
  | [], h => simp [tokL] at h
  | c :: r', h =>
    have hw : ∀ p : UInt8 → Bool, 1 ≤ spanL p (c :: r') 1 ∧ spanL p (c :: r') 1 ≤ (c :: r').length := fun p => spanL_le p _ 1 (by simp)
    simp only [tokL] at h
    split at h
    · split at h
      · injection h with h; injection h with _ h; injection h with _ h; have := hw wordB; omega
      · split at h
        · injection h with h; injection h with _ h; injection h with _ h; have := hw wordB; omega
        · cases h
    · split at h
      · rename_i hd
        split at h
        · injection h with h; injection h with _ h; injection h with _ h
          have h1 : spanL digitB (c :: r') 0 = spanL digitB (c :: r') 1 := spanL_yes digitB (c :: r') 0 (by simp) hd
          have := hw digitB; omega
        · cases h
      · split at h
        · split at h
          · rename_i t m hu
            injection h with h; injection h with _ h; injection h with _ h
            have := unqS_le hu; simp at this ⊢; omega
          · cases h
        · split at h
          · rename_i o ho
            injection h with h; injection h with _ h; injection h with _ h
            have hm := List.mem_of_find?_eq_some ho
            have hp := List.find?_some ho
            have h1 : ∀ o ∈ opsL, 0 < o.length := by decide
            have := h1 o hm
            have := (List.isPrefixOf_iff_prefix.1 hp).length_le
            omega
          · cases h

/-- The tokens' loop goes on: more fuel than there are bytes changes nothing. -/
theorem toksL_le : ∀ (f : Nat) (l : List UInt8) (k : Nat) (ts : List Tok) (j : Nat), k ≤ l.length → toksL f l k = .ok (ts, j) → k ≤ j ∧ j ≤ l.length ∧ ts.length ≤ j - k := by
  intro f
  induction f with
  | zero => intro l k ts j hk h; simp [toksL] at h; obtain ⟨rfl, rfl⟩ := h; simp; exact hk
  | succ f ih =>
    intro l k ts j hk h
    rw [toksL] at h
    split at h
    · injection h with h; injection h with h1 h2; subst h1; subst h2; simp; exact hk
    · split at h
      · cases h
      · rename_i kd tx n ht
        have hn := tokL_pos ht
        simp only [List.length_drop] at hn
        split at h
        · cases h
        · rename_i ts' j' he
          injection h with h; injection h with h1 h2; subst h1; subst h2
          have h1 := spanL_le blankB l (k + n) (by omega)
          have h2 := commentL_le l _ h1.2
          have := ih l _ _ _ h2.2 he
          simp only [List.length_cons]
          omega

theorem toksL_fuel : ∀ (f g : Nat) (l : List UInt8) (k : Nat), k ≤ l.length → l.length < k + f → l.length < k + g → toksL f l k = toksL g l k := by
  intro f
  induction f with
  | zero => intro g l k h1 h2 h3; omega
  | succ f ih =>
    intro g l k h1 h2 h3
    match g, h3 with
    | 0, h3 => omega
    | g + 1, h3 =>
      rw [toksL, toksL]
      split
      · rfl
      · split
        · rfl
        · rename_i kd tx n ht
          have hn := tokL_pos ht
          simp only [List.length_drop] at hn
          have a1 := spanL_le blankB l (k + n) (by omega)
          have a2 := commentL_le l _ a1.2
          rw [ih g l _ a2.2 (by omega) (by omega)]

/-- The tokens from here on to the end of a line. -/
def toksT (l : List UInt8) (k : Nat) : Except Nat (List Tok × Nat) := toksL (l.length + 1 - k) l k
theorem toksT_end {l : List UInt8} {k : Nat} (hk : k ≤ l.length) (h : endB l k = true) : toksT l k = .ok ([], k) := by
  unfold toksT; rw [show l.length + 1 - k = (l.length - k) + 1 from by omega, toksL, if_pos h]
theorem toksT_no {l : List UInt8} {k : Nat} (hk : k ≤ l.length) (h : endB l k = false) (ht : tokL (l.drop k) = none) : toksT l k = .error k := by
  unfold toksT; rw [show l.length + 1 - k = (l.length - k) + 1 from by omega, toksL, if_neg (by simp [h]), ht]
theorem toksT_yes {l : List UInt8} {k : Nat} (hk : k ≤ l.length) (h : endB l k = false) {kd tx : List UInt8} {n : Nat} (ht : tokL (l.drop k) = some (kd, tx, n)) :
    toksT l k = match toksT l (commentL l (spanL blankB l (k + n))) with
      | .error e => .error e
      | .ok (ts, j) => .ok (⟨kd, tx, k⟩ :: ts, j) := by
  have hn := tokL_pos ht
  simp only [List.length_drop] at hn
  have a1 := spanL_le blankB l (k + n) (by omega)
  have a2 := commentL_le l _ a1.2
  unfold toksT
  rw [show l.length + 1 - k = (l.length - k) + 1 from by omega, toksL, if_neg (by simp [h]), ht]
  simp only
  rw [toksL_fuel (l.length - k) (l.length + 1 - commentL l (spanL blankB l (k + n))) l _ a2.2 (by omega) (by omega)]

theorem popL_sum (deep b : Nat) (st : List Nat) : (popL deep b st).1.length + (popL deep b st).2.length = st.length := by
  induction st with
  | nil => rfl
  | cons t r ih => unfold popL; split <;> simp <;> omega
theorem popL_ne (deep b : Nat) (st : List Nat) (h : st.getLast? = some 0) : (popL deep b st).2.getLast? = some 0 := by
  induction st with
  | nil => simp at h
  | cons t r ih =>
    unfold popL; split
    · rename_i hd
      match r, h, ih with
      | [], h, _ => simp at h; omega
      | u :: r', h, ih => exact ih (by simpa using h)
    · exact h
theorem indL_ne (deep b : Nat) (st : List Nat) (h : st.getLast? = some 0) : (indL deep b st).2.getLast? = some 0 := by
  unfold indL; split
  · match st, h with
    | u :: r, h => simpa using h
  · exact popL_ne deep b st h
theorem lineL_ne {l : List UInt8} {i : Nat} {st st' : List Nat} {ts : List Tok} {j : Nat} (h : st.getLast? = some 0) (hl : lineL l i st = .ok (ts, j, st')) : st'.getLast? = some 0 := by
  unfold lineL at hl
  split at hl
  · injection hl with hl; injection hl with _ hl; injection hl with _ hl; subst hl; exact h
  · split at hl
    · cases hl
    · split at hl
      · cases hl
      · injection hl with hl; injection hl with _ hl; injection hl with _ hl; subst hl; exact indL_ne _ _ _ h
theorem lineL_sum {l : List UInt8} {i : Nat} {st st' : List Nat} {ts : List Tok} {j : Nat} (hi : i ≤ l.length) (hl : lineL l i st = .ok (ts, j, st')) :
    i < j ∧ j ≤ l.length + 1 ∧ ts.length + st'.length ≤ st.length + 3 * (j - i) := by
  have hb := spanL_le blankB l i hi
  have hc := commentL_le l _ hb.2
  unfold lineL at hl
  split at hl
  · injection hl with hl; injection hl with h1 hl; injection hl with h2 h3; subst h1; subst h2; subst h3
    simp; omega
  · split at hl
    · cases hl
    · split at hl
      · cases hl
      · rename_i ts0 k hk
        have := toksL_le _ _ _ _ _ hb.2 hk
        injection hl with hl; injection hl with h1 hl; injection hl with h2 h3; subst h1; subst h2; subst h3
        have hp : (indL (spanL blankB l i - i) (spanL blankB l i) st).1.length + (indL (spanL blankB l i - i) (spanL blankB l i) st).2.length ≤ st.length + 2 := by
          unfold indL; split
          · simp; omega
          · have := popL_sum (spanL blankB l i - i) (spanL blankB l i) st; omega
        simp only [List.length_append, List.length_cons, List.length_nil]
        omega
end Go.Proofs.YtdoaeapahgmfoaaGreatDoor
