/- Plain laws of all tokens of a text: how many; each dedent has its indent; each token lies behind the one ahead. -/
import Derived.Test.YtdoaeapahgmfoaaGreatDoorX2
namespace Go.Proofs.YtdoaeapahgmfoaaGreatDoor
open Go.RowKit

theorem linesL_len : ∀ (f : Nat) (l : List UInt8) (i : Nat) (st st' : List Nat) (ts : List Tok), i ≤ l.length + 1 → linesL f l i st = .ok (ts, st') → ts.length + st'.length ≤ st.length + 3 * (l.length + 1 - i) := by
  intro f
  induction f with
  | zero => intro l i st st' ts _ h; rw [linesL] at h; injection h with h; injection h with h1 h2; subst h1; subst h2; simp
  | succ f ih =>
    intro l i st st' ts hi h
    rw [linesL] at h
    split at h
    · split at h
      · cases h
      · rename_i ts1 j st1 hl
        have hs := lineL_sum (by omega) hl
        split at h
        · cases h
        · rename_i ts2 st2 h2
          injection h with h; injection h with e1 e2; subst e1; subst e2
          have := ih _ _ _ _ _ hs.2.1 h2
          simp only [List.length_append]
          omega
    · injection h with h; injection h with h1 h2; subst h1; subst h2; simp
theorem lexL_len {l : List UInt8} {ts : List Tok} (h : lexL l = .ok ts) : ts.length ≤ 3 * l.length + 5 := by
  unfold lexL at h
  split at h
  · cases h
  · rename_i ts1 st1 h1
    injection h with h; subst h
    have := linesL_len _ _ _ _ _ _ (by omega) h1
    simp at this ⊢
    omega
theorem lexL_pos {l : List UInt8} {ts : List Tok} (h : lexL l = .ok ts) : 0 < ts.length := by
  unfold lexL at h
  split at h
  · cases h
  · injection h with h; subst h; simp; omega

/-- How deep a token leaves. -/
def balF (d : Option Nat) (t : Tok) : Option Nat := match d with
  | none => none
  | some d => if t.kind = kIndent then some (d + 1) else if t.kind = kDedent then (match d with
    | 0 => none
    | d + 1 => some d) else some d
def balL (ts : List Tok) (d : Nat) : Option Nat := ts.foldl balF (some d)
theorem balL_app (a b : List Tok) (d : Nat) : balL (a ++ b) d = match balL a d with
    | none => none
    | some e => balL b e := by
  unfold balL
  rw [List.foldl_append]
  rcases List.foldl balF (some d) a with _ | e
  · have : ∀ b : List Tok, List.foldl balF none b = none := by
      intro b; induction b with
      | nil => rfl
      | cons t r ih => exact ih
    exact this b
  · rfl
theorem balL_flat : ∀ (ts : List Tok) (d : Nat), (∀ t ∈ ts, t.kind ≠ kIndent ∧ t.kind ≠ kDedent) → balL ts d = some d
  | [], _, _ => rfl
  | t :: r, d, h => by
    have h1 := h t (by simp)
    show List.foldl balF (balF (some d) t) r = some d
    have : balF (some d) t = some d := by simp [balF, h1.1, h1.2]
    rw [this]
    exact balL_flat r d (fun t ht => h t (by simp [ht]))
theorem balL_dedents : ∀ (m b d : Nat), balL (List.replicate m ⟨kDedent, [], b⟩) (d + m) = some d
  | 0, _, _ => rfl
  | m + 1, b, d => by
    rw [List.replicate_succ]
    show List.foldl balF (balF (some (d + (m + 1))) ⟨kDedent, [], b⟩) _ = some d
    have : balF (some (d + (m + 1))) ⟨kDedent, [], b⟩ = some (d + m) := by
      have h1 : ¬ kDedent = kIndent := by decide
      rw [show d + (m + 1) = (d + m) + 1 by omega]
      simp [balF, h1]
    rw [this]
    exact balL_dedents m b d

theorem tokL_kind {r kd tx : List UInt8} {n : Nat} (h : tokL r = some (kd, tx, n)) : kd ≠ kIndent ∧ kd ≠ kDedent := by
  have h1 : kWord ≠ kIndent ∧ kWord ≠ kDedent := by decide
  have h2 : kName ≠ kIndent ∧ kName ≠ kDedent := by decide
  have h3 : kInt ≠ kIndent ∧ kInt ≠ kDedent := by decide
  have h4 : kStr ≠ kIndent ∧ kStr ≠ kDedent := by decide
  have h5 : kOp ≠ kIndent ∧ kOp ≠ kDedent := by decide
  match r, h with
  | [], h => simp [tokL] at h
  | c :: r', h =>
    simp only [tokL] at h
    split at h
    · split at h
      · injection h with h; injection h with h _; subst h; exact h1
      · split at h
        · injection h with h; injection h with h _; subst h; exact h2
        · cases h
    · split at h
      · split at h
        · injection h with h; injection h with h _; subst h; exact h3
        · cases h
      · split at h
        · split at h
          · injection h with h; injection h with h _; subst h; exact h4
          · cases h
        · split at h
          · injection h with h; injection h with h _; subst h; exact h5
          · cases h

theorem toksL_laws : ∀ (f : Nat) (l : List UInt8) (k : Nat) (ts : List Tok) (j : Nat), k ≤ l.length → toksL f l k = .ok (ts, j) →
    (∀ t ∈ ts, t.kind ≠ kIndent ∧ t.kind ≠ kDedent) ∧ (ts.Pairwise fun a b => a.at_ ≤ b.at_) ∧ (∀ t ∈ ts, k ≤ t.at_ ∧ t.at_ ≤ j) ∧ k ≤ j ∧ j ≤ l.length := by
  intro f
  induction f with
  | zero => intro l k ts j hk h; rw [toksL] at h; injection h with h; injection h with h1 h2; subst h1; subst h2; simp [hk]
  | succ f ih =>
    intro l k ts j hk h
    rw [toksL] at h
    split at h
    · injection h with h; injection h with h1 h2; subst h1; subst h2; simp [hk]
    · split at h
      · cases h
      · rename_i kd tx n ht
        have hn := tokL_pos ht
        simp only [List.length_drop] at hn
        split at h
        · cases h
        · rename_i ts' j' he
          injection h with h; injection h with h1 h2; subst h1; subst h2
          have a1 := spanL_le blankB l (k + n) (by omega)
          have a2 := commentL_le l _ a1.2
          obtain ⟨b1, b2, b3, b4, b5⟩ := ih l _ _ _ a2.2 he
          refine ⟨?_, ?_, ?_, by omega, b5⟩
          · intro t hm
            rcases List.mem_cons.1 hm with rfl | hm
            · exact tokL_kind ht
            · exact b1 t hm
          · refine List.pairwise_cons.2 ⟨fun t hm => ?_, b2⟩
            have := (b3 t hm).1
            simp only
            omega
          · intro t hm
            rcases List.mem_cons.1 hm with rfl | hm
            · simp only; omega
            · have := b3 t hm; omega

theorem popL_bal (deep b : Nat) : ∀ st : List Nat, st.getLast? = some 0 → balL (popL deep b st).1 (st.length - 1) = some ((popL deep b st).2.length - 1)
  | [], h => by simp at h
  | t :: r, h => by
    unfold popL
    split
    · rename_i hd
      match r, h with
      | [], h => simp at h; omega
      | u :: r', h =>
        have ih := popL_bal deep b (u :: r') (by simpa using h)
        show List.foldl balF (balF (some _) _) _ = _
        have : balF (some ((t :: u :: r').length - 1)) ⟨kDedent, [], b⟩ = some ((u :: r').length - 1) := by
          have h1 : ¬ kDedent = kIndent := by decide
          rw [show (t :: u :: r').length - 1 = ((u :: r').length - 1) + 1 by simp]
          simp [balF, h1]
        rw [this]
        exact ih
    · rfl
theorem indL_bal (deep b : Nat) (st : List Nat) (h : st.getLast? = some 0) : balL (indL deep b st).1 (st.length - 1) = some ((indL deep b st).2.length - 1) := by
  unfold indL
  split
  · rcases st with _ | ⟨t, r⟩
    · simp at h
    · simp [balL, balF]
  · exact popL_bal deep b st h
theorem popL_at_ (deep b : Nat) : ∀ st : List Nat, ∀ t ∈ (popL deep b st).1, t.at_ = b
  | [], t, h => by simp [popL] at h
  | u :: r, t, h => by
    unfold popL at h
    split at h
    · rcases List.mem_cons.1 h with rfl | h
      · rfl
      · exact popL_at_ deep b r t h
    · simp at h
theorem indL_at_ (deep b : Nat) (st : List Nat) (t : Tok) (h : t ∈ (indL deep b st).1) : t.at_ = b := by
  unfold indL at h
  split at h
  · simp at h; rw [h]
  · exact popL_at_ deep b st t h
theorem pairwise_same (b : Nat) : ∀ ts : List Tok, (∀ t ∈ ts, t.at_ = b) → ts.Pairwise fun a b => a.at_ ≤ b.at_
  | [], _ => List.Pairwise.nil
  | t :: r, h => List.pairwise_cons.2 ⟨fun u hu => by rw [h t (by simp), h u (by simp [hu])]; exact Nat.le_refl _, pairwise_same b r (fun u hu => h u (by simp [hu]))⟩

theorem lineL_laws {l : List UInt8} {i : Nat} {st st' : List Nat} {ts : List Tok} {j : Nat} (hi : i ≤ l.length) (h0 : st.getLast? = some 0) (hl : lineL l i st = .ok (ts, j, st')) :
    balL ts (st.length - 1) = some (st'.length - 1) ∧ (ts.Pairwise fun a b => a.at_ ≤ b.at_) ∧ (∀ t ∈ ts, i ≤ t.at_ ∧ t.at_ < j ∧ t.at_ ≤ l.length) := by
  have hb := spanL_le blankB l i hi
  unfold lineL at hl
  split at hl
  · injection hl with hl; injection hl with h1 hl; injection hl with h2 h3; subst h1; subst h2; subst h3
    exact ⟨rfl, List.Pairwise.nil, by simp⟩
  · split at hl
    · cases hl
    · split at hl
      · cases hl
      · rename_i ts0 k hk
        obtain ⟨b1, b2, b3, b4, b5⟩ := toksL_laws _ _ _ _ _ hb.2 hk
        injection hl with hl; injection hl with h1 hl; injection hl with h2 h3; subst h1; subst h2; subst h3
        have hI := indL_at_ (spanL blankB l i - i) (spanL blankB l i) st
        refine ⟨?_, ?_, ?_⟩
        · rw [List.append_assoc, balL_app, indL_bal _ _ _ h0]
          simp only
          refine balL_flat _ _ fun t ht => ?_
          rcases List.mem_append.1 ht with ht | ht
          · exact b1 t ht
          · have h1 : kNewline ≠ kIndent ∧ kNewline ≠ kDedent := by decide
            simp at ht; rw [ht]; exact h1
        · refine List.pairwise_append.2 ⟨List.pairwise_append.2 ⟨pairwise_same _ _ hI, b2, fun a ha b hb => ?_⟩, by simp, fun a ha b hb => ?_⟩
          · rw [hI a ha]; exact (b3 b hb).1
          · simp at hb; rw [hb]
            rcases List.mem_append.1 ha with ha | ha
            · rw [hI a ha]; exact b4
            · exact (b3 a ha).2
        · intro t ht
          rcases List.mem_append.1 ht with ht | ht
          · rcases List.mem_append.1 ht with ht | ht
            · rw [hI t ht]; omega
            · have := b3 t ht; omega
          · simp at ht; rw [ht]; simp only; omega

theorem linesL_laws : ∀ (f : Nat) (l : List UInt8) (i : Nat) (st st' : List Nat) (ts : List Tok), st.getLast? = some 0 → linesL f l i st = .ok (ts, st') →
    balL ts (st.length - 1) = some (st'.length - 1) ∧ (ts.Pairwise fun a b => a.at_ ≤ b.at_) ∧ (∀ t ∈ ts, i ≤ t.at_ ∧ t.at_ ≤ l.length) ∧ st'.getLast? = some 0 := by
  intro f
  induction f with
  | zero => intro l i st st' ts h0 h; rw [linesL] at h; injection h with h; injection h with h1 h2; subst h1; subst h2; exact ⟨rfl, List.Pairwise.nil, by simp, h0⟩
  | succ f ih =>
    intro l i st st' ts h0 h
    rw [linesL] at h
    split at h
    · rename_i hi
      split at h
      · cases h
      · rename_i ts1 j st1 hl
        have hs := lineL_sum (by omega) hl
        have hne := lineL_ne h0 hl
        obtain ⟨a1, a2, a3⟩ := lineL_laws (by omega) h0 hl
        split at h
        · cases h
        · rename_i ts2 st2 h2
          injection h with h; injection h with e1 e2; subst e1; subst e2
          obtain ⟨b1, b2, b3, b4⟩ := ih _ _ _ _ _ hne h2
          refine ⟨?_, ?_, ?_, b4⟩
          · rw [balL_app, a1]; exact b1
          · refine List.pairwise_append.2 ⟨a2, b2, fun x hx y hy => ?_⟩
            have := (a3 x hx).2.1
            have := (b3 y hy).1
            omega
          · intro t ht
            rcases List.mem_append.1 ht with ht | ht
            · have := a3 t ht; omega
            · have := b3 t ht; omega
    · injection h with h; injection h with h1 h2; subst h1; subst h2; exact ⟨rfl, List.Pairwise.nil, by simp, h0⟩

theorem lexL_laws {l : List UInt8} {ts : List Tok} (h : lexL l = .ok ts) : balL ts 0 = some 0 ∧ (ts.Pairwise fun a b => a.at_ ≤ b.at_) ∧ ∀ t ∈ ts, t.at_ ≤ l.length := by
  unfold lexL at h
  split at h
  · cases h
  · rename_i ts1 st1 h1
    injection h with h; subst h
    obtain ⟨a1, a2, a3, a4⟩ := linesL_laws _ _ _ _ _ _ rfl h1
    refine ⟨?_, ?_, ?_⟩
    · rw [List.append_assoc, balL_app]
      have : balL ts1 0 = some (st1.length - 1) := a1
      rw [this]
      simp only
      rw [balL_app]
      have h2 := balL_dedents (st1.length - 1) l.length 0
      rw [Nat.zero_add] at h2
      rw [h2]
      rfl
    · refine List.pairwise_append.2 ⟨List.pairwise_append.2 ⟨a2, pairwise_same l.length _ (fun t ht => by rw [List.eq_of_mem_replicate ht]), fun x hx y hy => ?_⟩, by simp, fun x hx y hy => ?_⟩
      · rw [List.eq_of_mem_replicate hy]; exact (a3 x hx).2
      · simp at hy; rw [hy]
        rcases List.mem_append.1 hx with hx | hx
        · exact (a3 x hx).2
        · rw [List.eq_of_mem_replicate hx]; exact Nat.le_refl _
    · intro t ht
      rcases List.mem_append.1 ht with ht | ht
      · rcases List.mem_append.1 ht with ht | ht
        · exact (a3 t ht).2
        · rw [List.eq_of_mem_replicate ht]; exact Nat.le_refl _
      · simp at ht; rw [ht]; exact Nat.le_refl _

/-- A prefix of the tokens never stands too deep. -/
theorem bal_take {ts : List Tok} (h : balL ts 0 = some 0) (n : Nat) : ∃ d, balL (ts.take n) 0 = some d := by
  have e := List.take_append_drop n ts
  rw [← e, balL_app] at h
  rcases hd : balL (ts.take n) 0 with _ | d
  · rw [hd] at h; cases h
  · exact ⟨d, rfl⟩
theorem bal_next {ts : List Tok} {i : Nat} (hi : i < ts.length) {d e : Nat} (h : balL (ts.take i) 0 = some d) (h2 : balL (ts.take (i + 1)) 0 = some e) :
    ts[i].kind = kIndent ∧ e = d + 1 ∨ ts[i].kind = kDedent ∧ d = e + 1 ∨ ts[i].kind ≠ kIndent ∧ ts[i].kind ≠ kDedent ∧ e = d := by
  rw [List.take_succ_eq_append_getElem hi, balL_app, h] at h2
  simp only at h2
  have h3 : balF (some d) ts[i] = some e := h2
  unfold balF at h3
  simp only at h3
  split at h3
  · injection h3 with h3; exact .inl ⟨by assumption, by omega⟩
  · split at h3
    · split at h3
      · cases h3
      · injection h3 with h3; exact .inr (.inl ⟨by assumption, by omega⟩)
    · injection h3 with h3; exact .inr (.inr ⟨by assumption, by assumption, by omega⟩)
theorem at_next {ts : List Tok} (h : ts.Pairwise fun a b => a.at_ ≤ b.at_) (i : Nat) (hi : i + 1 < ts.length) : ts[i].at_ ≤ ts[i + 1].at_ :=
  List.pairwise_iff_getElem.1 h i (i + 1) (by omega) hi (by omega)
end Go.Proofs.YtdoaeapahgmfoaaGreatDoor
