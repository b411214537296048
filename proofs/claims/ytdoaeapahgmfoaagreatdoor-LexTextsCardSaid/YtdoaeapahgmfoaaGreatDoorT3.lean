/- The lexer's token: an int. -/
import Derived.Test.YtdoaeapahgmfoaaGreatDoorT2
namespace Go.Proofs.YtdoaeapahgmfoaaGreatDoor
open Go.RowKit

theorem parseInt_ok (t : ByteArray) (w : World) (ht : t.size ≤ 6000) (h : parsesInt t.data.toList = true) :
    Calls Tryz.prog 134 #[.string t, .int .i64 10, .int .i64 64] w fun e w' => (∃ v : Int, e = .returned (.tuple #[.int .i64 v, .nilIface])) ∧ Below w.heap.size w w' := by
  unfold parsesInt at h
  split at h
  · rename_i v hv
    refine (Tryz.strconv_ParseInt_10_at64_ok t (by omega) v hv w).mono ?_
    rintro e w' ⟨rfl, h1 | ⟨t, h1⟩⟩
    · subst h1; exact ⟨⟨v, rfl⟩, Below.refl _ _⟩
    · subst h1; exact ⟨⟨v, rfl⟩, Lib.bytesWorld_below _ _ _⟩
  · cases h

theorem parseInt_bad (t : ByteArray) (w : World) (ht : t.size ≤ 6000) (B : Nat) (hg : Glob B w) (h : parsesInt t.data.toList = false) :
    Calls Tryz.prog 134 #[.string t, .int .i64 10, .int .i64 64] w fun e w' => (∃ (v : Int) (N : Nat), e = .returned (.tuple #[.int .i64 v, .iface 260 (.pointer (some ⟨N, 0, none⟩))])) ∧ Below w.heap.size w w' := by
  obtain ⟨te, pe, hs⟩ := hg.syn
  obtain ⟨te2, pe2, hr⟩ := hg.ran
  unfold parsesInt at h
  rcases hp : Lib.parseIntB 64 t.data.toList with v | _ | _
  · rw [hp] at h; cases h
  · refine (Tryz.strconv_ParseInt_10_at64_syntax t (by omega) (by rw [hp]; intro h; cases h) (by rw [hp]; intro v h; cases h) _ w hs (.inr ⟨_, _, rfl⟩)).mono ?_
    rintro e w' ⟨N, rfl, _, _, hB⟩
    exact ⟨⟨_, N, rfl⟩, hB⟩
  · refine (Tryz.strconv_ParseInt_10_at64_range t (by omega) hp _ w hr (.inr ⟨_, _, rfl⟩)).mono ?_
    rintro e w' ⟨N, rfl, _, _, hB⟩
    exact ⟨⟨_, N, rfl⟩, hB⟩
theorem text_first {s t : ByteArray} {i n : Nat} (hi : i < s.size) (htl : t.data.toList = (s.data.toList.drop i).take n) (h0 : 0 < t.size) : t[0]'h0 = s[i]'hi := by
  have : t.data.toList[0]'(by simpa using h0) = s.data.toList[i]'(by simpa using hi) := by simp only [htl]; simp
  exact this

set_option maxRecDepth 100000 in
set_option maxHeartbeats 1000000 in
theorem token_int
    {w : World} {x i : Nat} {s : ByteArray} {vo vp : Value} {ts : List Tok} {os : List Nat} (h : LexC w x s i vo vp ts os) (hg : Glob (x - 1) w) (hs : s.size ≤ 6000) (hi : i < s.size)
    (hts : ts.length ≤ maxToks) (n : Nat) (hn : n = spanL digitB (s.data.toList.drop i) 0) (hl : digitB s[i] = true) (hp : parsesInt ((s.data.toList.drop i).take n) = true)
    (hz : ¬ (1 < n ∧ s[i].toNat = 48)) :
    Calls Tryz.prog 86 #[.pointer (some ⟨x, 0, none⟩)] w fun e w' => e = .returned (.tuple #[]) ∧
      (∃ vo', LexC w' x s (i + n) vo' vp (ts ++ [⟨kInt, (s.data.toList.drop i).take n, i⟩]) os) ∧ Stp x w w' := by
  have Hl := Lib.hid hl
  obtain ⟨r, hr0, hrl, hr1, hsl⟩ := rest_facts s i hi
  have c1 := h.c1
  have c0 := h.c0
  have f1 := h.f 1
  have Hrl := Lib.hid hrl; have Hr1 := Lib.hid hr1
  clear hrl
  have hd : digitB r[0] = true := by rw [hr1]; exact hl
  have hd1 : 48 ≤ (r[0]'hr0).toNat := (of_decide_eq_true hd).1
  have hd2 : (r[0]'hr0).toNat ≤ 57 := (of_decide_eq_true hd).2
  have hlf : lowB r[0] = false := by unfold lowB; rw [decide_eq_false_iff_not]; omega
  obtain ⟨m, hm⟩ : ∃ m, m = i + n := ⟨_, rfl⟩
  have hsp : spanL digitB s.data.toList i = m := by have := spanL_drop digitB s.data.toList i 0; simp only [Nat.add_zero] at this; rw [this, hm, hn]
  have hsz : m ≤ s.size := by rw [← hsp]; exact (spanL_le _ _ _ (by simp; omega)).2
  have him : i ≤ m := by omega
  obtain ⟨t, htl, htn, hsl2⟩ := mid_facts s i n m hm hsz
  have ht6 : t.size ≤ 6000 := by omega
  have hpt : parsesInt t.data.toList = true := by rw [htl]; exact hp
  have Htl := Lib.hid htl; have Hsp := Lib.hid hsp; have Htn := Lib.hid htn; have Hn := Lib.hid hn; have Hm := Lib.hid hm; have Hpt := Lib.hid hpt
  clear htl hsp htn hr1 hl hn hm hp hd hpt
  rw [← Hm.out]
  go_enter Tryz.func86, Tryz.ntmps86
  go_wp2_with fail
  obtain ⟨h0, s0⟩ := h.alloc (.cells #[.string r] 9)
  have hg0 := hg.stp h s0
  have bx0 : (w.alloc (.cells #[.string r] 9)).cell? ⟨w.heap.size, 0, none⟩ = some (.string r) := by rw [cell_of_blk (heap_alloc_new w _)]; rfl
  have sf0 := h.safe_new (.cells #[.string r] 9)
  clear c0 c1 f1 h hg
  generalize hW : w.alloc (.cells #[.string r] 9) = W at h0 s0 hg0 bx0 sf0 ⊢
  clear hW
  have c0 := h0.c0
  have c1 := h0.c1
  have f1 := h0.f 1
  refine (low_any _ _).mono ?_; rintro e w' ⟨rfl, rfl⟩
  go_wp2_with fail
  refine (digit_any _ _).mono ?_; rintro e w' ⟨rfl, rfl⟩
  have hd : digitB r[0] = true := by rw [Hr1.out]; exact Hl.out
  go_wp2_with fail
  refine (span_any _ _ digit_fn x s i _ hs (by omega) c0).mono ?_; rintro e w' ⟨rfl, rfl⟩
  rw [Hsp.out]
  go_wp2_with fail
  obtain ⟨h1, s1⟩ := h0.setAt m
  have hg1 := hg0.stp h0 s1
  have bx1 := (s1.cell (a := ⟨w.heap.size, 0, none⟩) sf0).trans bx0
  have s1' := s0.trans s1
  clear c0 c1 f1 s0 s1 h0 hg0 bx0 sf0
  generalize W.setCell ⟨x, 1, none⟩ (.int .i64 (m : Int)) = W1 at h1 s1' hg1 bx1 ⊢
  have c0 := h1.c0
  have c1 := h1.c1
  go_quiet (fail)
  have h2 := h1.drewN nq
  have hg2 : Glob (x - 1) (W1.drewN nq) := hg1.stp h1 (Stp.drewN _ _ _)
  have s2 := s1'.trans (Stp.drewN x W1 nq)
  clear h1 s1' hg1 bx1 c0 c1
  generalize W1.drewN nq = W2 at h2 s2 hg2 ⊢
  have c0 := h2.c0
  have c1 := h2.c1
  go_wp2_with fail
  refine (parseInt_ok t _ ht6 Hpt.out).mono ?_; rintro e w' ⟨⟨v, rfl⟩, hB⟩
  obtain ⟨h3, s3⟩ := h2.grow hB
  have s4 := s2.trans s3
  clear h2 s2 s3 hB c0 c1 hg2
  by_cases h1n : 1 < n
  · have ht1 : 1 < t.size := by rw [Htn.out]; exact h1n
    have tz : (((t[0]'(by omega)).toNat : Int) == 48) = false := by
      rw [beq_eq_false_iff_ne, text_first hi Htl.out (by omega)]
      intro e; exact hz ⟨h1n, by omega⟩
    clear hz
    go_wp2_with fail
    refine (put_any h3 _ _ _ hts).mono ?_; rintro e w' ⟨rfl, ⟨vo', h5⟩, s5⟩
    have h6 : LexC w' x s m vo' vp (ts ++ [⟨kInt, t.data.toList, i⟩]) os := h5
    rw [Htl.out] at h6
    have s6 := s4.trans s5
    clear h3 s4 h5 s5
    go_wp2_with fail
    go_end0
    exact ⟨rfl, ⟨vo', h6⟩, s6⟩
  · have ht1 : t.size ≤ 1 := by rw [Htn.out]; omega
    clear hz
    go_wp2_with fail
    refine (put_any h3 _ _ _ hts).mono ?_; rintro e w' ⟨rfl, ⟨vo', h5⟩, s5⟩
    have h6 : LexC w' x s m vo' vp (ts ++ [⟨kInt, t.data.toList, i⟩]) os := h5
    rw [Htl.out] at h6
    have s6 := s4.trans s5
    clear h3 s4 h5 s5
    go_wp2_with fail
    go_end0
    exact ⟨rfl, ⟨vo', h6⟩, s6⟩

set_option maxRecDepth 100000 in
set_option maxHeartbeats 1000000 in
theorem token_zero
    {w : World} {x i : Nat} {s : ByteArray} {vo vp : Value} {ts : List Tok} {os : List Nat} (h : LexC w x s i vo vp ts os) (hg : Glob (x - 1) w) (hs : s.size ≤ 6000) (hi : i < s.size)
    (n : Nat) (hn : n = spanL digitB (s.data.toList.drop i) 0) (hl : digitB s[i] = true) (hp : parsesInt ((s.data.toList.drop i).take n) = true)
    (hz : 1 < n ∧ s[i].toNat = 48) :
    Calls Tryz.prog 86 #[.pointer (some ⟨x, 0, none⟩)] w fun e w' => e = .panicked [{ v := .iface 105 (.int .i64 i), recovered := false }] ∧ Stp x w w' := by
  have Hl := Lib.hid hl
  obtain ⟨r, hr0, hrl, hr1, hsl⟩ := rest_facts s i hi
  have c1 := h.c1
  have c0 := h.c0
  have f1 := h.f 1
  have Hrl := Lib.hid hrl; have Hr1 := Lib.hid hr1
  clear hrl
  have hd : digitB r[0] = true := by rw [hr1]; exact hl
  have hd1 : 48 ≤ (r[0]'hr0).toNat := (of_decide_eq_true hd).1
  have hd2 : (r[0]'hr0).toNat ≤ 57 := (of_decide_eq_true hd).2
  have hlf : lowB r[0] = false := by unfold lowB; rw [decide_eq_false_iff_not]; omega
  obtain ⟨m, hm⟩ : ∃ m, m = i + n := ⟨_, rfl⟩
  have hsp : spanL digitB s.data.toList i = m := by have := spanL_drop digitB s.data.toList i 0; simp only [Nat.add_zero] at this; rw [this, hm, hn]
  have hsz : m ≤ s.size := by rw [← hsp]; exact (spanL_le _ _ _ (by simp; omega)).2
  have him : i ≤ m := by omega
  obtain ⟨t, htl, htn, hsl2⟩ := mid_facts s i n m hm hsz
  have ht6 : t.size ≤ 6000 := by omega
  have hpt : parsesInt t.data.toList = true := by rw [htl]; exact hp
  have Htl := Lib.hid htl; have Hsp := Lib.hid hsp; have Htn := Lib.hid htn; have Hn := Lib.hid hn; have Hm := Lib.hid hm; have Hpt := Lib.hid hpt
  clear htl hsp htn hr1 hl hn hm hp hd hpt
  go_enter Tryz.func86, Tryz.ntmps86
  go_wp2_with fail
  obtain ⟨h0, s0⟩ := h.alloc (.cells #[.string r] 9)
  have hg0 := hg.stp h s0
  have bx0 : (w.alloc (.cells #[.string r] 9)).cell? ⟨w.heap.size, 0, none⟩ = some (.string r) := by rw [cell_of_blk (heap_alloc_new w _)]; rfl
  have sf0 := h.safe_new (.cells #[.string r] 9)
  clear c0 c1 f1 h hg
  generalize hW : w.alloc (.cells #[.string r] 9) = W at h0 s0 hg0 bx0 sf0 ⊢
  clear hW
  have c0 := h0.c0
  have c1 := h0.c1
  have f1 := h0.f 1
  refine (low_any _ _).mono ?_; rintro e w' ⟨rfl, rfl⟩
  go_wp2_with fail
  refine (digit_any _ _).mono ?_; rintro e w' ⟨rfl, rfl⟩
  have hd : digitB r[0] = true := by rw [Hr1.out]; exact Hl.out
  go_wp2_with fail
  refine (span_any _ _ digit_fn x s i _ hs (by omega) c0).mono ?_; rintro e w' ⟨rfl, rfl⟩
  rw [Hsp.out]
  go_wp2_with fail
  obtain ⟨h1, s1⟩ := h0.setAt m
  have hg1 := hg0.stp h0 s1
  have bx1 := (s1.cell (a := ⟨w.heap.size, 0, none⟩) sf0).trans bx0
  have s1' := s0.trans s1
  clear c0 c1 f1 s0 s1 h0 hg0 bx0 sf0
  generalize W.setCell ⟨x, 1, none⟩ (.int .i64 (m : Int)) = W1 at h1 s1' hg1 bx1 ⊢
  have c0 := h1.c0
  have c1 := h1.c1
  go_quiet (fail)
  have h2 := h1.drewN nq
  have hg2 : Glob (x - 1) (W1.drewN nq) := hg1.stp h1 (Stp.drewN _ _ _)
  have s2 := s1'.trans (Stp.drewN x W1 nq)
  clear h1 s1' hg1 bx1 c0 c1
  generalize W1.drewN nq = W2 at h2 s2 hg2 ⊢
  have c0 := h2.c0
  have c1 := h2.c1
  go_wp2_with fail
  refine (parseInt_ok t _ ht6 Hpt.out).mono ?_; rintro e w' ⟨⟨v, rfl⟩, hB⟩
  obtain ⟨h3, s3⟩ := h2.grow hB
  have s4 := s2.trans s3
  clear h2 s2 s3 hB c0 c1 hg2
  have ht1 : 1 < t.size := by rw [Htn.out]; exact hz.1
  have tz : (((t[0]'(by omega)).toNat : Int) == 48) = true := by
    rw [beq_iff_eq, text_first hi Htl.out (by omega)]
    have := hz.2; omega
  clear hz
  go_wp2_with fail
  exact ⟨rfl, rfl, s4⟩

set_option maxRecDepth 100000 in
set_option maxHeartbeats 1000000 in
theorem token_range
    {w : World} {x i : Nat} {s : ByteArray} {vo vp : Value} {ts : List Tok} {os : List Nat} (h : LexC w x s i vo vp ts os) (hg : Glob (x - 1) w) (hs : s.size ≤ 6000) (hi : i < s.size)
    (n : Nat) (hn : n = spanL digitB (s.data.toList.drop i) 0) (hl : digitB s[i] = true) (hp : parsesInt ((s.data.toList.drop i).take n) = false) :
    Calls Tryz.prog 86 #[.pointer (some ⟨x, 0, none⟩)] w fun e w' => e = .panicked [{ v := .iface 105 (.int .i64 i), recovered := false }] ∧ Stp x w w' := by
  have Hl := Lib.hid hl
  obtain ⟨r, hr0, hrl, hr1, hsl⟩ := rest_facts s i hi
  have c1 := h.c1
  have c0 := h.c0
  have f1 := h.f 1
  have Hrl := Lib.hid hrl; have Hr1 := Lib.hid hr1
  clear hrl
  have hd : digitB r[0] = true := by rw [hr1]; exact hl
  have hd1 : 48 ≤ (r[0]'hr0).toNat := (of_decide_eq_true hd).1
  have hd2 : (r[0]'hr0).toNat ≤ 57 := (of_decide_eq_true hd).2
  have hlf : lowB r[0] = false := by unfold lowB; rw [decide_eq_false_iff_not]; omega
  obtain ⟨m, hm⟩ : ∃ m, m = i + n := ⟨_, rfl⟩
  have hsp : spanL digitB s.data.toList i = m := by have := spanL_drop digitB s.data.toList i 0; simp only [Nat.add_zero] at this; rw [this, hm, hn]
  have hsz : m ≤ s.size := by rw [← hsp]; exact (spanL_le _ _ _ (by simp; omega)).2
  have him : i ≤ m := by omega
  obtain ⟨t, htl, htn, hsl2⟩ := mid_facts s i n m hm hsz
  have ht6 : t.size ≤ 6000 := by omega
  have hpt : parsesInt t.data.toList = false := by rw [htl]; exact hp
  have Htl := Lib.hid htl; have Hsp := Lib.hid hsp; have Htn := Lib.hid htn; have Hn := Lib.hid hn; have Hm := Lib.hid hm; have Hpt := Lib.hid hpt
  clear htl hsp htn hr1 hl hn hm hp hd hpt
  go_enter Tryz.func86, Tryz.ntmps86
  go_wp2_with fail
  obtain ⟨h0, s0⟩ := h.alloc (.cells #[.string r] 9)
  have hg0 := hg.stp h s0
  have bx0 : (w.alloc (.cells #[.string r] 9)).cell? ⟨w.heap.size, 0, none⟩ = some (.string r) := by rw [cell_of_blk (heap_alloc_new w _)]; rfl
  have sf0 := h.safe_new (.cells #[.string r] 9)
  clear c0 c1 f1 h hg
  generalize hW : w.alloc (.cells #[.string r] 9) = W at h0 s0 hg0 bx0 sf0 ⊢
  clear hW
  have c0 := h0.c0
  have c1 := h0.c1
  have f1 := h0.f 1
  refine (low_any _ _).mono ?_; rintro e w' ⟨rfl, rfl⟩
  go_wp2_with fail
  refine (digit_any _ _).mono ?_; rintro e w' ⟨rfl, rfl⟩
  have hd : digitB r[0] = true := by rw [Hr1.out]; exact Hl.out
  go_wp2_with fail
  refine (span_any _ _ digit_fn x s i _ hs (by omega) c0).mono ?_; rintro e w' ⟨rfl, rfl⟩
  rw [Hsp.out]
  go_wp2_with fail
  obtain ⟨h1, s1⟩ := h0.setAt m
  have hg1 := hg0.stp h0 s1
  have bx1 := (s1.cell (a := ⟨w.heap.size, 0, none⟩) sf0).trans bx0
  have s1' := s0.trans s1
  clear c0 c1 f1 s0 s1 h0 hg0 bx0 sf0
  generalize W.setCell ⟨x, 1, none⟩ (.int .i64 (m : Int)) = W1 at h1 s1' hg1 bx1 ⊢
  have c0 := h1.c0
  have c1 := h1.c1
  go_quiet (fail)
  have h2 := h1.drewN nq
  have hg2 : Glob (x - 1) (W1.drewN nq) := hg1.stp h1 (Stp.drewN _ _ _)
  have s2 := s1'.trans (Stp.drewN x W1 nq)
  clear h1 s1' hg1 bx1 c0 c1
  generalize W1.drewN nq = W2 at h2 s2 hg2 ⊢
  have c0 := h2.c0
  have c1 := h2.c1
  go_wp2_with fail
  refine (parseInt_bad t _ ht6 (x - 1) hg2 Hpt.out).mono ?_; rintro e w' ⟨⟨v, N, rfl⟩, hB⟩
  obtain ⟨h3, s3⟩ := h2.grow hB
  have s4 := s2.trans s3
  clear h2 s2 s3 hB c0 c1 hg2
  go_wp2_with fail
  exact ⟨rfl, rfl, s4⟩
end Go.Proofs.YtdoaeapahgmfoaaGreatDoor
