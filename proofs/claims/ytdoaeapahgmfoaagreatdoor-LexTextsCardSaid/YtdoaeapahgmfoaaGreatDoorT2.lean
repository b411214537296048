/- The lexer's token: a word or a name. -/
import Derived.Test.YtdoaeapahgmfoaaGreatDoorP0
namespace Go.Proofs.YtdoaeapahgmfoaaGreatDoor
open Go.RowKit

theorem slice_from (s : ByteArray) (i : Nat) (h : i ≤ s.size) (w : World) :
    (Instr.slice 9 (.string s) (some (.int .i64 (i : Int))) none none).run Tryz.prog w = .ok (.string (s.extract i s.size)) w := by
  rw [run_slice_string_from_if w 9 s .i64 _ Tryz.underlying9, if_pos ⟨by omega, by omega⟩]
  rfl
theorem slice_mid (s : ByteArray) (i j : Nat) (h : i ≤ j) (h2 : j ≤ s.size) (w : World) :
    (Instr.slice 9 (.string s) (some (.int .i64 (i : Int))) (some (.int .i64 (j : Int))) none).run Tryz.prog w = .ok (.string (s.extract i j)) w := by
  rw [run_slice_string w 9 s .i64 .i64 _ _ Tryz.underlying9 (by omega) (by omega) (by omega)]
  rfl

theorem span_at (f : Nat) (p : UInt8 → Bool) (hf : ByteFn f p) (x : Nat) (s : ByteArray) (j : Int) (i : Nat) (hj : j = (i : Int)) (w : World) (hs : s.size ≤ 6000) (hi : i ≤ s.size) (hc : w.cell? ⟨x, 0, none⟩ = some (.string s)) :
    Calls Tryz.prog 82 #[.pointer (some ⟨x, 0, none⟩), .int .i64 j, .func (.func f) #[] #[]] w fun e w' => e = .returned (.int .i64 (spanL p s.data.toList i)) ∧ w = w' := by
  subst hj; exact span_any f p hf x s i w hs hi hc

/-- What is left of the text, and its first byte. -/
theorem rest_facts (s : ByteArray) (i : Nat) (hi : i < s.size) : ∃ (r : ByteArray) (hr0 : 0 < r.size), r.data.toList = s.data.toList.drop i ∧ r[0]'hr0 = s[i]'hi ∧
    ∀ w : World, (Instr.slice 9 (.string s) (some (.int .i64 (i : Int))) none none).run Tryz.prog w = .ok (.string r) w := by
  have hrl : (s.extract i s.size).data.toList = s.data.toList.drop i := by simp [List.take_of_length_le]
  have hr0 : 0 < (s.extract i s.size).size := by simp; omega
  refine ⟨s.extract i s.size, hr0, hrl, ?_, fun w => slice_from s i (by omega) w⟩
  have : (s.extract i s.size).data.toList[0]'(by simpa using hr0) = s.data.toList[i]'(by simpa using hi) := by simp only [hrl]; simp
  exact this
theorem mid_facts (s : ByteArray) (i n m : Nat) (hm : m = i + n) (hi : m ≤ s.size) : ∃ (t : ByteArray), t.data.toList = (s.data.toList.drop i).take n ∧ t.size = n ∧
    ∀ w : World, (Instr.slice 9 (.string s) (some (.int .i64 (i : Int))) (some (.int .i64 (m : Int))) none).run Tryz.prog w = .ok (.string t) w := by
  subst hm
  refine ⟨s.extract i (i + n), ?_, ?_, fun w => slice_mid s i (i + n) (by omega) hi w⟩
  · simp
  · simp; omega

theorem toBA_inj {a b : List UInt8} (h : toBA a = toBA b) : a = b := by
  have := congrArg (fun z : ByteArray => z.data.toList) h
  simpa [toBA_list] using this
theorem contains_toBA (zs : List (List UInt8)) (t : ByteArray) : Lib.containsS (zs.map toBA) t = zs.contains t.data.toList := by
  rw [Bool.eq_iff_iff, Lib.containsS_iff, List.contains_iff_mem, List.mem_map]
  constructor
  · rintro ⟨a, ha, rfl⟩; exact ha
  · intro h; exact ⟨_, h, rfl⟩

theorem contains_words {b off c : Nat} {w : World} (hw : ∀ j (hj : j < (wordsL.map toBA).length), w.cell? ⟨b, off + j, none⟩ = some (.string (wordsL.map toBA)[j])) (t : ByteArray) :
    Calls Tryz.prog 41 #[.slice (some ⟨b, off, none⟩) 25 c, .string t] w fun e w' => e = .returned (.bool (wordsL.contains t.data.toList)) ∧ w = w' := by
  have h := Tryz.slices_Contains_string b off 25 c (wordsL.map toBA) t w (by decide) (by decide) (fun j hj => by
    rw [hw j hj, List.getD_eq_getElem?_getD, List.getElem?_eq_getElem hj]; rfl)
  refine h.mono ?_
  rintro e w' ⟨rfl, rfl⟩
  exact ⟨by rw [show (wordsL.map toBA).take 25 = wordsL.map toBA from rfl, contains_toBA], rfl⟩



set_option maxRecDepth 100000 in
set_option maxHeartbeats 1000000 in
theorem token_word
    {w : World} {x i : Nat} {s : ByteArray} {vo vp : Value} {ts : List Tok} {os : List Nat} (h : LexC w x s i vo vp ts os) (hg : Glob (x - 1) w) (hs : s.size ≤ 6000) (hi : i < s.size) (hts : ts.length ≤ maxToks)
    (n : Nat) (hn : n = spanL wordB (s.data.toList.drop i) 1) (hl : lowB s[i] = true) (hw : wordsL.contains ((s.data.toList.drop i).take n) = true) :
    Calls Tryz.prog 86 #[.pointer (some ⟨x, 0, none⟩)] w fun e w' => e = .returned (.tuple #[]) ∧
      (∃ vo', LexC w' x s (i + n) vo' vp (ts ++ [⟨kWord, (s.data.toList.drop i).take n, i⟩]) os) ∧ Stp x w w' := by
  obtain ⟨r, hr0, hrl, hr1, hsl⟩ := rest_facts s i hi
  have c1 := h.c1
  have c0 := h.c0
  have f1 := h.f 1
  have Hrl := Lib.hid hrl; have Hr1 := Lib.hid hr1
  clear hrl
  have hll : lowB r[0] = true := by rw [hr1]; exact hl
  obtain ⟨m, hm⟩ : ∃ m, m = i + n := ⟨_, rfl⟩
  have hsp : spanL wordB s.data.toList (i + 1) = m := by rw [spanL_drop, hm, hn]
  have hsz : m ≤ s.size := by rw [← hsp]; exact (spanL_le _ _ _ (by simp; omega)).2
  have him : i ≤ m := by omega
  obtain ⟨t, htl, htn, hsl2⟩ := mid_facts s i n m hm hsz
  have Htl := Lib.hid htl; have Hsp := Lib.hid hsp; have Htn := Lib.hid htn; have Hw := Lib.hid hw; have Hn := Lib.hid hn; have Hm := Lib.hid hm
  clear htl hsp htn hw hr1 hl hn hm
  rw [← Hm.out]
  go_enter Tryz.func86, Tryz.ntmps86
  go_wp2_with fail
  obtain ⟨h0, s0⟩ := h.alloc (.cells #[.string r] 9)
  have hg0 := hg.stp h s0
  have bx0 : (w.alloc (.cells #[.string r] 9)).cell? ⟨w.heap.size, 0, none⟩ = some (.string r) := by rw [cell_of_blk (heap_alloc_new w _)]; rfl
  have sf0 := h.safe_new (.cells #[.string r] 9)
  clear c0 c1 f1 h hg
  generalize hW : w.alloc (.cells #[.string r] 9) = W at h0 s0 hg0 bx0 sf0 ⊢
  clear hW
  have c0 := h0.c0
  have c1 := h0.c1
  have f1 := h0.f 1
  refine (low_any _ _).mono ?_; rintro e w' ⟨rfl, rfl⟩
  go_wp2_with fail
  refine (span_at _ _ word_fn x s ((i : Int) + 1) (i + 1) (by omega) _ hs (by omega) c0).mono ?_; rintro e w' ⟨rfl, rfl⟩
  rw [Hsp.out]
  go_wp2_with fail
  obtain ⟨h1, s1⟩ := h0.setAt m
  have hg1 := hg0.stp h0 s1
  have bx1 := (s1.cell (a := ⟨w.heap.size, 0, none⟩) sf0).trans bx0
  have s1' := s0.trans s1
  clear c0 c1 f1 s0 s1 h0 hg0 bx0 sf0
  generalize W.setCell ⟨x, 1, none⟩ (.int .i64 (m : Int)) = W1 at h1 s1' hg1 bx1 ⊢
  have c0 := h1.c0
  have c1 := h1.c1
  go_quiet (fail)
  have h2 := h1.drewN nq
  have hg2 : Glob (x - 1) (W1.drewN nq) := hg1.stp h1 (Stp.drewN _ _ _)
  have s2 := s1'.trans (Stp.drewN x W1 nq)
  clear h1 s1' hg1 bx1 c0 c1
  generalize W1.drewN nq = W2 at h2 s2 hg2 ⊢
  have c0 := h2.c0
  have c1 := h2.c1
  obtain ⟨bw, ow, cw, hw1, _, hw3⟩ := hg2.words
  have Hw3 := Lib.hid hw3; clear hw3
  go_wp2_with fail
  refine (contains_words Hw3.out t).mono ?_; rintro e w' ⟨rfl, rfl⟩
  rw [Htl.out, Hw.out]
  go_wp2_with fail
  refine (put_any h2 _ _ _ hts).mono ?_; rintro e w' ⟨rfl, ⟨vo', h3⟩, s3⟩
  have h4 : LexC w' x s m vo' vp (ts ++ [⟨kWord, t.data.toList, i⟩]) os := h3
  rw [Htl.out] at h4
  have s4 := s2.trans s3
  clear h2 s2 hg2 c0 c1 h3 s3
  go_wp2_with fail
  go_end0
  exact ⟨rfl, ⟨vo', h4⟩, s4⟩

set_option maxRecDepth 100000 in
set_option maxHeartbeats 1000000 in
theorem token_upword
    {w : World} {x i : Nat} {s : ByteArray} {vo vp : Value} {ts : List Tok} {os : List Nat} (h : LexC w x s i vo vp ts os) (hg : Glob (x - 1) w) (hs : s.size ≤ 6000) (hi : i < s.size) (hts : ts.length ≤ maxToks)
    (n : Nat) (hn : n = spanL wordB (s.data.toList.drop i) 1) (hlo : lowB s[i] = false) (hl : upB s[i] = true) (hw : wordsL.contains ((s.data.toList.drop i).take n) = true) :
    Calls Tryz.prog 86 #[.pointer (some ⟨x, 0, none⟩)] w fun e w' => e = .returned (.tuple #[]) ∧
      (∃ vo', LexC w' x s (i + n) vo' vp (ts ++ [⟨kWord, (s.data.toList.drop i).take n, i⟩]) os) ∧ Stp x w w' := by
  obtain ⟨r, hr0, hrl, hr1, hsl⟩ := rest_facts s i hi
  have c1 := h.c1
  have c0 := h.c0
  have f1 := h.f 1
  have Hrl := Lib.hid hrl; have Hr1 := Lib.hid hr1
  clear hrl
  have hll : upB r[0] = true := by rw [hr1]; exact hl
  obtain ⟨m, hm⟩ : ∃ m, m = i + n := ⟨_, rfl⟩
  have hsp : spanL wordB s.data.toList (i + 1) = m := by rw [spanL_drop, hm, hn]
  have hsz : m ≤ s.size := by rw [← hsp]; exact (spanL_le _ _ _ (by simp; omega)).2
  have him : i ≤ m := by omega
  obtain ⟨t, htl, htn, hsl2⟩ := mid_facts s i n m hm hsz
  have Htl := Lib.hid htl; have Hsp := Lib.hid hsp; have Htn := Lib.hid htn; have Hw := Lib.hid hw; have Hn := Lib.hid hn; have Hm := Lib.hid hm
  clear htl hsp htn hw hr1 hl hn hm
  have hlf : lowB r[0] = false := by rw [Hr1.out]; exact hlo
  have hu1 : 65 ≤ (r[0]'hr0).toNat := (of_decide_eq_true hll).1
  have hu2 : (r[0]'hr0).toNat ≤ 90 := (of_decide_eq_true hll).2
  rw [← Hm.out]
  clear hlo hll
  go_enter Tryz.func86, Tryz.ntmps86
  go_wp2_with fail
  obtain ⟨h0, s0⟩ := h.alloc (.cells #[.string r] 9)
  have hg0 := hg.stp h s0
  have bx0 : (w.alloc (.cells #[.string r] 9)).cell? ⟨w.heap.size, 0, none⟩ = some (.string r) := by rw [cell_of_blk (heap_alloc_new w _)]; rfl
  have sf0 := h.safe_new (.cells #[.string r] 9)
  clear c0 c1 f1 h hg
  generalize hW : w.alloc (.cells #[.string r] 9) = W at h0 s0 hg0 bx0 sf0 ⊢
  clear hW
  have c0 := h0.c0
  have c1 := h0.c1
  have f1 := h0.f 1
  refine (low_any _ _).mono ?_; rintro e w' ⟨rfl, rfl⟩
  go_wp2_with fail
  refine (span_at _ _ word_fn x s ((i : Int) + 1) (i + 1) (by omega) _ hs (by omega) c0).mono ?_; rintro e w' ⟨rfl, rfl⟩
  rw [Hsp.out]
  go_wp2_with fail
  obtain ⟨h1, s1⟩ := h0.setAt m
  have hg1 := hg0.stp h0 s1
  have bx1 := (s1.cell (a := ⟨w.heap.size, 0, none⟩) sf0).trans bx0
  have s1' := s0.trans s1
  clear c0 c1 f1 s0 s1 h0 hg0 bx0 sf0
  generalize W.setCell ⟨x, 1, none⟩ (.int .i64 (m : Int)) = W1 at h1 s1' hg1 bx1 ⊢
  have c0 := h1.c0
  have c1 := h1.c1
  go_quiet (fail)
  have h2 := h1.drewN nq
  have hg2 : Glob (x - 1) (W1.drewN nq) := hg1.stp h1 (Stp.drewN _ _ _)
  have s2 := s1'.trans (Stp.drewN x W1 nq)
  clear h1 s1' hg1 bx1 c0 c1
  generalize W1.drewN nq = W2 at h2 s2 hg2 ⊢
  have c0 := h2.c0
  have c1 := h2.c1
  obtain ⟨bw, ow, cw, hw1, _, hw3⟩ := hg2.words
  have Hw3 := Lib.hid hw3; clear hw3
  go_wp2_with fail
  refine (contains_words Hw3.out t).mono ?_; rintro e w' ⟨rfl, rfl⟩
  rw [Htl.out, Hw.out]
  go_wp2_with fail
  refine (put_any h2 _ _ _ hts).mono ?_; rintro e w' ⟨rfl, ⟨vo', h3⟩, s3⟩
  have h4 : LexC w' x s m vo' vp (ts ++ [⟨kWord, t.data.toList, i⟩]) os := h3
  rw [Htl.out] at h4
  have s4 := s2.trans s3
  clear h2 s2 hg2 c0 c1 h3 s3
  go_wp2_with fail
  go_end0
  exact ⟨rfl, ⟨vo', h4⟩, s4⟩

set_option maxRecDepth 100000 in
set_option maxHeartbeats 1000000 in
theorem token_name
    {w : World} {x i : Nat} {s : ByteArray} {vo vp : Value} {ts : List Tok} {os : List Nat} (h : LexC w x s i vo vp ts os) (hg : Glob (x - 1) w) (hs : s.size ≤ 6000) (hi : i < s.size) (hts : ts.length ≤ maxToks)
    (n : Nat) (hn : n = spanL wordB (s.data.toList.drop i) 1) (hl : lowB s[i] = true) (hw : wordsL.contains ((s.data.toList.drop i).take n) = false) (hn16 : n ≤ 16) :
    Calls Tryz.prog 86 #[.pointer (some ⟨x, 0, none⟩)] w fun e w' => e = .returned (.tuple #[]) ∧
      (∃ vo', LexC w' x s (i + n) vo' vp (ts ++ [⟨kName, (s.data.toList.drop i).take n, i⟩]) os) ∧ Stp x w w' := by
  obtain ⟨r, hr0, hrl, hr1, hsl⟩ := rest_facts s i hi
  have c1 := h.c1
  have c0 := h.c0
  have f1 := h.f 1
  have Hrl := Lib.hid hrl; have Hr1 := Lib.hid hr1
  clear hrl
  have hll : lowB r[0] = true := by rw [hr1]; exact hl
  obtain ⟨m, hm⟩ : ∃ m, m = i + n := ⟨_, rfl⟩
  have hsp : spanL wordB s.data.toList (i + 1) = m := by rw [spanL_drop, hm, hn]
  have hsz : m ≤ s.size := by rw [← hsp]; exact (spanL_le _ _ _ (by simp; omega)).2
  have him : i ≤ m := by omega
  obtain ⟨t, htl, htn, hsl2⟩ := mid_facts s i n m hm hsz
  have Htl := Lib.hid htl; have Hsp := Lib.hid hsp; have Htn := Lib.hid htn; have Hw := Lib.hid hw; have Hn := Lib.hid hn; have Hm := Lib.hid hm
  clear htl hsp htn hw hr1 hl hn hm
  have ht16 : t.size ≤ 16 := by rw [Htn.out]; exact hn16
  rw [← Hm.out]
  go_enter Tryz.func86, Tryz.ntmps86
  go_wp2_with fail
  obtain ⟨h0, s0⟩ := h.alloc (.cells #[.string r] 9)
  have hg0 := hg.stp h s0
  have bx0 : (w.alloc (.cells #[.string r] 9)).cell? ⟨w.heap.size, 0, none⟩ = some (.string r) := by rw [cell_of_blk (heap_alloc_new w _)]; rfl
  have sf0 := h.safe_new (.cells #[.string r] 9)
  clear c0 c1 f1 h hg
  generalize hW : w.alloc (.cells #[.string r] 9) = W at h0 s0 hg0 bx0 sf0 ⊢
  clear hW
  have c0 := h0.c0
  have c1 := h0.c1
  have f1 := h0.f 1
  refine (low_any _ _).mono ?_; rintro e w' ⟨rfl, rfl⟩
  go_wp2_with fail
  refine (span_at _ _ word_fn x s ((i : Int) + 1) (i + 1) (by omega) _ hs (by omega) c0).mono ?_; rintro e w' ⟨rfl, rfl⟩
  rw [Hsp.out]
  go_wp2_with fail
  obtain ⟨h1, s1⟩ := h0.setAt m
  have hg1 := hg0.stp h0 s1
  have bx1 := (s1.cell (a := ⟨w.heap.size, 0, none⟩) sf0).trans bx0
  have s1' := s0.trans s1
  clear c0 c1 f1 s0 s1 h0 hg0 bx0 sf0
  generalize W.setCell ⟨x, 1, none⟩ (.int .i64 (m : Int)) = W1 at h1 s1' hg1 bx1 ⊢
  have c0 := h1.c0
  have c1 := h1.c1
  go_quiet (fail)
  have h2 := h1.drewN nq
  have hg2 : Glob (x - 1) (W1.drewN nq) := hg1.stp h1 (Stp.drewN _ _ _)
  have s2 := s1'.trans (Stp.drewN x W1 nq)
  clear h1 s1' hg1 bx1 c0 c1
  generalize W1.drewN nq = W2 at h2 s2 hg2 ⊢
  have c0 := h2.c0
  have c1 := h2.c1
  obtain ⟨bw, ow, cw, hw1, _, hw3⟩ := hg2.words
  have Hw3 := Lib.hid hw3; clear hw3
  go_wp2_with fail
  refine (contains_words Hw3.out t).mono ?_; rintro e w' ⟨rfl, rfl⟩
  rw [Htl.out, Hw.out]
  go_wp2_with fail
  refine (low_any _ _).mono ?_; rintro e w' ⟨rfl, rfl⟩
  go_wp2_with fail
  refine (put_any h2 _ _ _ hts).mono ?_; rintro e w' ⟨rfl, ⟨vo', h3⟩, s3⟩
  have h4 : LexC w' x s m vo' vp (ts ++ [⟨kName, t.data.toList, i⟩]) os := h3
  rw [Htl.out] at h4
  have s4 := s2.trans s3
  clear h2 s2 hg2 c0 c1 h3 s3
  go_wp2_with fail
  go_end0
  exact ⟨rfl, ⟨vo', h4⟩, s4⟩

set_option maxRecDepth 100000 in
set_option maxHeartbeats 1000000 in
theorem token_long
    {w : World} {x i : Nat} {s : ByteArray} {vo vp : Value} {ts : List Tok} {os : List Nat} (h : LexC w x s i vo vp ts os) (hg : Glob (x - 1) w) (hs : s.size ≤ 6000) (hi : i < s.size)
    (n : Nat) (hn : n = spanL wordB (s.data.toList.drop i) 1) (hl : lowB s[i] = true) (hw : wordsL.contains ((s.data.toList.drop i).take n) = false) (hn16 : 16 < n) :
    Calls Tryz.prog 86 #[.pointer (some ⟨x, 0, none⟩)] w fun e w' => e = .panicked [{ v := .iface 105 (.int .i64 i), recovered := false }] ∧ Stp x w w' := by
  obtain ⟨r, hr0, hrl, hr1, hsl⟩ := rest_facts s i hi
  have c1 := h.c1
  have c0 := h.c0
  have f1 := h.f 1
  have Hrl := Lib.hid hrl; have Hr1 := Lib.hid hr1
  clear hrl
  have hll : lowB r[0] = true := by rw [hr1]; exact hl
  obtain ⟨m, hm⟩ : ∃ m, m = i + n := ⟨_, rfl⟩
  have hsp : spanL wordB s.data.toList (i + 1) = m := by rw [spanL_drop, hm, hn]
  have hsz : m ≤ s.size := by rw [← hsp]; exact (spanL_le _ _ _ (by simp; omega)).2
  have him : i ≤ m := by omega
  obtain ⟨t, htl, htn, hsl2⟩ := mid_facts s i n m hm hsz
  have Htl := Lib.hid htl; have Hsp := Lib.hid hsp; have Htn := Lib.hid htn; have Hw := Lib.hid hw; have Hn := Lib.hid hn; have Hm := Lib.hid hm
  clear htl hsp htn hw hr1 hl hn hm
  have ht16 : 16 < t.size := by rw [Htn.out]; exact hn16
  go_enter Tryz.func86, Tryz.ntmps86
  go_wp2_with fail
  obtain ⟨h0, s0⟩ := h.alloc (.cells #[.string r] 9)
  have hg0 := hg.stp h s0
  have bx0 : (w.alloc (.cells #[.string r] 9)).cell? ⟨w.heap.size, 0, none⟩ = some (.string r) := by rw [cell_of_blk (heap_alloc_new w _)]; rfl
  have sf0 := h.safe_new (.cells #[.string r] 9)
  clear c0 c1 f1 h hg
  generalize hW : w.alloc (.cells #[.string r] 9) = W at h0 s0 hg0 bx0 sf0 ⊢
  clear hW
  have c0 := h0.c0
  have c1 := h0.c1
  have f1 := h0.f 1
  refine (low_any _ _).mono ?_; rintro e w' ⟨rfl, rfl⟩
  go_wp2_with fail
  refine (span_at _ _ word_fn x s ((i : Int) + 1) (i + 1) (by omega) _ hs (by omega) c0).mono ?_; rintro e w' ⟨rfl, rfl⟩
  rw [Hsp.out]
  go_wp2_with fail
  obtain ⟨h1, s1⟩ := h0.setAt m
  have hg1 := hg0.stp h0 s1
  have bx1 := (s1.cell (a := ⟨w.heap.size, 0, none⟩) sf0).trans bx0
  have s1' := s0.trans s1
  clear c0 c1 f1 s0 s1 h0 hg0 bx0 sf0
  generalize W.setCell ⟨x, 1, none⟩ (.int .i64 (m : Int)) = W1 at h1 s1' hg1 bx1 ⊢
  have c0 := h1.c0
  have c1 := h1.c1
  go_quiet (fail)
  have h2 := h1.drewN nq
  have hg2 : Glob (x - 1) (W1.drewN nq) := hg1.stp h1 (Stp.drewN _ _ _)
  have s2 := s1'.trans (Stp.drewN x W1 nq)
  clear h1 s1' hg1 bx1 c0 c1
  generalize W1.drewN nq = W2 at h2 s2 hg2 ⊢
  have c0 := h2.c0
  have c1 := h2.c1
  obtain ⟨bw, ow, cw, hw1, _, hw3⟩ := hg2.words
  have Hw3 := Lib.hid hw3; clear hw3
  go_wp2_with fail
  refine (contains_words Hw3.out t).mono ?_; rintro e w' ⟨rfl, rfl⟩
  rw [Htl.out, Hw.out]
  go_wp2_with fail
  refine (low_any _ _).mono ?_; rintro e w' ⟨rfl, rfl⟩
  go_wp2_with fail
  exact ⟨rfl, rfl, s2⟩

set_option maxRecDepth 100000 in
set_option maxHeartbeats 1000000 in
theorem token_upbad
    {w : World} {x i : Nat} {s : ByteArray} {vo vp : Value} {ts : List Tok} {os : List Nat} (h : LexC w x s i vo vp ts os) (hg : Glob (x - 1) w) (hs : s.size ≤ 6000) (hi : i < s.size)
    (n : Nat) (hn : n = spanL wordB (s.data.toList.drop i) 1) (hlo : lowB s[i] = false) (hl : upB s[i] = true) (hw : wordsL.contains ((s.data.toList.drop i).take n) = false) :
    Calls Tryz.prog 86 #[.pointer (some ⟨x, 0, none⟩)] w fun e w' => e = .panicked [{ v := .iface 105 (.int .i64 i), recovered := false }] ∧ Stp x w w' := by
  obtain ⟨r, hr0, hrl, hr1, hsl⟩ := rest_facts s i hi
  have c1 := h.c1
  have c0 := h.c0
  have f1 := h.f 1
  have Hrl := Lib.hid hrl; have Hr1 := Lib.hid hr1
  clear hrl
  have hll : upB r[0] = true := by rw [hr1]; exact hl
  obtain ⟨m, hm⟩ : ∃ m, m = i + n := ⟨_, rfl⟩
  have hsp : spanL wordB s.data.toList (i + 1) = m := by rw [spanL_drop, hm, hn]
  have hsz : m ≤ s.size := by rw [← hsp]; exact (spanL_le _ _ _ (by simp; omega)).2
  have him : i ≤ m := by omega
  obtain ⟨t, htl, htn, hsl2⟩ := mid_facts s i n m hm hsz
  have Htl := Lib.hid htl; have Hsp := Lib.hid hsp; have Htn := Lib.hid htn; have Hw := Lib.hid hw; have Hn := Lib.hid hn; have Hm := Lib.hid hm
  clear htl hsp htn hw hr1 hl hn hm
  have hlf : lowB r[0] = false := by rw [Hr1.out]; exact hlo
  have hu1 : 65 ≤ (r[0]'hr0).toNat := (of_decide_eq_true hll).1
  have hu2 : (r[0]'hr0).toNat ≤ 90 := (of_decide_eq_true hll).2
  clear hlo hll
  go_enter Tryz.func86, Tryz.ntmps86
  go_wp2_with fail
  obtain ⟨h0, s0⟩ := h.alloc (.cells #[.string r] 9)
  have hg0 := hg.stp h s0
  have bx0 : (w.alloc (.cells #[.string r] 9)).cell? ⟨w.heap.size, 0, none⟩ = some (.string r) := by rw [cell_of_blk (heap_alloc_new w _)]; rfl
  have sf0 := h.safe_new (.cells #[.string r] 9)
  clear c0 c1 f1 h hg
  generalize hW : w.alloc (.cells #[.string r] 9) = W at h0 s0 hg0 bx0 sf0 ⊢
  clear hW
  have c0 := h0.c0
  have c1 := h0.c1
  have f1 := h0.f 1
  refine (low_any _ _).mono ?_; rintro e w' ⟨rfl, rfl⟩
  go_wp2_with fail
  refine (span_at _ _ word_fn x s ((i : Int) + 1) (i + 1) (by omega) _ hs (by omega) c0).mono ?_; rintro e w' ⟨rfl, rfl⟩
  rw [Hsp.out]
  go_wp2_with fail
  obtain ⟨h1, s1⟩ := h0.setAt m
  have hg1 := hg0.stp h0 s1
  have bx1 := (s1.cell (a := ⟨w.heap.size, 0, none⟩) sf0).trans bx0
  have s1' := s0.trans s1
  clear c0 c1 f1 s0 s1 h0 hg0 bx0 sf0
  generalize W.setCell ⟨x, 1, none⟩ (.int .i64 (m : Int)) = W1 at h1 s1' hg1 bx1 ⊢
  have c0 := h1.c0
  have c1 := h1.c1
  go_quiet (fail)
  have h2 := h1.drewN nq
  have hg2 : Glob (x - 1) (W1.drewN nq) := hg1.stp h1 (Stp.drewN _ _ _)
  have s2 := s1'.trans (Stp.drewN x W1 nq)
  clear h1 s1' hg1 bx1 c0 c1
  generalize W1.drewN nq = W2 at h2 s2 hg2 ⊢
  have c0 := h2.c0
  have c1 := h2.c1
  obtain ⟨bw, ow, cw, hw1, _, hw3⟩ := hg2.words
  have Hw3 := Lib.hid hw3; clear hw3
  go_wp2_with fail
  refine (contains_words Hw3.out t).mono ?_; rintro e w' ⟨rfl, rfl⟩
  rw [Htl.out, Hw.out]
  go_wp2_with fail
  refine (low_any _ _).mono ?_; rintro e w' ⟨rfl, rfl⟩
  go_wp2_with fail
  exact ⟨rfl, rfl, s2⟩
end Go.Proofs.YtdoaeapahgmfoaaGreatDoor
