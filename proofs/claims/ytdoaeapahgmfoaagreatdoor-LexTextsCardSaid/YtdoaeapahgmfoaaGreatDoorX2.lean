/- lex.Lex: the tokens of a text, or the place where none begins. -/
import Derived.Test.YtdoaeapahgmfoaaGreatDoorX1
namespace Go.Proofs.YtdoaeapahgmfoaaGreatDoor
open Go.RowKit

theorem Glob.mono {B B' : Nat} {w : World} (h : Glob B w) (hB : B ≤ B') : Glob B' w := by
  obtain ⟨b, o, c, h1, h2, h3⟩ := h.words
  obtain ⟨b2, o2, c2, g1, g2, g3⟩ := h.ops
  exact ⟨by have := h.hB; omega, ⟨b, o, c, h1, by omega, h3⟩, ⟨b2, o2, c2, g1, by omega, g3⟩, h.syn, h.ran⟩

/-- All lines from a place on. -/
def linesL : Nat → List UInt8 → Nat → List Nat → Except Nat (List Tok × List Nat)
  | 0, _, _, st => .ok ([], st)
  | f + 1, l, i, st => if i < l.length then match lineL l i st with
      | .error e => .error e
      | .ok (ts, j, st') => match linesL f l j st' with
        | .error e => .error e
        | .ok (ts', st'') => .ok (ts ++ ts', st'')
    else .ok ([], st)

/-- The tokens of a text. -/
def lexL (l : List UInt8) : Except Nat (List Tok) := match linesL (l.length + 1) l 0 [0] with
  | .error e => .error e
  | .ok (ts, st) => .ok (ts ++ List.replicate (st.length - 1) ⟨kDedent, [], l.length⟩ ++ [⟨kEnd, [], l.length⟩])

/-- The lines from i on are those that stand there, and those from j on. -/
def LinesRel (l : List UInt8) (j : Nat) (st : List Nat) (ts : List Tok) : Prop := ∀ f, l.length < j + f → linesL (l.length + 1) l 0 [0] = match linesL f l j st with
  | .error e => .error e
  | .ok (a, st') => .ok (ts ++ a, st')

theorem linesL_fuel : ∀ (f g : Nat) (l : List UInt8) (k : Nat) (st : List Nat), l.length < k + f → l.length < k + g → linesL f l k st = linesL g l k st := by
  intro f
  induction f with
  | zero =>
    intro g l k st h2 h3
    match g with
    | 0 => rfl
    | g + 1 => rw [linesL, linesL, if_neg (by omega)]
  | succ f ih =>
    intro g l k st h2 h3
    match g, h3 with
    | 0, h3 => rw [linesL, linesL, if_neg (by omega)]
    | g + 1, h3 =>
      rw [linesL, linesL]
      split
      · rename_i hk
        split
        · rfl
        · rename_i ts j st' hl
          have := lineL_sum (by omega) hl
          rw [ih g l j st' (by omega) (by omega)]
      · rfl

theorem LinesRel.start (l : List UInt8) : LinesRel l 0 [0] [] := by
  intro f hf
  rw [linesL_fuel (l.length + 1) f l 0 [0] (by omega) (by omega)]
  split
  · rename_i e he; exact he
  · rename_i a st' he; exact he
theorem LinesRel.next {l : List UInt8} {i j : Nat} {st st' : List Nat} {ts ts' : List Tok} (h : LinesRel l i st ts) (hi : i < l.length) (hl : lineL l i st = .ok (ts', j, st')) : LinesRel l j st' (ts ++ ts') := by
  intro f hf
  have hs := lineL_sum (by omega) hl
  rw [h (f + (j - i)) (by omega), show f + (j - i) = (f + (j - i) - 1) + 1 from by omega, linesL, if_pos hi, hl]
  simp only
  rw [linesL_fuel (f + (j - i) - 1) f l j st' (by omega) (by omega)]
  rcases linesL f l j st' with e | ⟨a, b⟩
  · rfl
  · simp
theorem LinesRel.bad {l : List UInt8} {i e : Nat} {st : List Nat} {ts : List Tok} (h : LinesRel l i st ts) (hi : i < l.length) (hl : lineL l i st = .error e) : lexL l = .error e := by
  unfold lexL
  rw [h (l.length + 1) (by omega), linesL, if_pos hi, hl]
theorem LinesRel.stop {l : List UInt8} {i : Nat} {st : List Nat} {ts : List Tok} (h : LinesRel l i st ts) (hi : l.length ≤ i) :
    lexL l = .ok (ts ++ List.replicate (st.length - 1) ⟨kDedent, [], l.length⟩ ++ [⟨kEnd, [], l.length⟩]) := by
  unfold lexL
  rw [h (l.length + 1) (by omega), linesL, if_neg (by omega)]
  simp

/-- What Lex answers of a text that is not too long. -/
def LexPost (w : World) (l : List UInt8) (e : Ending) (w' : World) : Prop :=
  Below w.heap.size w w' ∧ match lexL l with
  | .ok ts => ∃ vo, e = .returned (.tuple #[vo, .nilIface]) ∧ w'.ownsRow w.heap.size 104 3 vo ts.length (tokCells ts)
  | .error k => ∃ N te pe, e = .returned (.tuple #[.slice none 0 0, .iface 107 (.pointer (some ⟨N, 0, none⟩))]) ∧ w.heap.size ≤ N ∧ w.cell? ⟨2, 0, none⟩ = some (.iface te pe) ∧
      w'.heap[N]? = some (.cells #[.int .i64 (k : Int), .iface te pe] 109 (0, 0))

/-- The lexer as Lex makes it. -/
def lexStart (w : World) (s : ByteArray) : World :=
  (((w.alloc (.cells #[.slice none 0 0] 42)).alloc (.cells #[.nilIface] 27)).alloc (.cells #[.int .i64 0] 3)).alloc
    (.cells #[.string s, .int .i64 0, .slice none 0 0, .slice (some ⟨w.heap.size + 1 + 1, 0, none⟩) 1 1] 112)
theorem lexStart_facts (w : World) (s : ByteArray) :
    LexC (lexStart w s) (w.heap.size + 1 + 1 + 1) s 0 (.slice none 0 0) (.slice (some ⟨w.heap.size + 1 + 1, 0, none⟩) 1 1) [] [0] ∧ Below w.heap.size w (lexStart w s) ∧
    (lexStart w s).heap[w.heap.size]? = some (.cells #[.slice none 0 0] 42 (0, 0)) ∧ (lexStart w s).heap[w.heap.size + 1]? = some (.cells #[.nilIface] 27 (0, 0)) := by
  have e1 : (w.alloc (.cells #[.slice none 0 0] 42)).heap.size = w.heap.size + 1 := by simp
  have e2 : ((w.alloc (.cells #[.slice none 0 0] 42)).alloc (.cells #[.nilIface] 27)).heap.size = w.heap.size + 1 + 1 := by simp
  have e3 : (((w.alloc (.cells #[.slice none 0 0] 42)).alloc (.cells #[.nilIface] 27)).alloc (.cells #[.int .i64 0] 3)).heap.size = w.heap.size + 1 + 1 + 1 := by simp
  have h4 := heap_alloc_new (((w.alloc (.cells #[.slice none 0 0] 42)).alloc (.cells #[.nilIface] 27)).alloc (.cells #[.int .i64 0] 3)) (.cells #[.string s, .int .i64 0, .slice none 0 0, .slice (some ⟨w.heap.size + 1 + 1, 0, none⟩) 1 1] 112)
  have h3 := heap_alloc_new ((w.alloc (.cells #[.slice none 0 0] 42)).alloc (.cells #[.nilIface] 27)) (.cells #[.int .i64 0] 3)
  have h2 := heap_alloc_new (w.alloc (.cells #[.slice none 0 0] 42)) (.cells #[.nilIface] 27)
  have h1 := heap_alloc_new w (.cells #[.slice none 0 0] 42)
  rw [e1] at h2; rw [e2] at h3; rw [e3] at h4
  refine ⟨⟨h4, World.ownsRow_nil _ _ _ _, ⟨by simp [intCells], .inr ⟨w.heap.size + 1 + 1, 1, #[.int .i64 0], rfl, by omega, ?_, by simp, by simp [maxLen], by simp, by simp [intCells]⟩⟩⟩, ?_, ?_, ?_⟩
  · exact (Below.heap_alloc _ _ _ (by rw [e3]; omega)).trans h3
  · exact ((((Below.refl _ _).alloc (Nat.le_refl _) _).alloc (by simp) _).alloc (by simp; omega) _).alloc (by simp; omega) _
  · exact (Below.heap_alloc _ _ _ (by rw [e3]; omega)).trans ((Below.heap_alloc _ _ _ (by rw [e2]; omega)).trans ((Below.heap_alloc _ _ _ (by rw [e1]; omega)).trans h1))
  · exact (Below.heap_alloc _ _ _ (by rw [e3]; omega)).trans ((Below.heap_alloc _ _ _ (by rw [e2]; omega)).trans h2)

theorem ownsRow_base {w : World} {B B' T sz n : Nat} {v : Value} {xs : List Value} (h : w.ownsRow B T sz v n xs) (hB : B' ≤ B) : w.ownsRow B' T sz v n xs := by
  refine ⟨h.1, ?_⟩
  rcases h.2 with h2 | ⟨g, cap, cur, rfl, h3, h4⟩
  · exact .inl h2
  · exact .inr ⟨g, cap, cur, rfl, by omega, h4⟩

theorem slice_tail (g n cap : Nat) (hn : 1 ≤ n) (hc : n ≤ cap) : ∃ (a : Option Addr) (c : Nat), ∀ w : World,
    (Instr.slice 92 (.slice (some ⟨g, 0, none⟩) n cap) (some (.int .i64 1)) none none).run Tryz.prog w = .ok (.slice a (n - 1) c) w := by
  have h1 : (1 : Int) ≤ n := by omega
  by_cases h : cap = 1
  · refine ⟨some ⟨g, 0, none⟩, cap - 1, fun w => ?_⟩
    have hn1 : n = 1 := by omega
    subst hn1; subst h
    simp [Instr.slice, Instr.sliceBounds, Instr.sliceBound, asIntOf, run_underlying Tryz.underlying92, Addr.add]
  · refine ⟨some ⟨g, 1, none⟩, cap - 1, fun w => ?_⟩
    simp [Instr.slice, Instr.sliceBounds, Instr.sliceBound, asIntOf, run_underlying Tryz.underlying92, h1, Addr.add]
    exact h

set_option maxRecDepth 100000 in
set_option maxHeartbeats 1000000 in
theorem lex_any {w : World} (s : ByteArray) (hs : s.size ≤ 6000) (hg : GlobE w.heap.size w) :
    Calls Tryz.prog 18 #[.string s] w (LexPost w s.data.toList) := by
  have hmf : ∀ (fn : Fn) (first cap : Array Value) (w : World), (Instr.makeFunc fn first cap).run Tryz.prog w = .ok (.func fn first cap) w := fun _ _ _ _ => rfl
  have hd : decide (6000 < (s.size : Int)) = false := by simp; omega
  go_enter_defers Tryz.func18, Tryz.ntmps18
  go_wp2_with fail
  obtain ⟨l0, b0, hbl, hbe⟩ := lexStart_facts w s
  have hgs : ∀ W, Below w.heap.size w W → GlobE w.heap.size W := fun W hb => hg.below hb
  obtain ⟨bl, hbl0⟩ : ∃ bl, bl = w.heap.size := ⟨_, rfl⟩
  obtain ⟨x, hx⟩ : ∃ x, x = w.heap.size + 1 + 1 + 1 := ⟨_, rfl⟩
  have hW : (((w.alloc (.cells #[.slice none 0 0] 42)).alloc (.cells #[.nilIface] 27)).alloc (.cells #[.int .i64 0] 3)).alloc
    (.cells #[.string s, .int .i64 0, .slice none 0 0, .slice (some ⟨w.heap.size + 1 + 1, 0, none⟩) 1 1] 112) = lexStart w s := rfl
  rw [hW]
  clear hW
  generalize lexStart w s = W0 at l0 b0 hbl hbe ⊢
  rw [← hx] at l0 ⊢
  go_loopw [14] (fun _ W => ∃ (i : Nat) (vo vp : Value) (ts : List Tok) (st : List Nat), LexC W x s i vo vp ts st.reverse ∧ Stp x W0 W ∧ LinesRel s.data.toList i st ts ∧ st.getLast? = some 0 ∧ ts.length + st.length ≤ 3 * i + 1 ∧ i ≤ s.size + 1) (fun _ W => s.size + 1 - placeLen W x)
  case atStart => exact ⟨0, _, _, [], [0], l0, Stp.refl _ _, LinesRel.start _, rfl, by simp, by omega⟩
  case round =>
    obtain ⟨i, vo, vp, ts, st, l1, k1, hrel, hlast, hlen, hi⟩ := hrel
    have Hrel := Lib.hid hrel; clear hrel
    have b1 : Below w.heap.size w wr := b0.trans ((k1.below l0).mono (by omega))
    have hpl := l1.placeLen
    have Hpl := Lib.hid hpl; clear hpl
    have Hx := Lib.hid hx; clear hx
    have c1 := l1.c1
    by_cases hlt : i < s.size
    · have hg1 : Glob (x - 1) wr := by
        have h1 := (hg.toGlob.below b1)
        exact h1.mono (by have := Hx.out; omega)
      rcases hl : lineL s.data.toList i st with k | ⟨ts', j, st'⟩
      · have Hbad := Lib.hid (Hrel.out.bad (by simpa using hlt) hl)
        go_wp2_with fail
        refine (line_any l1 hg1 hs hlt (by omega) hlast).mono ?_
        intro e W2 hpost
        rw [hl] at hpost
        obtain ⟨rfl, k2⟩ := hpost
        have b3 := (k1.trans k2).below l0
        have bb3 : Below w.heap.size w W2 := b0.trans (b3.mono (by have := Hx.out; omega))
        have hbl3 : W2.heap[w.heap.size]? = some (.cells #[.slice none 0 0] 42 (0, 0)) := (b3.block _ (by have := Hx.out; omega)).trans hbl
        have hbe3 : W2.heap[w.heap.size + 1]? = some (.cells #[.nilIface] 27 (0, 0)) := (b3.block _ (by have := Hx.out; omega)).trans hbe
        obtain ⟨te, pe, htx⟩ := hg.text
        have htx2 : W2.cell? ⟨2, 0, none⟩ = some (.iface te pe) := (bb3.cell (p := ⟨2, 0, none⟩) (by have := hg.hB; show 2 < w.heap.size; omega)).trans htx
        have cl := cell_of_blk (o := 0) hbl3
        have fl := frozen_of_blk (o := 0) hbl3
        have ce := cell_of_blk (o := 0) hbe3
        have fe := frozen_of_blk (o := 0) hbe3
        have hlb := lt_of_blk hbl3
        have heb := lt_of_blk hbe3
        go_wp2_with fail
        refine leaves_cons (f := 44) (args := #[.pointer (some ⟨w.heap.size, 0, none⟩), .pointer (some ⟨w.heap.size + 1, 0, none⟩)]) (by simp) (by simp [go_sem]) ?_
        refine (catch_place w.heap.size (w.heap.size + 1) k _ _ te pe [] W2 (by omega) cl ce fl fe htx2).mono ?_
        rintro e u' w'' ⟨rfl, rfl, rfl⟩
        simp [Leaves, settle, results, Tryz.results18, go_sem, cl, ce, hlb, heb]
        refine ⟨(((bb3.setCell (p := ⟨w.heap.size, 0, none⟩) (Nat.le_refl _) _).setCell (p := ⟨w.heap.size + 1, 0, none⟩) (by simp) _).alloc (by simp; omega) _), ?_⟩
        rw [Hbad.out]
        refine ⟨_, te, pe, rfl, by omega, htx, ?_⟩
        have hnew := heap_alloc_new ((W2.setCell ⟨w.heap.size, 0, none⟩ (.slice none 0 0)).setCell ⟨w.heap.size + 1, 0, none⟩ (.iface 107 (.pointer (some ⟨W2.heap.size, 0, none⟩)))) (.cells #[.int .i64 (k : Int), .iface te pe] 109)
        simpa using hnew
      · have hs1 := lineL_sum (by simp; omega) hl
        have hn1 := lineL_ne hlast hl
        have Hrel2 := Lib.hid (Hrel.out.next (by simpa using hlt) hl)
        go_wp2_with fail
        refine (line_any l1 hg1 hs hlt (by omega) hlast).mono ?_
        intro e W2 hpost
        rw [hl] at hpost
        obtain ⟨rfl, ⟨vo2, vp2, l2⟩, k2⟩ := hpost
        have k2' := k1.trans k2
        clear c1
        go_wp2_with fail
        go_roundw
        case rel => exact ⟨j, vo2, vp2, _, st', l2, k2', Hrel2.out, hn1, by simp; omega, by have := hs1.2.1; simpa using this⟩
        case measure =>
          rw [l2.placeLen, Hpl.out]
          have := hs1.2.1; simp at this; omega
    · match st, hlast, hlen, l1, Hrel with
      | t :: r, hlast, hlen, l1, Hrel =>
      have Hres := Lib.hid (Hrel.out.stop (by simpa using hlt))
      obtain ⟨g, n, cap, hvp, hn, _⟩ := l1.top
      have hcap : n ≤ cap := by
        have ho := l1.opn
        rw [hvp] at ho
        rcases ho.2 with ⟨h1, _⟩ | ⟨_, _, _, h1, _, _, h2, _⟩
        · cases h1
        · injection h1 with _ h3 h4
          rw [h3, h4]; exact h2
      obtain ⟨ad, c2, hsl⟩ := slice_tail g n cap (by omega) hcap
      have c3 := l1.c3
      rw [hvp] at c3
      have hn3 : n ≤ 30000 := by simp at hlen; omega
      obtain ⟨k, hk⟩ : ∃ k, k = n - 1 := ⟨_, rfl⟩
      rw [← hk] at hsl
      have hk3 : k ≤ 30000 := by omega
      have Hk := Lib.hid hk; have Hn := Lib.hid hn; have Hvp := Lib.hid hvp
      clear hk hn hvp
      go_wp2_with fail
      go_loopw [29] (fun v W => ∃ (m : Nat) (vo' : Value), m ≤ k ∧ v = .int .i64 (m : Int) ∧ LexC W x s i vo' vp (ts ++ List.replicate m ⟨kDedent, [], s.size⟩) (t :: r).reverse ∧ Stp x W0 W) (fun v _ => k - (intOf v).toNat)
      case atStart => exact ⟨0, vo, by omega, rfl, by simpa using l1, k1⟩
      case round =>
        obtain ⟨m, vo2, hm, rfl, l2, k2⟩ := hrel
        by_cases hmk : m < k
        · go_wp2_with fail
          refine (put_any l2 _ _ _ (by simp at hlen ⊢; unfold maxToks; omega)).mono ?_
          rintro e W3 ⟨rfl, ⟨vo3, l3⟩, k3⟩
          have l3' : LexC W3 x s i vo3 vp (ts ++ List.replicate (m + 1) ⟨kDedent, [], s.size⟩) (t :: r).reverse := by
            rw [List.replicate_succ', ← List.append_assoc]; exact l3
          have k3' := k2.trans k3
          clear l2 k2 l3 k3
          go_wp2_with fail
          go_roundw
          case rel => exact ⟨m + 1, vo3, by omega, by go_num, l3', k3'⟩
          case measure => simp [intOf]; omega
        · obtain rfl : m = k := by omega
          go_wp2_with fail
          refine (put_any l2 _ _ _ (by simp at hlen ⊢; unfold maxToks; omega)).mono ?_
          rintro e W3 ⟨rfl, ⟨vo3, l3⟩, k3⟩
          have k3' := k2.trans k3
          have b3 := k3'.below l0
          have bb3 : Below w.heap.size w W3 := b0.trans (b3.mono (by have := Hx.out; omega))
          have hbl3 : W3.heap[w.heap.size]? = some (.cells #[.slice none 0 0] 42 (0, 0)) := (b3.block _ (by have := Hx.out; omega)).trans hbl
          have hbe3 : W3.heap[w.heap.size + 1]? = some (.cells #[.nilIface] 27 (0, 0)) := (b3.block _ (by have := Hx.out; omega)).trans hbe
          clear k2 k3 k3' b3 l2
          have l3 : LexC W3 x s i vo3 vp (ts ++ List.replicate m ⟨kDedent, [], s.size⟩ ++ [⟨kEnd, [], s.size⟩]) (t :: r).reverse := l3
          obtain ⟨n3, hn3'⟩ : ∃ n3, n3 = (ts ++ List.replicate m ⟨kDedent, [], s.size⟩ ++ [⟨kEnd, [], s.size⟩] : List Tok).length := ⟨_, rfl⟩
          have hout3 := l3.out
          rw [← hn3'] at hout3
          have hpos : 0 < n3 := by rw [hn3', List.length_append]; simp
          obtain ⟨g3, cap3, hv3, _, _⟩ := hout3.form hpos
          subst hv3
          have c2 := l3.c2
          have Hn3 := Lib.hid hn3'; clear hn3' hpos
          have cl := cell_of_blk (o := 0) hbl3
          have fl := frozen_of_blk (o := 0) hbl3
          have ce := cell_of_blk (o := 0) hbe3
          have fe := frozen_of_blk (o := 0) hbe3
          go_wp2_with fail
          refine leaves_cons (f := 44) (args := #[.pointer (some ⟨w.heap.size, 0, none⟩), .pointer (some ⟨w.heap.size + 1, 0, none⟩)]) (by simp) (by simp [go_sem]) ?_
          refine (catch_idle w.heap.size (w.heap.size + 1) _).mono ?_
          rintro e u' w'' ⟨rfl, rfl, rfl⟩
          simp [Leaves, settle, results, Tryz.results18, go_sem, cl, ce]
          have hlex : lexL s.data.toList = .ok (ts ++ List.replicate m ⟨kDedent, [], s.size⟩ ++ [⟨kEnd, [], s.size⟩]) := by
            have h1 := Hres.out
            have h2 : (t :: r).length - 1 = m := by rw [Hk.out, Hn.out]; simp
            rw [h2] at h1
            simpa using h1
          have hg3 : x - 1 ≤ g3 := (hout3.lt g3 rfl).1
          have hx3 := Hx.out
          refine ⟨(bb3.setCell (p := ⟨w.heap.size, 0, none⟩) (Nat.le_refl _) _).setCell (p := ⟨w.heap.size + 1, 0, none⟩) (by simp) _, ?_⟩
          rw [hlex]
          refine ⟨_, rfl, ?_⟩
          rw [← Hn3.out]
          refine ownsRow_setCell (ownsRow_setCell (ownsRow_base hout3 (by omega)) ?_) ?_
          · simp [Value.ownBlock]; omega
          · simp [Value.ownBlock]; omega

/-- Of a text that is too long. -/
theorem lex_long {w : World} (s : ByteArray) (hs : 6000 < s.size) (hm : s.size ≤ 9223372036854775807) (te : TypeId) (pe : Value) (hb : w.cell? ⟨1, 0, none⟩ = some (.iface te pe)) :
    Calls Tryz.prog 18 #[.string s] w fun e w' => e = .returned (.tuple #[.slice none 0 0, .iface te pe]) ∧ Below w.heap.size w w' := by
  have hmf : ∀ (fn : Fn) (first cap : Array Value) (w : World), (Instr.makeFunc fn first cap).run Tryz.prog w = .ok (.func fn first cap) w := fun _ _ _ _ => rfl
  have hd : decide (6000 < (s.size : Int)) = true := by simp; omega
  have hlt : 1 < w.heap.size := World.block_lt_of_cell? w _ hb
  have e1 : (w.alloc (.cells #[.slice none 0 0] 42)).heap.size = w.heap.size + 1 := by simp
  have e2 : ((w.alloc (.cells #[.slice none 0 0] 42)).alloc (.cells #[.nilIface] 27)).heap.size = w.heap.size + 1 + 1 := by simp
  have h2 := heap_alloc_new (w.alloc (.cells #[.slice none 0 0] 42)) (.cells #[.nilIface] 27)
  have h1 := heap_alloc_new w (.cells #[.slice none 0 0] 42)
  rw [e1] at h2
  have h1' : ((w.alloc (.cells #[.slice none 0 0] 42)).alloc (.cells #[.nilIface] 27)).heap[w.heap.size]? = some (.cells #[.slice none 0 0] 42 (0, 0)) := (Below.heap_alloc _ _ _ (by rw [e1]; omega)).trans h1
  have hbl : Below w.heap.size w ((w.alloc (.cells #[.slice none 0 0] 42)).alloc (.cells #[.nilIface] 27)) := ((Below.refl _ _).alloc (Nat.le_refl _) _).alloc (by simp) _
  have hv := (hbl.cell (p := ⟨1, 0, none⟩) hlt).trans hb
  go_enter_defers Tryz.func18, Tryz.ntmps18
  go_wp2_with fail
  generalize (w.alloc (.cells #[.slice none 0 0] 42)).alloc (.cells #[.nilIface] 27) = W at h2 h1' hbl hv e2 ⊢
  have cl := cell_of_blk (o := 0) h1'
  have fl := frozen_of_blk (o := 0) h1'
  have ce := cell_of_blk (o := 0) h2
  have fe := frozen_of_blk (o := 0) h2
  clear e1 h1
  have H1 := Lib.hid h1'; have H2 := Lib.hid h2; have E2 := Lib.hid e2; have Hbl := Lib.hid hbl
  clear h1' h2 e2 hbl
  go_region
  all_goals
    go_wp2_with fail
    simp [bodyPostD, Leaves, results, Tryz.results18, go_sem, cl, ce]
    exact ((Hbl.out.setCell (p := ⟨w.heap.size, 0, none⟩) (Nat.le_refl _) _).setCell (p := ⟨w.heap.size + 1, 0, none⟩) (by simp) _).drew

end Go.Proofs.YtdoaeapahgmfoaaGreatDoor
