/- The reference's Byte: one byte as a text. The law's one. -/
import Derived.Test.YtdoaeapahgmfoaaGreatDoorX2
import Derived.IntWalk
import Derived.Deep.DeepCutAuto
namespace Go.Proofs.YtdoaeapahgmfoaaGreatDoor
open Go.RowKit

set_option maxRecDepth 100000 in
set_option maxHeartbeats 20000000 in
theorem byte_any (b : UInt8) (w : World) :
    Calls Tryz.prog 60 #[.int .i64 (b.toNat : Int)] w fun e w' => e = .returned (.string ⟨#[b]⟩) ∧ Below w.heap.size w w' := by
  have hb := b.toNat_lt
  have hw : IntKind.u8.wrap (b.toNat : Int) = (b.toNat : Int) := by rw [IntKind.wrap_u8]; omega
  have hblk := heap_alloc_new w (.cells #[.int .u8 (b.toNat : Int)] 5)
  have hown : (w.alloc (.cells #[.int .u8 (b.toNat : Int)] 5)).ownsRow w.heap.size 5 1 (.slice (some ⟨w.heap.size, 0, none⟩) 1 1) [b].length (byteCells [b]) :=
    ⟨by simp [byteCells], .inr ⟨w.heap.size, 1, #[.int .u8 (b.toNat : Int)], rfl, Nat.le_refl _, hblk, by simp, by simp [maxLen], by simp, by simp [byteCells]⟩⟩
  have kc := conv_own hown
  clear hown hblk
  have hbel : Below w.heap.size w (w.alloc (.cells #[.int .u8 (b.toNat : Int)] 5)) := (Below.refl _ _).alloc (Nat.le_refl _) _
  go_enter Tryz.func60, Tryz.ntmps60
  go_wp2_with fail
  refine bodyPost_ret (results_tmp rfl _ _ _) rfl ?_
  exact ⟨rfl, hbel⟩

theorem GlobE.mono {B B' : Nat} {w : World} (h : GlobE B w) (hB : B ≤ B') : GlobE B' w := ⟨h.toGlob.mono hB, h.text, h.bound⟩

theorem lexL_a : lexL [97] = .ok [⟨kName, [97], 0⟩, ⟨kNewline, [], 1⟩, ⟨kEnd, [], 1⟩] := by kernel_rfl

theorem tokCells_at : ∀ (ts : List Tok) (j : Nat) (hj : j < ts.length), (tokCells ts)[j * 3]? = some (.string (toBA ts[j].kind)) ∧ (tokCells ts)[j * 3 + 1]? = some (.string (toBA ts[j].text)) ∧ (tokCells ts)[j * 3 + 2]? = some (.int .i64 (ts[j].at_ : Int))
  | t :: l, 0, _ => by simp [tokCells, Tok.cells, toBA, S]
  | t :: l, j + 1, hj => by
    obtain ⟨h1, h2, h3⟩ := tokCells_at l j (by simpa using hj)
    have e : ∀ k, (tokCells (t :: l))[(j + 1) * 3 + k]? = (tokCells l)[j * 3 + k]? := by
      intro k
      show (t.cells ++ tokCells l)[(j + 1) * 3 + k]? = _
      rw [List.getElem?_append_right (by simp [Tok.cells]; omega)]
      congr 1
      simp [Tok.cells]; omega
    exact ⟨(e 0).trans h1, (e 1).trans h2, (e 2).trans h3⟩
theorem toks_row {w : World} {B : Nat} {v : Value} {ts : List Tok} (h : w.ownsRow B 104 3 v ts.length (tokCells ts)) (hn : 0 < ts.length) :
    ∃ g cap, v = .slice (some ⟨g, 0, none⟩) ts.length cap ∧ B ≤ g ∧ g < w.heap.size ∧ ∀ j (hj : j < ts.length), w.cell? ⟨g, j * 3, none⟩ = some (.string (toBA ts[j].kind)) ∧ w.cell? ⟨g, j * 3 + 1, none⟩ = some (.string (toBA ts[j].text)) ∧ w.cell? ⟨g, j * 3 + 2, none⟩ = some (.int .i64 (ts[j].at_ : Int)) := by
  rcases h.2 with ⟨_, h0⟩ | ⟨g, cap, cur, hv, hB, hg, hn', hc, hsz, htake⟩
  · omega
  refine ⟨g, cap, hv, hB, lt_of_blk hg, fun j hj => ?_⟩
  have hk : ∀ k, k < ts.length * 3 → w.cell? ⟨g, k, none⟩ = (tokCells ts)[k]? := by
    intro k hk
    rw [cell_of_blk hg]
    have h1 : (cur.toList.take (ts.length * 3))[k]? = (tokCells ts)[k]? := by rw [htake]
    rw [List.getElem?_take_of_lt hk] at h1
    rw [← h1, Array.getElem?_toList]
  obtain ⟨h1, h2, h3⟩ := tokCells_at ts j hj
  exact ⟨(hk _ (by omega)).trans h1, (hk _ (by omega)).trans h2, (hk _ (by omega)).trans h3⟩

set_option maxRecDepth 100000 in
set_option maxHeartbeats 20000000 in
theorem one_any {w : World} (hg : GlobE w.heap.size w) :
    Calls Tryz.prog 17 #[] w fun e w' => e = .returned (.bool true) ∧ Below w.heap.size w w' := by
  go_enter Tryz.func17, Tryz.ntmps17
  go_wp2_with fail
  refine (lex_any ⟨#[97]⟩ (by decide) hg).mono ?_
  rintro e w' ⟨hbel, h⟩
  rw [show (⟨#[97]⟩ : ByteArray).data.toList = [97] from rfl, lexL_a] at h
  obtain ⟨vo, rfl, hown⟩ := h
  obtain ⟨g, cap, rfl, _, _, hc⟩ := toks_row hown (by decide)
  have c0 : w'.cell? ⟨g, 0, none⟩ = some (.string ⟨#[110, 97, 109, 101]⟩) := (hc 0 (by decide)).1
  have c2 : w'.cell? ⟨g, 6, none⟩ = some (.string ⟨#[101, 110, 100]⟩) := (hc 2 (by decide)).1
  clear hown hc hg
  go_wp2_with fail
  refine bodyPost_ret (results_tmp rfl _ _ _) rfl ?_
  exact ⟨rfl, hbel⟩

/-- A byte of a quoted text. -/
def hexD (n : Nat) : UInt8 := if n < 10 then UInt8.ofNat (48 + n) else UInt8.ofNat (87 + n)
def qB (c : UInt8) : List UInt8 :=
  if c.toNat = 10 then [92, 110]
  else if c.toNat = 34 ∨ c.toNat = 92 then [92, c]
  else if c.toNat < 32 ∨ 126 < c.toNat then [92, 120, hexD (c.toNat / 16), hexD (c.toNat % 16)]
  else [c]
def qL : List UInt8 → List UInt8
  | [] => []
  | c :: r => qB c ++ qL r
def quotedL (l : List UInt8) : List UInt8 := [34] ++ qL l ++ [34]
theorem qB_len (c : UInt8) : (qB c).length ≤ 4 := by
  unfold qB; split
  · simp
  · split
    · simp
    · split <;> simp
theorem qL_len (l : List UInt8) : (qL l).length ≤ 4 * l.length := by
  induction l with
  | nil => simp [qL]
  | cons c r ih => have := qB_len c; simp only [qL, List.length_append, List.length_cons]; omega
theorem qL_snoc (l : List UInt8) (c : UInt8) : qL (l ++ [c]) = qL l ++ qB c := by
  induction l with
  | nil => simp [qL]
  | cons d r ih => simp [qL, ih]

theorem slice_hex : ∀ (q : Fin 16) (w : World), (Instr.slice 9 (.string ⟨#[48, 49, 50, 51, 52, 53, 54, 55, 56, 57, 97, 98, 99, 100, 101, 102]⟩) (some (.int .i64 (q.val : Int))) (some (.int .i64 ((q.val : Int) + 1))) none).run Tryz.prog w = .ok (.string ⟨#[hexD q.val]⟩) w
  | ⟨0, _⟩, _ => by kernel_rfl
  | ⟨1, _⟩, _ => by kernel_rfl
  | ⟨2, _⟩, _ => by kernel_rfl
  | ⟨3, _⟩, _ => by kernel_rfl
  | ⟨4, _⟩, _ => by kernel_rfl
  | ⟨5, _⟩, _ => by kernel_rfl
  | ⟨6, _⟩, _ => by kernel_rfl
  | ⟨7, _⟩, _ => by kernel_rfl
  | ⟨8, _⟩, _ => by kernel_rfl
  | ⟨9, _⟩, _ => by kernel_rfl
  | ⟨10, _⟩, _ => by kernel_rfl
  | ⟨11, _⟩, _ => by kernel_rfl
  | ⟨12, _⟩, _ => by kernel_rfl
  | ⟨13, _⟩, _ => by kernel_rfl
  | ⟨14, _⟩, _ => by kernel_rfl
  | ⟨15, _⟩, _ => by kernel_rfl
  | ⟨n + 16, h⟩, _ => absurd h (by omega)

theorem quoted_next {s : ByteArray} {k : Nat} (hlt : k < s.size) {O P : ByteArray} (h : O.data.toList = [34] ++ qL (s.data.toList.take k)) (hP : P.data.toList = O.data.toList ++ qB (s[k]'hlt)) :
    P.data.toList = [34] ++ qL (s.data.toList.take (k + 1)) := by
  have e : s.data.toList.take (k + 1) = s.data.toList.take k ++ [s[k]'hlt] := by
    rw [List.take_add_one, List.getElem?_eq_getElem (by simpa using hlt)]; rfl
  rw [hP, h, e, qL_snoc, List.append_assoc]

set_option maxRecDepth 100000 in
set_option maxHeartbeats 20000000 in
theorem quoted_any (s : ByteArray) (w : World) (hs : s.size ≤ 3000) :
    Calls Tryz.prog 61 #[.string s] w fun e w' => e = .returned (.string (toBA (quotedL s.data.toList))) ∧ Below w.heap.size w w' := by
  go_enter Tryz.func61, Tryz.ntmps61
  go_wp2_with fail
  go_loopw [4, 5] (fun o i wr => ∃ (k : Nat) (O : ByteArray), k ≤ s.size ∧ i = .int .i64 k ∧ o = .string O ∧ O.data.toList = [34] ++ qL (s.data.toList.take k) ∧ Below w.heap.size w wr) (fun _ i _ => s.size - (intOf i).toNat)
  case atStart => exact ⟨0, _, by omega, rfl, rfl, by simp [qL], Below.refl _ _⟩
  case round =>
    obtain ⟨k, O, hk, rfl, rfl, hO, hbel⟩ := hrel
    have HO := Lib.hid hO
    have hOs : O.size ≤ 12001 := by
      have h1 : O.data.toList.length = O.size := by simp
      have h2 := qL_len (s.data.toList.take k)
      rw [← h1, hO]; simp at h2 ⊢; omega
    clear hO
    by_cases hlt : k < s.size
    · have hlt' : k < s.data.toList.length := by simpa using hlt
      have hc := (s[k]'hlt).toNat_lt
      have hW : wrap64 ((s[k]'hlt).toNat : Int) = ((s[k]'hlt).toNat : Int) := by simp only [wrap64]; omega
      by_cases h10 : (s[k]'hlt).toNat = 10
      · have t1 : (((s[k]'hlt).toNat : Int) == 10) = true := by rw [h10]; rfl
        have H10 := Lib.hid h10; clear h10
        go_wp2_with fail
        refine (byte_any 92 wr).mono ?_
        rintro e w2 ⟨rfl, hb2⟩
        go_wp2_with fail
        go_round
        case rel => exact ⟨k + 1, _, by omega, by go_num, rfl, quoted_next hlt HO.out (by simp [qB, H10.out]), below_grow hbel hbel.size hb2⟩
        case measure => simp [intOf]; omega
      have t1 : (((s[k]'hlt).toNat : Int) == 10) = false := by rw [beq_eq_false_iff_ne]; omega
      by_cases hq : (s[k]'hlt).toNat = 34 ∨ (s[k]'hlt).toNat = 92
      · have hqb : qB (s[k]'hlt) = [92, s[k]'hlt] := by unfold qB; rw [if_neg h10, if_pos hq]
        have Hqb := Lib.hid hqb; clear hqb h10
        rcases hq with hq | hq
        · have t2 : (((s[k]'hlt).toNat : Int) == 34) = true := by rw [hq]; rfl
          clear hq
          go_wp2_with fail
          refine (byte_any 92 wr).mono ?_
          rintro e w2 ⟨rfl, hb2⟩
          go_wp2_with fail
          refine (byte_any (s[k]'hlt) w2).mono ?_
          rintro e w3 ⟨rfl, hb3⟩
          go_wp2_with fail
          go_round
          case rel => exact ⟨k + 1, _, by omega, by go_num, rfl, quoted_next hlt HO.out (by simp [Hqb.out]), below_grow (below_grow hbel hbel.size hb2) (by have := hbel.size; have := hb2.size; omega) hb3⟩
          case measure => simp [intOf]; omega
        · have t2 : (((s[k]'hlt).toNat : Int) == 34) = false := by rw [hq]; rfl
          have t3 : (((s[k]'hlt).toNat : Int) == 92) = true := by rw [hq]; rfl
          clear hq
          go_wp2_with fail
          refine (byte_any 92 wr).mono ?_
          rintro e w2 ⟨rfl, hb2⟩
          go_wp2_with fail
          refine (byte_any (s[k]'hlt) w2).mono ?_
          rintro e w3 ⟨rfl, hb3⟩
          go_wp2_with fail
          go_round
          case rel => exact ⟨k + 1, _, by omega, by go_num, rfl, quoted_next hlt HO.out (by simp [Hqb.out]), below_grow (below_grow hbel hbel.size hb2) (by have := hbel.size; have := hb2.size; omega) hb3⟩
          case measure => simp [intOf]; omega
      have t2 : (((s[k]'hlt).toNat : Int) == 34) = false := by rw [beq_eq_false_iff_ne]; omega
      have t3 : (((s[k]'hlt).toNat : Int) == 92) = false := by rw [beq_eq_false_iff_ne]; omega
      by_cases hx : (s[k]'hlt).toNat < 32 ∨ 126 < (s[k]'hlt).toNat
      · have hqb : qB (s[k]'hlt) = [92, 120, hexD ((s[k]'hlt).toNat / 16), hexD ((s[k]'hlt).toNat % 16)] := by unfold qB; rw [if_neg h10, if_neg hq, if_pos hx]
        have Hqb := Lib.hid hqb; clear hqb h10 hq
        have t4 : decide (((s[k]'hlt).toNat : Int) < 32) = true ∨ (decide (((s[k]'hlt).toNat : Int) < 32) = false ∧ decide (126 < ((s[k]'hlt).toNat : Int)) = true) := by
          by_cases h : (s[k]'hlt).toNat < 32
          · exact .inl (by simp; omega)
          · exact .inr ⟨by simp; omega, by simp; omega⟩
        clear hx
        have hs1 : ∀ w : World, (Instr.slice 9 (.string ⟨#[48, 49, 50, 51, 52, 53, 54, 55, 56, 57, 97, 98, 99, 100, 101, 102]⟩) (some (.int .i64 (((s[k]'hlt).toNat : Int) / 16))) (some (.int .i64 (((s[k]'hlt).toNat : Int) / 16 + 1))) none).run Tryz.prog w = .ok (.string ⟨#[hexD ((s[k]'hlt).toNat / 16)]⟩) w := by
          have := slice_hex ⟨(s[k]'hlt).toNat / 16, by omega⟩
          simpa using this
        have htm : ((s[k]'hlt).toNat : Int).tmod 16 = (((s[k]'hlt).toNat % 16 : Nat) : Int) := by rw [Int.tmod_eq_emod_of_nonneg (by omega)]; simp
        have hs2 : ∀ w : World, (Instr.slice 9 (.string ⟨#[48, 49, 50, 51, 52, 53, 54, 55, 56, 57, 97, 98, 99, 100, 101, 102]⟩) (some (.int .i64 (((s[k]'hlt).toNat : Int).tmod 16))) (some (.int .i64 (((s[k]'hlt).toNat : Int).tmod 16 + 1))) none).run Tryz.prog w = .ok (.string ⟨#[hexD ((s[k]'hlt).toNat % 16)]⟩) w := by
          rw [htm]
          exact slice_hex ⟨(s[k]'hlt).toNat % 16, by omega⟩
        have hw3 : IntKind.i64.wrap (((s[k]'hlt).toNat : Int).tmod 16) = ((s[k]'hlt).toNat : Int).tmod 16 := by rw [htm, IntKind.wrap_i64]; omega
        have hw4 : IntKind.i64.wrap (((s[k]'hlt).toNat : Int).tmod 16 + 1) = ((s[k]'hlt).toNat : Int).tmod 16 + 1 := by rw [htm, IntKind.wrap_i64]; omega
        clear htm
        have hw1 : IntKind.i64.wrap (((s[k]'hlt).toNat : Int) / 16) = ((s[k]'hlt).toNat : Int) / 16 := by rw [IntKind.wrap_i64]; omega
        have hw2 : IntKind.i64.wrap (((s[k]'hlt).toNat : Int) / 16 + 1) = ((s[k]'hlt).toNat : Int) / 16 + 1 := by rw [IntKind.wrap_i64]; omega
        rcases t4 with t4 | ⟨t4, t5⟩
        · go_upto_region 13 with fail
          go_region_with (go_at_call 60; refine (byte_any 92 _).mono ?_; rintro e w2 ⟨rfl, hb2⟩)
          all_goals
            go_wp2_with fail
            go_round
            case rel => exact ⟨k + 1, _, by omega, by go_num, rfl, quoted_next hlt HO.out (by simp [Hqb.out]), below_grow hbel.drew hbel.size hb2⟩
            case measure => simp [intOf]; omega
        · go_upto_region 13 with fail
          go_region_with (go_at_call 60; refine (byte_any 92 _).mono ?_; rintro e w2 ⟨rfl, hb2⟩)
          all_goals
            go_wp2_with fail
            go_round
            case rel => exact ⟨k + 1, _, by omega, by go_num, rfl, quoted_next hlt HO.out (by simp [Hqb.out]), below_grow hbel.drew hbel.size hb2⟩
            case measure => simp [intOf]; omega
      · have hqb : qB (s[k]'hlt) = [s[k]'hlt] := by unfold qB; rw [if_neg h10, if_neg hq, if_neg hx]
        have Hqb := Lib.hid hqb; clear hqb h10 hq
        have t4 : decide (((s[k]'hlt).toNat : Int) < 32) = false := by simp; omega
        have t5 : decide (126 < ((s[k]'hlt).toNat : Int)) = false := by simp; omega
        clear hx
        go_wp2_with fail
        refine (byte_any (s[k]'hlt) wr).mono ?_
        rintro e w2 ⟨rfl, hb2⟩
        go_wp2_with fail
        go_round
        case rel => exact ⟨k + 1, _, by omega, by go_num, rfl, quoted_next hlt HO.out (by simp [Hqb.out]), below_grow hbel hbel.size hb2⟩
        case measure => simp [intOf]; omega
    · have e : k = s.size := by omega
      subst e
      go_wp2_with fail
      have hall : (s.data.toList.take s.size) = s.data.toList := List.take_of_length_le (by simp)
      refine bodyPost_ret (results_tmp rfl _ _ _) rfl ?_
      refine ⟨?_, hbel⟩
      have hO := HO.out
      rw [hall] at hO
      have hP : (O ++ (⟨#[34]⟩ : ByteArray)).data.toList = quotedL s.data.toList := by simp [hO, quotedL]
      show Ending.returned (.string (O ++ (⟨#[34]⟩ : ByteArray))) = _
      rw [← hP, toBA_of]

end Go.Proofs.YtdoaeapahgmfoaaGreatDoor
