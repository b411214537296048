/- strings.Builder's WriteString, laid; lex.Quote: a text as a str. -/
import Derived.Test.YtdoaeapahgmfoaaGreatDoorQ1
import Derived.Lib.AppendStr
import Derived.Deep.AppendLies
namespace Go.Proofs.YtdoaeapahgmfoaaGreatDoor
open Go.RowKit

theorem writeString_any (B b : Nat) (bs : List Value) (s : ByteArray) (w : World) (h : Lib.IsBuilderF 77 5 B b bs w) (hlen : bs.length + s.size ≤ 140737488355328) (hBw : B ≤ w.heap.size) :
    Calls Tryz.prog 57 #[.pointer (some ⟨b, 0, none⟩), .string s] w fun e w' => e = .returned (.tuple #[.int .i64 s.size, .nilIface]) ∧ (Lib.BuilderAtF 77 5 B b (.pointer (some ⟨b, 0, none⟩)) (bs ++ Lib.strCells s) w' ∧ Below B w w') :=
  Any.Builder_WriteString_f { Tryz.lays105 with } Tryz.Builder_Extra_105 B b bs s w h hlen hBw

theorem index_hex : ∀ (q : Fin 16) (w : World), (Instr.index 9 (.string ⟨#[48, 49, 50, 51, 52, 53, 54, 55, 56, 57, 97, 98, 99, 100, 101, 102]⟩) (.int .u8 (q.val : Int))).run Tryz.prog w = .ok (.int .u8 ((hexD q.val).toNat : Int)) w
  | ⟨0, _⟩, _ => by kernel_rfl
  | ⟨1, _⟩, _ => by kernel_rfl
  | ⟨2, _⟩, _ => by kernel_rfl
  | ⟨3, _⟩, _ => by kernel_rfl
  | ⟨4, _⟩, _ => by kernel_rfl
  | ⟨5, _⟩, _ => by kernel_rfl
  | ⟨6, _⟩, _ => by kernel_rfl
  | ⟨7, _⟩, _ => by kernel_rfl
  | ⟨8, _⟩, _ => by kernel_rfl
  | ⟨9, _⟩, _ => by kernel_rfl
  | ⟨10, _⟩, _ => by kernel_rfl
  | ⟨11, _⟩, _ => by kernel_rfl
  | ⟨12, _⟩, _ => by kernel_rfl
  | ⟨13, _⟩, _ => by kernel_rfl
  | ⟨14, _⟩, _ => by kernel_rfl
  | ⟨15, _⟩, _ => by kernel_rfl
  | ⟨n + 16, h⟩, _ => absurd h (by omega)

theorem and15 : ∀ n : Fin 256, bits BinOp.and IntKind.u8 (n.val : Int) 15 = ((n.val % 16 : Nat) : Int) := by decide +kernel

/-- The bytes so far. -/
def qSo (s : ByteArray) (k : Nat) : List UInt8 := [34] ++ qL (s.data.toList.take k)
theorem qSo_next {s : ByteArray} {k : Nat} (hlt : k < s.size) : qSo s (k + 1) = qSo s k ++ qB (s[k]'hlt) := by
  have hl : k < s.data.toList.length := by simpa using hlt
  unfold qSo
  rw [List.take_succ_eq_append_getElem hl, qL_snoc, List.append_assoc]
  rfl
theorem qSo_len (s : ByteArray) (k : Nat) : (qSo s k).length ≤ 1 + 4 * k := by
  have := qL_len (s.data.toList.take k)
  simp only [qSo, List.length_append, List.length_cons, List.length_nil, List.length_take] at *
  omega
theorem own_app {B : Nat} {v : Value} {acc l : List UInt8} {w : World} {n : Nat} {xs : List Value} (hx : xs = byteCells l) (hn : n = acc.length + l.length) (h : w.ownsRow B 5 1 v n (byteCells acc ++ xs)) :
    w.ownsRow B 5 1 v (acc ++ l).length (byteCells (acc ++ l)) := by
  subst hx; subst hn
  simpa [byteCells] using h
theorem below_app0 {B : Nat} {w wr w1 : World} {T sz n : Nat} {v : Value} {xs : List Value} (hbel : Below B w wr) (hown : wr.ownsRow B T sz v n xs) (hg : wr.grownBy w1 v.ownBlock) (hB : B ≤ wr.heap.size) : Below B w w1 :=
  hbel.grown hg (by omega) (fun k hk => (hown.lt k hk).1)

set_option maxRecDepth 100000 in
set_option maxHeartbeats 20000000 in
theorem quote_any (s : ByteArray) (w : World) (hs : s.size ≤ 6000) :
    Calls Tryz.prog 98 #[.string s] w fun e w' => e = .returned (.string (toBA (quotedL s.data.toList))) ∧ Below w.heap.size w w' := by
  obtain ⟨i0, hi, hz0, hz1, hz2⟩ := info_parts Tryz.infoByte
  have hsl : s.size ≤ 6000 := hs
  go_enter Tryz.func98, Tryz.ntmps98
  go_wp2_with fail
  have hown0 : (w.alloc (.cells #[.int .u8 34] 5)).ownsRow w.heap.size 5 1 (.slice (some ⟨w.heap.size, 0, none⟩) 1 1) (qSo s 0).length (byteCells (qSo s 0)) :=
    ⟨by simp [qSo, qL, byteCells], .inr ⟨w.heap.size, 1, #[.int .u8 34], rfl, Nat.le_refl _, heap_alloc_new _ _, by simp [qSo, qL], by simp [maxLen], by simp, by simp [qSo, qL, byteCells]⟩⟩
  go_loopw [3, 9] (fun v i wr => ∃ k : Nat, k ≤ s.size ∧ i = .int .i64 k ∧ wr.ownsRow w.heap.size 5 1 v (qSo s k).length (byteCells (qSo s k)) ∧ Below w.heap.size w wr) (fun _ i _ => s.size - (intOf i).toNat)
  case atStart => exact ⟨0, by omega, rfl, hown0, (Below.refl _ _).alloc (Nat.le_refl _) _⟩
  case round =>
    obtain ⟨k, hk, rfl, hown, hbel⟩ := hrel
    clear hown0
    have hql := qSo_len s k
    have hBw := hbel.size
    by_cases hlt : k < s.size
    · have t1 : decide ((k : Int) < (s.size : Int)) = true := by simp; omega
      have hnext := qSo_next hlt
      obtain ⟨c, hc⟩ : ∃ c, c = s[k]'hlt := ⟨_, rfl⟩
      rw [← hc] at hnext
      have hc256 := c.toNat_lt
      unfold qB at hnext
      by_cases h10 : c.toNat = 10
      · rw [if_pos h10] at hnext
        have u1 : (((s[k]'hlt).toNat : Int) == 10) = true := by rw [← hc, h10]; rfl
        have Hn := Lib.hid hnext; clear hnext h10 hc hc256
        go_wp2_with (at_builtin; refine Lib.wpList_append_own_string (w := wr) rfl (.tmp 22) (.const (.string ⟨#[92, 110]⟩)) 75 9 rfl w.heap.size 5 i0 Tryz.underlying75 Tryz.underlying9 hi hz0 hz1 hz2 _ (qSo s k).length (byteCells (qSo s k)) rfl hown ⟨#[92, 110]⟩ rfl (by unfold maxLen; show (qSo s k).length + 2 ≤ _; omega) (by show (qSo s k).length + 2 ≤ _; omega) hBw ?_; intro v' w1 hown1 hgrow1 _)
        go_roundw
        case rel => exact ⟨k + 1, by omega, by go_num, by rw [Hn.out]; exact own_app (l := [92, 110]) (by rfl) (by rfl) hown1, below_app0 hbel hown hgrow1 hBw⟩
        case measure => simp [intOf]; omega
      · rw [if_neg h10] at hnext
        have u1 : (((s[k]'hlt).toNat : Int) == 10) = false := by rw [beq_eq_false_iff_ne, ← hc]; omega
        by_cases hq : c.toNat = 34 ∨ c.toNat = 92
        · rw [if_pos hq] at hnext
          have Hn := Lib.hid hnext; clear hnext h10
          have Hc := Lib.hid hc
          rcases hq with hq | hq
          · have u2 : (((s[k]'hlt).toNat : Int) == 34) = true := by rw [← hc, hq]; rfl
            clear hc hq hc256
            go_wp2_with (at_builtin; refine wpList_append_own (wr.alloc (.cells #[.int .u8 92, .int .u8 ((s[k]'hlt).toNat : Int)] 5)) rfl (.tmp 31) (.tmp 33) 75 rfl w.heap.size 5 i0 _ 1 1 Tryz.underlying75 hi hz0 hz1 hz2 rfl (by decide) _ (qSo s k).length (byteCells (qSo s k)) rfl (hown.alloc _) ⟨wr.heap.size, 0, none⟩ 2 2 [.int .u8 92, .int .u8 ((s[k]'hlt).toNat : Int)] rfl rfl (World.news_of_block (cs := #[.int .u8 92, .int .u8 ((s[k]'hlt).toNat : Int)]) (heap_alloc_new wr _)) (by simp [Value.oneCell']) (by unfold maxLen; omega) (by omega) (by simp; omega) ?_; intro v' w1 hown1 hgrow1 _)
            go_roundw
            case rel => exact ⟨k + 1, by omega, by go_num, by rw [Hn.out]; exact own_app (l := [92, c]) (by rw [Hc.out]; rfl) (by rfl) hown1, below_app hbel hown hgrow1 hBw⟩
            case measure => simp [intOf]; omega
          · have u2 : (((s[k]'hlt).toNat : Int) == 34) = false := by rw [beq_eq_false_iff_ne, ← hc]; omega
            have u3 : (((s[k]'hlt).toNat : Int) == 92) = true := by rw [← hc, hq]; rfl
            clear hc hq hc256
            go_wp2_with (at_builtin; refine wpList_append_own (wr.alloc (.cells #[.int .u8 92, .int .u8 ((s[k]'hlt).toNat : Int)] 5)) rfl (.tmp 31) (.tmp 33) 75 rfl w.heap.size 5 i0 _ 1 1 Tryz.underlying75 hi hz0 hz1 hz2 rfl (by decide) _ (qSo s k).length (byteCells (qSo s k)) rfl (hown.alloc _) ⟨wr.heap.size, 0, none⟩ 2 2 [.int .u8 92, .int .u8 ((s[k]'hlt).toNat : Int)] rfl rfl (World.news_of_block (cs := #[.int .u8 92, .int .u8 ((s[k]'hlt).toNat : Int)]) (heap_alloc_new wr _)) (by simp [Value.oneCell']) (by unfold maxLen; omega) (by omega) (by simp; omega) ?_; intro v' w1 hown1 hgrow1 _)
            go_roundw
            case rel => exact ⟨k + 1, by omega, by go_num, by rw [Hn.out]; exact own_app (l := [92, c]) (by rw [Hc.out]; rfl) (by rfl) hown1, below_app hbel hown hgrow1 hBw⟩
            case measure => simp [intOf]; omega
        · rw [if_neg hq] at hnext
          have u2 : (((s[k]'hlt).toNat : Int) == 34) = false := by rw [beq_eq_false_iff_ne, ← hc]; omega
          have u3 : (((s[k]'hlt).toNat : Int) == 92) = false := by rw [beq_eq_false_iff_ne, ← hc]; omega
          by_cases hr : c.toNat < 32 ∨ 126 < c.toNat
          · rw [if_pos hr] at hnext
            have Hn := Lib.hid hnext; clear hnext h10 hq
            have Hc := Lib.hid hc
            rcases hr with hr | hr
            · have u4 : decide (((s[k]'hlt).toNat : Int) < 32) = true := by rw [← hc]; simp; omega
              obtain ⟨q1, hq1⟩ : ∃ q1, q1 = c.toNat / 16 := ⟨_, rfl⟩
              obtain ⟨q2, hq2⟩ : ∃ q2, q2 = c.toNat % 16 := ⟨_, rfl⟩
              have hx1 : ∀ w : World, (Instr.index 9 (.string ⟨#[48, 49, 50, 51, 52, 53, 54, 55, 56, 57, 97, 98, 99, 100, 101, 102]⟩) (.int .u8 (((s[k]'hlt).toNat : Int) / 16))).run Tryz.prog w = .ok (.int .u8 ((hexD q1).toNat : Int)) w := by
                intro w
                have h := index_hex ⟨q1, by omega⟩ w
                rw [← hc, show (c.toNat : Int) / 16 = (q1 : Int) by omega]
                exact h
              have hx2 : ∀ w : World, (Instr.index 9 (.string ⟨#[48, 49, 50, 51, 52, 53, 54, 55, 56, 57, 97, 98, 99, 100, 101, 102]⟩) (.int .u8 (q2 : Int))).run Tryz.prog w = .ok (.int .u8 ((hexD q2).toNat : Int)) w := fun w => index_hex ⟨q2, by omega⟩ w
              have hand : bits BinOp.and IntKind.u8 ((s[k]'hlt).toNat : Int) 15 = (q2 : Int) := by rw [← hc, hq2]; exact and15 ⟨c.toNat, hc256⟩
              have Hn2 := Lib.hid (show qSo s (k + 1) = qSo s k ++ [92, 120, hexD q1, hexD q2] by rw [Hn.out, hq1, hq2])
              clear hq1 hq2 hc hr hc256
              go_upto_region 12 with fail
              go_region_law ((refine step_append_lies _ (by rfl) _ _ _ (by rfl) w.heap.size 5 i0 _ 1 1 Tryz.underlying75 hi hz0 hz1 hz2 rfl (by decide) _ (qSo s k).length (byteCells (qSo s k)) (by rfl) (hown.drew.alloc _) ⟨wr.heap.size, 0, none⟩ 4 4 [.int .u8 92, .int .u8 120, .int .u8 ((hexD q1).toNat : Int), .int .u8 ((hexD q2).toNat : Int)] (by rfl) (by rfl) (World.news_of_block (cs := #[.int .u8 92, .int .u8 120, .int .u8 ((hexD q1).toNat : Int), .int .u8 ((hexD q2).toNat : Int)]) (t := 5) (fr := (0, 0)) (heap_alloc_new wr.drew _)) (by simp [Value.oneCell']) (by omega) (by unfold maxLen; omega) (by omega) (by simp; omega) (wr.heap.size + 1) (by simp) ?_; intro gg cap1 w1 hown1 hgrow1 hat hlt1))
              all_goals
                (go_wp2_with fail
                 go_roundw
                 case rel => exact ⟨k + 1, by omega, by go_num, by rw [Hn2.out]; exact own_app (l := [92, 120, hexD q1, hexD q2]) (by rfl) (by rfl) hown1, below_app hbel.drew hown.drew hgrow1 hBw⟩
                 case measure => simp [intOf]; omega)
            · have u4 : decide (((s[k]'hlt).toNat : Int) < 32) = false := by rw [← hc]; simp; omega
              have u5 : decide ((126 : Int) < ((s[k]'hlt).toNat : Int)) = true := by rw [← hc]; simp; omega
              obtain ⟨q1, hq1⟩ : ∃ q1, q1 = c.toNat / 16 := ⟨_, rfl⟩
              obtain ⟨q2, hq2⟩ : ∃ q2, q2 = c.toNat % 16 := ⟨_, rfl⟩
              have hx1 : ∀ w : World, (Instr.index 9 (.string ⟨#[48, 49, 50, 51, 52, 53, 54, 55, 56, 57, 97, 98, 99, 100, 101, 102]⟩) (.int .u8 (((s[k]'hlt).toNat : Int) / 16))).run Tryz.prog w = .ok (.int .u8 ((hexD q1).toNat : Int)) w := by
                intro w
                have h := index_hex ⟨q1, by omega⟩ w
                rw [← hc, show (c.toNat : Int) / 16 = (q1 : Int) by omega]
                exact h
              have hx2 : ∀ w : World, (Instr.index 9 (.string ⟨#[48, 49, 50, 51, 52, 53, 54, 55, 56, 57, 97, 98, 99, 100, 101, 102]⟩) (.int .u8 (q2 : Int))).run Tryz.prog w = .ok (.int .u8 ((hexD q2).toNat : Int)) w := fun w => index_hex ⟨q2, by omega⟩ w
              have hand : bits BinOp.and IntKind.u8 ((s[k]'hlt).toNat : Int) 15 = (q2 : Int) := by rw [← hc, hq2]; exact and15 ⟨c.toNat, hc256⟩
              have Hn2 := Lib.hid (show qSo s (k + 1) = qSo s k ++ [92, 120, hexD q1, hexD q2] by rw [Hn.out, hq1, hq2])
              clear hq1 hq2 hc hr hc256
              go_upto_region 12 with fail
              go_region_law ((refine step_append_lies _ (by rfl) _ _ _ (by rfl) w.heap.size 5 i0 _ 1 1 Tryz.underlying75 hi hz0 hz1 hz2 rfl (by decide) _ (qSo s k).length (byteCells (qSo s k)) (by rfl) (hown.drew.alloc _) ⟨wr.heap.size, 0, none⟩ 4 4 [.int .u8 92, .int .u8 120, .int .u8 ((hexD q1).toNat : Int), .int .u8 ((hexD q2).toNat : Int)] (by rfl) (by rfl) (World.news_of_block (cs := #[.int .u8 92, .int .u8 120, .int .u8 ((hexD q1).toNat : Int), .int .u8 ((hexD q2).toNat : Int)]) (t := 5) (fr := (0, 0)) (heap_alloc_new wr.drew _)) (by simp [Value.oneCell']) (by omega) (by unfold maxLen; omega) (by omega) (by simp; omega) (wr.heap.size + 1) (by simp) ?_; intro gg cap1 w1 hown1 hgrow1 hat hlt1))
              all_goals
                (go_wp2_with fail
                 go_roundw
                 case rel => exact ⟨k + 1, by omega, by go_num, by rw [Hn2.out]; exact own_app (l := [92, 120, hexD q1, hexD q2]) (by rfl) (by rfl) hown1, below_app hbel.drew hown.drew hgrow1 hBw⟩
                 case measure => simp [intOf]; omega)
          · rw [if_neg hr] at hnext
            have Hn := Lib.hid hnext; clear hnext h10 hq
            have u4 : decide (((s[k]'hlt).toNat : Int) < 32) = false := by rw [← hc]; simp; omega
            have u5 : decide ((126 : Int) < ((s[k]'hlt).toNat : Int)) = false := by rw [← hc]; simp; omega
            have Hc := Lib.hid hc; clear hr hc hc256
            go_wp2_with (at_builtin; refine wpList_append_own (wr.alloc (.cells #[.int .u8 ((s[k]'hlt).toNat : Int)] 5)) rfl (.tmp 15) (.tmp 17) 75 rfl w.heap.size 5 i0 _ 1 1 Tryz.underlying75 hi hz0 hz1 hz2 rfl (by decide) _ (qSo s k).length (byteCells (qSo s k)) rfl (hown.alloc _) ⟨wr.heap.size, 0, none⟩ 1 1 [.int .u8 ((s[k]'hlt).toNat : Int)] rfl rfl (World.news_of_block (cs := #[.int .u8 ((s[k]'hlt).toNat : Int)]) (heap_alloc_new wr _)) (by simp [Value.oneCell']) (by unfold maxLen; omega) (by omega) (by simp; omega) ?_; intro v' w1 hown1 hgrow1 _)
            go_roundw
            case rel => exact ⟨k + 1, by omega, by go_num, by rw [Hn.out]; exact own_app (l := [c]) (by rw [Hc.out]; rfl) (by rfl) hown1, below_app hbel hown hgrow1 hBw⟩
            case measure => simp [intOf]; omega
    · have hke : k = s.size := by omega
      subst hke
      have t1 : decide ((s.size : Int) < (s.size : Int)) = false := by simp
      have hfin : qSo s s.size ++ [34] = quotedL s.data.toList := by
        unfold qSo quotedL
        rw [List.take_of_length_le (by simp)]
      go_wp2_with (at_builtin; refine wpList_append_own (wr.alloc (.cells #[.int .u8 34] 5)) rfl (.tmp 52) (.tmp 53) 75 rfl w.heap.size 5 i0 _ 1 1 Tryz.underlying75 hi hz0 hz1 hz2 rfl (by decide) _ (qSo s s.size).length (byteCells (qSo s s.size)) rfl (hown.alloc _) ⟨wr.heap.size, 0, none⟩ 1 1 [.int .u8 34] rfl rfl (World.news_of_block (cs := #[.int .u8 34]) (heap_alloc_new wr _)) (by simp [Value.oneCell']) (by unfold maxLen; omega) (by omega) (by simp; omega) ?_; intro v' w1 hown1 hgrow1 _; have hown2 := own_app (l := [34]) (by rfl) (by rfl) hown1; have hcv := conv_own hown2)
      refine bodyPost_ret (results_tmp rfl _ _ _) rfl ?_
      exact ⟨rfl, below_app hbel hown hgrow1 hBw⟩
end Go.Proofs.YtdoaeapahgmfoaaGreatDoor
