/- The document's LexOf: what it computes is what the program's Lex computes. -/
import Derived.Test.YtdoaeapahgmfoaaGreatDoorS8
import Derived.Deep.CutBlock
namespace Go.Proofs.YtdoaeapahgmfoaaGreatDoor
open Go.RowKit

def sliceLen : Value → Nat
  | .slice _ n _ => n
  | _ => 0
/-- What LexOf answers. -/
def RLexPost (w : World) (l : List UInt8) (e : Ending) (w' : World) : Prop := Below w.heap.size w w' ∧ match lexL l with
  | .ok ts => ∃ vo, e = .returned (.tuple #[vo, .agg #[.int .i64 0, .int .i64 (-1)]]) ∧ w'.ownsRow w.heap.size 115 3 vo ts.length (tokCells ts)
  | .error k => e = .returned (.tuple #[.slice none 0 0, .agg #[.int .i64 1, .int .i64 (k : Int)]])

theorem span_stop (p : UInt8 → Bool) (l : List UInt8) (i : Nat) (h : spanL p l i < l.length) : p (l[spanL p l i]'h) = false := by
  have hd := drop_spanL p l i
  rw [List.drop_eq_getElem_cons h] at hd
  have h2 := List.head?_dropWhile_not p (l.drop i)
  rw [← hd] at h2
  exact h2
theorem fault_at {w W1 wr : World} {c : Obj} (hkz : W1.heap[w.heap.size]? = some c) (hsz : W1.heap.size = w.heap.size + 1) (hb : Below W1.heap.size W1 wr) : wr.heap[w.heap.size]? = some c :=
  (hb.block _ (by omega)).trans hkz

set_option maxRecDepth 100000 in
set_option maxHeartbeats 20000000 in
theorem rLexOf_any {w : World} (s : ByteArray) (hs : s.size ≤ 6000) :
    Calls Tryz.prog 19 #[.string s] w (RLexPost w s.data.toList) := by
  have hd : decide (6000 < (s.size : Int)) = false := by simp; omega
  have hbz : Below w.heap.size w (w.alloc (.cells #[.int .i64 0, .int .i64 0] 47)) := (Below.refl _ _).alloc (Nat.le_refl _) _
  have hkz := heap_alloc_new w (.cells #[.int .i64 0, .int .i64 0] 47)
  have hsz : (w.alloc (.cells #[.int .i64 0, .int .i64 0] 47)).heap.size = w.heap.size + 1 := by simp
  go_enter Tryz.func19, Tryz.ntmps19
  go_wp2_with fail
  generalize w.alloc (.cells #[.int .i64 0, .int .i64 0] 47) = W1 at hbz hkz hsz ⊢
  have hR0 : RSt W1 (W1.alloc (.cells #[.int .i64 0] 3)) (.slice none 0 0) (.slice (some ⟨W1.heap.size, 0, none⟩) 1 1) [] [0] := by
    refine ⟨World.ownsRow_nil _ _ _ _, ?_, fun k hk => (by cases hk), (Below.refl _ _).alloc (Nat.le_refl _) _⟩
    exact ⟨by simp [intCells], .inr ⟨W1.heap.size, 1, #[.int .i64 0], rfl, Nat.le_refl _, heap_alloc_new _ _, by simp, by simp [maxLen], by simp, by simp [intCells]⟩⟩
  have hL0 := LinesRel.start s.data.toList
  rw [hsz] at hR0
  have Hsz := Lib.hid hsz; clear hsz
  go_loopw [4, 5, 6] (fun o p a wr => ∃ (k : Nat) (ts : List Tok) (st : List Nat), k ≤ s.size + 1 ∧ a = .int .i64 k ∧ RSt W1 wr o p ts st ∧ LinesRel s.data.toList k st ts ∧ st.getLast? = some 0 ∧ ts.length + st.length ≤ 1 + 3 * k) (fun _ _ a _ => s.size + 1 - (intOf a).toNat)
  case atStart => exact ⟨0, [], [0], by omega, rfl, hR0, hL0, rfl, by simp⟩
  case round =>
    obtain ⟨k, ts, st, hk, rfl, hR, hL, hst, hlen⟩ := hrel
    clear hR0 hL0
    have HL := Lib.hid hL; have Hst := Lib.hid hst; clear hL hst
    by_cases hlt : k < s.size
    ·
      have t0 : decide ((k : Int) < (s.size : Int)) = true := by simp; omega
      go_upto_block 2 with fail
      have hkl : k ≤ s.data.toList.length := by simp; omega
      have hll : s.data.toList.length = s.size := by simp
      go_cut [7] (fun e W => e = .int .i64 (nlAt s.data.toList k : Nat) ∧ W = wr)
      case first =>
        go_wp2_with fail
        go_loop [7] (fun v => ∃ e : Nat, k ≤ e ∧ e ≤ s.size ∧ v = .int .i64 e ∧ nlAt s.data.toList e = nlAt s.data.toList k) (fun v => s.size - (intOf v).toNat)
        case atStart => exact ⟨k, by omega, by omega, rfl, rfl⟩
        case round =>
          obtain ⟨e, hke, hes, rfl, hne⟩ := hrel
          have Hne := Lib.hid hne; clear hne
          by_cases hel : e < s.size
          · have u0 : decide ((e : Int) < (s.size : Int)) = true := by simp; omega
            by_cases h10 : (s[e]'hel).toNat = 10
            · have u1 : (((s[e]'hel).toNat : Int) != 10) = false := by rw [h10]; rfl
              have hend : nlAt s.data.toList k = e := by
                rw [← Hne.out]
                exact spanL_no _ _ _ (by simpa using hel) (by unfold noNl; have e0 : s.data.toList[e]'(by simpa using hel) = s[e]'hel := rfl; rw [e0, h10]; rfl)
              have Hend := Lib.hid hend; clear hend h10
              go_wp2_with fail
              go_meet
              case rel => exact ⟨by rw [Hend.out], rfl⟩
            · have u1 : (((s[e]'hel).toNat : Int) != 10) = true := by rw [bne_iff_ne]; omega
              have hstep : nlAt s.data.toList (e + 1) = nlAt s.data.toList e := by
                refine (spanL_yes noNl _ _ (by simpa using hel) ?_).symm
                unfold noNl; have e0 : s.data.toList[e]'(by simpa using hel) = s[e]'hel := rfl
                rw [e0]; simpa using h10
              have Hstep := Lib.hid hstep; clear hstep h10
              go_wp2_with fail
              go_round
              case rel => exact ⟨e + 1, by omega, by omega, by go_num, by rw [Hstep.out, Hne.out]⟩
              case measure => simp [intOf]; omega
          · have u0 : decide ((e : Int) < (s.size : Int)) = false := by simp; omega
            have hend : nlAt s.data.toList k = e := by
              rw [← Hne.out]; exact spanL_end _ _ _ (by simp; omega)
            have Hend := Lib.hid hend; clear hend
            go_wp2_with fail
            go_meet
            case rel => exact ⟨by rw [Hend.out], rfl⟩
      case rest =>
        obtain ⟨rfl, rfl⟩ := hcut
        obtain ⟨e, he⟩ : ∃ e, e = nlAt s.data.toList k := ⟨_, rfl⟩
        rw [← he]
        have hle := nlAt_le hkl
        rw [← he, hll] at hle
        have He := Lib.hid he; clear he
        have hbn := blank_nl (l := s.data.toList) (at_ := k)
        rw [← He.out] at hbn
        go_upto_block 4 with fail
        go_cut [8] (fun i W => i = .int .i64 (spanL blankB s.data.toList k : Nat) ∧ W = wc)
        case first =>
          go_wp2_with fail
          go_loop [8] (fun v => ∃ i : Nat, k ≤ i ∧ i ≤ e ∧ v = .int .i64 i ∧ spanL blankB s.data.toList i = spanL blankB s.data.toList k) (fun v => s.size - (intOf v).toNat)
          case atStart => exact ⟨k, by omega, hle.1, rfl, rfl⟩
          case round =>
            obtain ⟨i, hki, hie, rfl, hsp⟩ := hrel
            have Hsp := Lib.hid hsp; clear hsp
            by_cases hil : i < e
            · have his : i < s.size := by omega
              have u0 : decide ((i : Int) < (e : Int)) = true := by simp; omega
              by_cases h32 : (s[i]'his).toNat = 32
              · have u1 : (((s[i]'his).toNat : Int) == 32) = true := by rw [h32]; rfl
                have hstep : spanL blankB s.data.toList i = spanL blankB s.data.toList (i + 1) := spanL_yes _ _ _ (by simpa using his) (by
                  unfold blankB; have e0 : s.data.toList[i]'(by simpa using his) = s[i]'his := rfl
                  rw [e0, h32]; rfl)
                have Hstep := Lib.hid hstep; clear hstep h32
                go_wp2_with fail
                go_round
                case rel => exact ⟨i + 1, by omega, by omega, by go_num, by rw [← Hstep.out, Hsp.out]⟩
                case measure => simp [intOf]; omega
              · have u1 : (((s[i]'his).toNat : Int) == 32) = false := by rw [beq_eq_false_iff_ne]; omega
                have hend : spanL blankB s.data.toList k = i := by
                  rw [← Hsp.out]
                  refine spanL_no _ _ _ (by simpa using his) ?_
                  unfold blankB; have e0 : s.data.toList[i]'(by simpa using his) = s[i]'his := rfl
                  rw [e0]; simpa using h32
                have Hend := Lib.hid hend; clear hend h32
                go_wp2_with fail
                go_meet
                case rel => exact ⟨by rw [Hend.out], rfl⟩
            · have u0 : decide ((i : Int) < (e : Int)) = false := by simp; omega
              have hend : spanL blankB s.data.toList k = i := by
                have h1 := spanL_le blankB s.data.toList i (by omega)
                rw [Hsp.out] at h1
                omega
              have Hend := Lib.hid hend; clear hend
              go_wp2_with fail
              go_meet
              case rel => exact ⟨by rw [Hend.out], rfl⟩
        case rest =>
          obtain ⟨rfl, rfl⟩ := hcut
          obtain ⟨i0, hi0⟩ : ∃ i0, i0 = spanL blankB s.data.toList k := ⟨_, rfl⟩
          rw [← hi0] at hbn ⊢
          have hik : k ≤ i0 := by rw [hi0]; exact (spanL_le _ _ _ hkl).1
          have Hi0 := Lib.hid hi0; clear hi0
          by_cases hnone : i0 = e ∨ ∃ h : i0 < s.size, (s[i0]'h).toNat = 35
          ·
            have hln : lineL s.data.toList k st = .ok ([], e + 1, st) := by
              have h1 := lineL_none (l := s.data.toList) (at_ := k) st hkl (by
                rw [← Hi0.out, ← He.out]
                rcases hnone with h | ⟨h, h35⟩
                · exact .inl h
                · exact .inr ⟨by simpa using h, h35⟩) (by rw [← Hi0.out, ← He.out]; exact hbn)
              rw [He.out]; exact h1
            have hL2 := HL.out.next (by omega) hln
            rw [List.append_nil] at hL2
            have HL2 := Lib.hid hL2; clear hL2 hln
            by_cases hie : i0 = e
            · have u1 : ((i0 : Int) == (e : Int)) = true := by rw [beq_iff_eq]; omega
              clear hnone
              go_wp2_with fail
              go_roundw
              case rel => exact ⟨e + 1, ts, st, by omega, by go_num, hR, HL2.out, Hst.out, by omega⟩
              case measure => simp [intOf]; omega
            · have u1 : ((i0 : Int) == (e : Int)) = false := by rw [beq_eq_false_iff_ne]; omega
              obtain ⟨h, h35⟩ : ∃ h : i0 < s.size, (s[i0]'h).toNat = 35 := by
                rcases hnone with h | h
                · exact absurd h hie
                · exact h
              have u2 : (((s[i0]'h).toNat : Int) == 35) = true := by rw [h35]; rfl
              clear hnone h35
              go_wp2_with fail
              go_roundw
              case rel => exact ⟨e + 1, ts, st, by omega, by go_num, hR, HL2.out, Hst.out, by omega⟩
              case measure => simp [intOf]; omega
          · have hie : i0 < e := by
              rcases Nat.lt_or_ge i0 e with h | h
              · exact h
              · exact absurd (.inl (by omega)) hnone
            have his : i0 < s.size := by omega
            have h35 : (s[i0]'his).toNat ≠ 35 := fun h => hnone (.inr ⟨his, h⟩)
            have hil : i0 < s.data.toList.length := by omega
            have hni : nlAt s.data.toList i0 = e := by
              rw [He.out]; exact nlAt_between _ _ k i0 (Nat.le_refl _) hik (by rw [← He.out]; exact hbn) hkl
            have hls := lineL_some (l := s.data.toList) (at_ := k) st Hi0.out hil (by rw [hni]; exact hie) h35
            have u1 : ((i0 : Int) == (e : Int)) = false := by rw [beq_eq_false_iff_ne]; omega
            have u2 : (((s[i0]'his).toNat : Int) == 35) = false := by rw [beq_eq_false_iff_ne]; omega
            obtain ⟨D, hDe⟩ : ∃ D, D = i0 - k := ⟨_, rfl⟩
            rw [← hDe] at hls
            have hDw : IntKind.i64.wrap ((i0 : Int) - (k : Int)) = (D : Int) := by
              rw [show (i0 : Int) - (k : Int) = (D : Int) by omega]; exact m_wrap D (by omega)
            rcases hst' : st with _ | ⟨t, r⟩
            · have h0 := Hst.out; rw [hst'] at h0; simp at h0
            subst hst'
            obtain ⟨g, cap, rfl, hcap, hg, hcell⟩ := hR.top
            obtain ⟨n, hn⟩ : ∃ n, n = r.length + 1 := ⟨_, rfl⟩
            rw [← hn] at hR hcap ⊢
            rw [show r.length = n - 1 by omega] at hcell
            have hw1 : IntKind.i64.wrap ((n : Int) - 1) = (n : Int) - 1 := IntWalk.i64_in _ (by simp only [List.length_cons] at hlen; omega)
            have Hls := Lib.hid hls; have Hni := Lib.hid hni; have Hnone := Lib.hid hnone; have H35 := Lib.hid h35
            have hn1 : 1 ≤ n := by omega
            have hnb : n ≤ 30000 := by simp only [List.length_cons] at hlen; omega
            have hDb : D ≤ 6000 := by omega
            have Hrn := Lib.hid hn; have HDe := Lib.hid hDe
            clear hls hni hnone h35 hn hDe
            go_upto_if 68 with fail
            go_cut [4, 5] (fun o p W => RSt W1 W o p (ts ++ (kindIs D t i0 (t :: r)).1) (kindIs D t i0 (t :: r)).2)
            case first =>
              by_cases htD : t < D
              · have hki : kindIs D t i0 (t :: r) = ([⟨kIndent, [], i0⟩], D :: t :: r) := if_pos htD
                have Hki := Lib.hid hki; clear hki
                have u3 : decide ((t : Int) < (D : Int)) = true := by simp; omega
                have hWb := hR.below.size
                have hrl : (t :: r).reverse.length ≤ 30000 := by simp only [List.length_reverse, List.length_cons]; simp only [List.length_cons] at hlen; omega
                have htl : ts.length ≤ 30000 := by simp only [List.length_cons] at hlen; omega
                obtain ⟨i1, hi1, hz0, hz1, hz2⟩ := info_parts Tryz.infoInt
                obtain ⟨i2, hi2, hy0, hy1, hy2⟩ := info_parts Tryz.infoRTok
                go_upto_region 18 with (at_builtin; refine wpList_append_lies (wc.alloc (.cells #[.int .i64 (D : Int)] 3)) rfl (.tmp 69) (.tmp 71) 92 rfl W1.heap.size 3 i1 _ 1 8 Tryz.underlying92 hi1 hz0 hz1 hz2 rfl (by decide) _ (t :: r).reverse.length (intCells (t :: r).reverse) rfl (hR.opn.alloc _) ⟨wc.heap.size, 0, none⟩ 1 1 [.int .i64 (D : Int)] rfl rfl (World.news_of_block (cs := #[.int .i64 (D : Int)]) (heap_alloc_new wc _)) (by simp [Value.oneCell']) (by decide) (by unfold maxLen; omega) (by omega) (by simp; omega) (wc.heap.size + 1) (by simp) ?_; intro g1 cap1 w3 hown1 hgrow1 hat1 hlt1)
                have R1 := hR.push D hown1 hgrow1 hat1
                have hR1s := R1.below.size
                go_wp2_with (at_builtin; refine wpList_append_lies (w3.alloc (.cells #[.string ⟨#[105, 110, 100, 101, 110, 116]⟩, .string ⟨#[]⟩, .int .i64 (i0 : Int)] 115)) rfl (.tmp 73) (.tmp 76) 45 rfl W1.heap.size 115 i2 _ 3 40 Tryz.underlying45 hi2 hy0 hy1 hy2 rfl (by decide) _ ts.length (tokCells ts) rfl (R1.out.alloc _) ⟨w3.heap.size, 0, none⟩ 1 1 [.string ⟨#[105, 110, 100, 101, 110, 116]⟩, .string ⟨#[]⟩, .int .i64 (i0 : Int)] rfl rfl (World.news_of_block (cs := #[.string ⟨#[105, 110, 100, 101, 110, 116]⟩, .string ⟨#[]⟩, .int .i64 (i0 : Int)]) (heap_alloc_new w3 _)) (by simp [Value.oneCell']) (by decide) (by unfold maxLen; omega) (by omega) (by simp; omega) (w3.heap.size + 1) (by simp) ?_; intro g2 cap2 w4 hown2 hgrow2 hat2 hlt2)
                go_meet
                case rel =>
                  have R2 := R1.put ⟨kIndent, [], i0⟩ hown2 hgrow2 hat2
                  rw [show (t :: r).reverse.length = r.length + 1 by simp] at R2
                  rw [Hki.out]
                  exact R2
              · have hki : kindIs D t i0 (t :: r) = ([], t :: r) := if_neg htD
                have Hki := Lib.hid hki; clear hki
                have u3 : decide ((t : Int) < (D : Int)) = false := by simp; omega
                go_wp2_with fail
                go_meet
                case rel => rw [Hki.out, List.append_nil]; exact hR
            case rest =>
              obtain ⟨ts1, st1, hK⟩ : ∃ ts1 st1, kindIs D t i0 (t :: r) = (ts1, st1) := ⟨_, _, rfl⟩
              rw [hK] at hcut
              have hI : indL D i0 (t :: r) = (ts1 ++ (popL D i0 st1).1, (popL D i0 st1).2) := by
                unfold kindIs at hK
                unfold indL
                by_cases htD : t < D
                · rw [if_pos htD] at hK
                  injection hK with h1 h2
                  subst h1; subst h2
                  rw [if_pos (by simpa using htD)]
                  unfold popL
                  rw [if_neg (by omega)]
                  simp
                · rw [if_neg htD] at hK
                  injection hK with h1 h2
                  subst h1; subst h2
                  rw [if_neg (by simpa using htD)]
                  simp
              have hst1 : st1.getLast? = some 0 := by
                unfold kindIs at hK
                split at hK
                · injection hK with h1 h2
                  rw [← h2]
                  have := Hst.out
                  simpa using this
                · injection hK with h1 h2
                  rw [← h2]; exact Hst.out
              have hlen1 : ts1.length + st1.length ≤ n + 2 := by
                have hrn := Hrn.out
                unfold kindIs at hK
                split at hK
                · injection hK with h1 h2
                  rw [← h1, ← h2]; simp; omega
                · injection hK with h1 h2
                  rw [← h1, ← h2]; simp; omega
              have HI := Lib.hid hI; have Hst1 := Lib.hid hst1
              clear hK hI hst1 hR hcell hg
              go_wp2_with fail
              go_loopw [4, 5] (fun o p W => ∃ (ts2 : List Tok) (st2 : List Nat), RSt W1 W o p (ts ++ ts1 ++ ts2) st2 ∧ popL D i0 st1 = (ts2 ++ (popL D i0 st2).1, (popL D i0 st2).2) ∧ st2.getLast? = some 0 ∧ ts2.length + st2.length = st1.length) (fun _ p _ => sliceLen p)
              case atStart => exact ⟨[], st1, by rw [List.append_nil]; exact hcut, rfl, Hst1.out, by simp⟩
              case round =>
                obtain ⟨ts2, st2, hR2, hP, hl2, hsum⟩ := hrel
                have HP := Lib.hid hP; have Hl2 := Lib.hid hl2; clear hP hl2 hcut
                rcases st2 with _ | ⟨t2, r2⟩
                · have h0 := Hl2.out; simp at h0
                obtain ⟨g2, cap2, rfl, hcap2, hg2, hcell2⟩ := hR2.top
                simp only [List.length_cons] at hsum hlen
                obtain ⟨n2, hn2⟩ : ∃ n2, n2 = r2.length + 1 := ⟨_, rfl⟩
                rw [show r2.length = n2 - 1 by omega] at hcell2
                have hn21 : 1 ≤ n2 := by omega
                have hn2b : n2 ≤ 30010 := by omega
                have htl2 : (ts ++ ts1 ++ ts2).length ≤ 60000 := by simp only [List.length_append]; omega
                have hw2 : IntKind.i64.wrap ((n2 : Int) - 1) = (n2 : Int) - 1 := IntWalk.i64_in _ (by omega)
                rw [← hn2] at hcap2 ⊢
                have Hn2 := Lib.hid hn2
                have Hsum := Lib.hid hsum
                by_cases hlt2 : D < t2
                ·
                  have u4 : decide ((D : Int) < (t2 : Int)) = true := by simp; omega
                  have hsl : ∀ w : World, (Instr.slice 92 (.slice (some ⟨g2, 0, none⟩) n2 cap2) none (some (.int .i64 ((n2 : Int) - 1))) none).run Tryz.prog w = .ok (.slice (some ⟨g2, 0, none⟩) (n2 - 1) cap2) w := fun w => slice_pop g2 n2 cap2 hn21 hcap2 w
                  have R3 := hR2.pop
                  have hpp : popL D i0 (t2 :: r2) = (⟨kDedent, [], i0⟩ :: (popL D i0 r2).1, (popL D i0 r2).2) := by
                    show (if D < t2 then _ else _) = _
                    rw [if_pos hlt2]
                  have hr2 : r2.getLast? = some 0 := by
                    have h0 := Hl2.out
                    rcases r2 with _ | ⟨a, b⟩
                    · simp at h0; omega
                    · simpa using h0
                  have hr2l : r2.length = n2 - 1 := by omega
                  rw [hr2l] at R3
                  have Hpp := Lib.hid hpp; have Hr2 := Lib.hid hr2
                  have hR2s := hR2.below.size
                  obtain ⟨i2, hi2, hy0, hy1, hy2⟩ := info_parts Tryz.infoRTok
                  clear hpp hr2 hR2 hn2 hsum hr2l
                  go_wp2_with (at_builtin; refine wpList_append_lies (wr.alloc (.cells #[.string ⟨#[100, 101, 100, 101, 110, 116]⟩, .string ⟨#[]⟩, .int .i64 (i0 : Int)] 115)) rfl (.tmp 91) (.tmp 94) 45 rfl W1.heap.size 115 i2 _ 3 40 Tryz.underlying45 hi2 hy0 hy1 hy2 rfl (by decide) _ (ts ++ ts1 ++ ts2).length (tokCells (ts ++ ts1 ++ ts2)) rfl (R3.out.alloc _) ⟨wr.heap.size, 0, none⟩ 1 1 [.string ⟨#[100, 101, 100, 101, 110, 116]⟩, .string ⟨#[]⟩, .int .i64 (i0 : Int)] rfl rfl (World.news_of_block (cs := #[.string ⟨#[100, 101, 100, 101, 110, 116]⟩, .string ⟨#[]⟩, .int .i64 (i0 : Int)]) (heap_alloc_new wr _)) (by simp [Value.oneCell']) (by decide) (by unfold maxLen; omega) (by omega) (by simp; omega) (wr.heap.size + 1) (by simp) ?_; intro g5 cap5 w5 hown5 hgrow5 hat5 hlt5)
                  go_roundw
                  case rel =>
                    have R4 := R3.put ⟨kDedent, [], i0⟩ hown5 hgrow5 hat5
                    refine ⟨ts2 ++ [⟨kDedent, [], i0⟩], r2, ?_, ?_, Hr2.out, ?_⟩
                    · rw [show (ts ++ ts1 ++ ts2).length + 1 = (ts ++ (ts1 ++ ts2)).length + 1 by simp [Nat.add_assoc]] at R4
                      rw [← List.append_assoc]; simpa [Nat.add_assoc] using R4
                    · rw [HP.out, Hpp.out]; simp
                    · have := Hsum.out; simp; omega
                  case measure => simp [sliceLen]; omega
                ·
                  have u4 : decide ((D : Int) < (t2 : Int)) = false := by simp; omega
                  have hpp : popL D i0 (t2 :: r2) = ([], t2 :: r2) := by
                    show (if D < t2 then _ else _) = _
                    rw [if_neg hlt2]
                  have hI2 : indL D i0 (t :: r) = (ts1 ++ ts2, t2 :: r2) := by
                    rw [HI.out, HP.out, hpp]; simp
                  have HI2 := Lib.hid hI2
                  clear hpp hI2 hn2 hsum
                  by_cases heq : D = t2
                  · have u5 : ((D : Int) != (t2 : Int)) = false := by rw [heq]; simp
                    have Heq := Lib.hid heq; clear heq
                    have hni0 : nlAt s.data.toList i0 = e := Hni.out
                    have htk0 : TokRel s.data.toList i0 (skipK s.data.toList i0) [] := by
                      by_cases h32 : (s.data.toList[i0]'hil).toNat = 32
                      · exfalso
                        have hi0 := Hi0.out
                        have h1 := span_stop blankB s.data.toList k (by omega)
                        have h2 : s.data.toList[spanL blankB s.data.toList k]'(by omega) = s.data.toList[i0]'hil := by congr 1; exact hi0.symm
                        rw [h2] at h1
                        unfold blankB at h1; rw [h32] at h1; cases h1
                      · exact rTok_start hil h32 (by exact H35.out)
                    have Htk0 := Lib.hid htk0
                    clear htk0
                    go_upto_block 8 with fail
                    go_cut [4, 8] (fun o i' W => ∃ (ts' : List Tok), toksT s.data.toList i0 = .ok (ts', e) ∧ RSt W1 W o (.slice (some ⟨g2, 0, none⟩) n2 cap2) (ts ++ ts1 ++ ts2 ++ ts') (t2 :: r2) ∧ ts'.length ≤ e - i0)
                    case first =>
                      go_wp2_with fail
                      go_loopw [4, 8] (fun o v W => ∃ (i : Nat) (ts' : List Tok), i0 ≤ i ∧ i ≤ e ∧ v = .int .i64 i ∧ RSt W1 W o (.slice (some ⟨g2, 0, none⟩) n2 cap2) (ts ++ ts1 ++ ts2 ++ ts') (t2 :: r2) ∧ TokRel s.data.toList i0 (skipK s.data.toList i) ts' ∧ ts'.length ≤ i - i0 ∧ nlAt s.data.toList i = e) (fun _ v _ => s.size - (intOf v).toNat)
                      case atStart => exact ⟨i0, [], Nat.le_refl _, by omega, rfl, by rw [List.append_nil, Hn2.out]; exact hR2, Htk0.out, by simp, Hni.out⟩
                      case round =>
                        obtain ⟨i, ts', hii, hie', rfl, hR5, hT, hlt', hne⟩ := hrel
                        have HT := Lib.hid hT; have Hne := Lib.hid hne; clear hT hne hni0 hR2
                        by_cases hie2 : i < e
                        · have hs2 : i < s.size := by omega
                          have hl2 : i < s.data.toList.length := by omega
                          have w0 : decide ((i : Int) < (e : Int)) = true := by simp; omega
                          by_cases h35 : (s[i]'hs2).toNat = 35
                          · have w1 : (((s[i]'hs2).toNat : Int) != 35) = false := by rw [h35]; rfl
                            have hst := rTok_stop (e := e) HT.out (by omega) Hne.out.symm (.inr ⟨hl2, h35⟩)
                            have Hst2 := Lib.hid hst; clear hst h35
                            go_wp2_with fail
                            go_meet
                            case rel => exact ⟨ts', Hst2.out, hR5, by omega⟩
                          · have w1 : (((s[i]'hs2).toNat : Int) != 35) = true := by rw [bne_iff_ne]; omega
                            by_cases h32 : (s[i]'hs2).toNat = 32
                            · have w2 : (((s[i]'hs2).toNat : Int) == 32) = true := by rw [h32]; rfl
                              have hbl := rTok_blank HT.out hl2 h32
                              have hne2 : nlAt s.data.toList (i + 1) = e := by rw [nlAt_step (by have := Hne.out; omega) hl2]; exact Hne.out
                              have Hbl := Lib.hid hbl; have Hne2 := Lib.hid hne2; clear hbl hne2 h32 h35
                              go_wp2_with fail
                              go_roundw
                              case rel => exact ⟨i + 1, ts', by omega, by omega, by go_num, hR5, Hbl.out, by omega, Hne2.out⟩
                              case measure => simp [intOf]; omega
                            · have w2 : (((s[i]'hs2).toNat : Int) == 32) = false := by rw [beq_eq_false_iff_ne]; omega
                              obtain ⟨tt, htt, htn, hsl⟩ := mid_facts s i (e - i) e (by omega) (by omega)
                              have Htt := Lib.hid htt; have H32 := Lib.hid h32; have H352 := Lib.hid h35
                              clear htt h32 h35
                              go_wp2_with fail
                              refine (rToken_any tt (by omega) (by omega)).mono ?_
                              rintro _ w3 ⟨⟨v, rfl, kd, tx, n3, rfl, hans⟩, hB3⟩
                              have hR6 := hR5.grow hB3
                              rw [Htt.out] at hans
                              rcases htk : tokL ((s.data.toList.drop i).take (e - i)) with _ | ⟨k3, t3, m3⟩
                              · rw [htk] at hans
                                have hn0 : n3 = 0 := hans
                                subst hn0
                                have hbad : lexL s.data.toList = .error i := by
                                  have ht := rTok_bad HT.out hl2 (by have := Hne.out; omega) H32.out H352.out (by rw [Hne.out]; exact htk)
                                  refine HL.out.bad (by omega) ?_
                                  rw [Hls.out, HI2.out, if_neg (fun h => h (by simpa using Heq.out.symm)), ht]
                                have Hbad := Lib.hid hbad
                                have hB4 := hR6.below.alloc hR6.below.size (.cells #[.string kd, .string tx, .int .i64 0] 115)
                                have hz := fault_at hkz Hsz.out hB4
                                have hb2 := hbz.trans (hB4.mono (by have := Hsz.out; omega))
                                have e0 := cell_of_blk (o := 0) hz
                                have e1 := cell_of_blk (o := 1) hz
                                have f0 := frozen_of_blk (o := 0) hz
                                have f1 := frozen_of_blk (o := 1) hz
                                clear hans htk hz hbad hR5 hR6 hkz hB4
                                go_wp2_with fail
                                refine bodyPost_ret (v := .tuple #[.slice none 0 0, .agg #[.int .i64 1, .int .i64 (i : Int)]]) ?_ rfl ⟨(hb2.setCell (p := ⟨w.heap.size, 0, none⟩) (Nat.le_refl _) _).setCell (p := ⟨w.heap.size, 1, none⟩) (Nat.le_refl _) _, by rw [Hbad.out]⟩
                                simp [results, Tryz.results19, go_sem, e0, e1]
                              · rw [htk] at hans
                                obtain ⟨rfl, rfl, rfl⟩ := hans
                                obtain ⟨hnx, hp0, hple⟩ := rTok_next HT.out hl2 (by have := Hne.out; omega) H32.out H352.out (by rw [Hne.out]; exact htk)
                                have Hnx := Lib.hid hnx; have Htk := Lib.hid htk
                                rw [Hne.out] at hple
                                have hne3 : nlAt s.data.toList (i + n3) = e := by rw [← Hne.out]; exact nlAt_between _ _ i (i + n3) (Nat.le_refl _) (by omega) (by rw [Hne.out]; exact hple) (by omega)
                                have Hne3 := Lib.hid hne3
                                clear hnx htk hne3
                                have w3' : ((n3 : Int) == 0) = false := by rw [beq_eq_false_iff_ne]; omega
                                have hR7 := hR6.grow ((Below.refl _ _).alloc (Nat.le_refl _) (.cells #[.string (toBA k3), .string (toBA t3), .int .i64 (i : Int)] 115))
                                have hl7 : (ts ++ ts1 ++ ts2 ++ ts').length ≤ 70000 := by rw [List.length_append]; omega
                                go_upto_region 31 with fail
                                have b0 : (w3.alloc (.cells #[.string (toBA k3), .string (toBA t3), .int .i64 (i : Int)] 115)).cell? ⟨w3.heap.size, 0, none⟩ = some (.string (toBA k3)) := by simp
                                have b1 : (w3.alloc (.cells #[.string (toBA k3), .string (toBA t3), .int .i64 (i : Int)] 115)).cell? ⟨w3.heap.size, 1, none⟩ = some (.string (toBA t3)) := by simp
                                have b2 : (w3.alloc (.cells #[.string (toBA k3), .string (toBA t3), .int .i64 (i : Int)] 115)).cell? ⟨w3.heap.size, 2, none⟩ = some (.int .i64 (i : Int)) := by simp
                                clear hR5 hR6 hB3
                                generalize w3.alloc (.cells #[.string (toBA k3), .string (toBA t3), .int .i64 (i : Int)] 115) = W7 at hR7 b0 b1 b2 ⊢
                                generalize w3.heap.size = N3 at b0 b1 b2 ⊢
                                have hR7s := hR7.below.size
                                obtain ⟨i2, hi2, hy0, hy1, hy2⟩ := info_parts Tryz.infoRTok
                                go_wp2_with (at_builtin; refine wpList_append_lies (W7.alloc (.cells #[.string (toBA k3), .string (toBA t3), .int .i64 (i : Int)] 115)) rfl (.tmp 135) (.tmp 137) 45 rfl W1.heap.size 115 i2 _ 3 40 Tryz.underlying45 hi2 hy0 hy1 hy2 rfl (by decide) _ (ts ++ ts1 ++ ts2 ++ ts').length (tokCells (ts ++ ts1 ++ ts2 ++ ts')) rfl (hR7.out.alloc _) ⟨W7.heap.size, 0, none⟩ 1 1 [.string (toBA k3), .string (toBA t3), .int .i64 (i : Int)] rfl rfl (World.news_of_block (cs := #[.string (toBA k3), .string (toBA t3), .int .i64 (i : Int)]) (heap_alloc_new W7 _)) (by simp [Value.oneCell']) (by decide) (by unfold maxLen; omega) (by omega) (by simp; omega) (W7.heap.size + 1) (by simp) ?_; intro g5 cap5 w5 hown5 hgrow5 hat5 hlt5)
                                go_roundw
                                case rel =>
                                  have R4 := hR7.put ⟨k3, t3, i⟩ hown5 hgrow5 hat5
                                  refine ⟨i + n3, ts' ++ [⟨k3, t3, i⟩], by omega, hple, ?_, ?_, Hnx.out, by simp; omega, Hne3.out⟩
                                  · go_num
                                  · rw [show ts.length + (ts1.length + (ts2.length + ts'.length)) + 1 = (ts ++ ts1 ++ ts2 ++ ts').length + 1 by simp only [List.length_append]; omega, ← List.append_assoc]; exact R4
                                case measure => simp [intOf]; omega
                        · have w0 : decide ((i : Int) < (e : Int)) = false := by simp; omega
                          have hst := rTok_stop (e := e) HT.out (by omega) Hne.out.symm (.inl (by omega))
                          have Hst2 := Lib.hid hst; clear hst
                          go_wp2_with fail
                          go_meet
                          case rel => exact ⟨ts', Hst2.out, hR5, by omega⟩
                    case rest =>
                      obtain ⟨ts', hT, hR6, hl6⟩ := hcut
                      have hline : lineL s.data.toList k (t :: r) = .ok ((ts1 ++ ts2) ++ ts' ++ [⟨kNewline, [], e⟩], e + 1, t2 :: r2) := by
                        rw [Hls.out, HI2.out, if_neg (fun h => h (by simpa using Heq.out.symm)), hT]
                      have hL3 := HL.out.next (by omega) hline
                      have HL3 := Lib.hid hL3; have HT3 := Lib.hid hT
                      have hl6' : (ts ++ ts1 ++ ts2 ++ ts').length ≤ 70000 := by rw [List.length_append]; omega
                      have hn2e := Hn2.out
                      clear hline hL3 hT hR2 hcell2 hg2 u5
                      obtain ⟨i2, hi2, hy0, hy1, hy2⟩ := info_parts Tryz.infoRTok
                      have hR6s := hR6.below.size
                      go_wp2_with (at_builtin; refine wpList_append_lies (wc.alloc (.cells #[.string ⟨#[110, 101, 119, 108, 105, 110, 101]⟩, .string ⟨#[]⟩, .int .i64 (e : Int)] 115)) rfl (.tmp 142) (.tmp 145) 45 rfl W1.heap.size 115 i2 _ 3 40 Tryz.underlying45 hi2 hy0 hy1 hy2 rfl (by decide) _ (ts ++ ts1 ++ ts2 ++ ts').length (tokCells (ts ++ ts1 ++ ts2 ++ ts')) rfl (hR6.out.alloc _) ⟨wc.heap.size, 0, none⟩ 1 1 [.string ⟨#[110, 101, 119, 108, 105, 110, 101]⟩, .string ⟨#[]⟩, .int .i64 (e : Int)] rfl rfl (World.news_of_block (cs := #[.string ⟨#[110, 101, 119, 108, 105, 110, 101]⟩, .string ⟨#[]⟩, .int .i64 (e : Int)]) (heap_alloc_new wc _)) (by simp [Value.oneCell']) (by decide) (by unfold maxLen; omega) (by omega) (by simp; omega) (wc.heap.size + 1) (by simp) ?_; intro g5 cap5 w5 hown5 hgrow5 hat5 hlt5)
                      go_roundw
                      case rel =>
                        have R4 := hR6.put ⟨kNewline, [], e⟩ hown5 hgrow5 hat5
                        refine ⟨e + 1, _, t2 :: r2, by omega, by go_num, ?_, HL3.out, Hl2.out, ?_⟩
                        · rw [hn2e] at R4
                          simpa [Nat.add_assoc] using R4
                        · have := Hsum.out; have := Hrn.out; simp only [List.length_append, List.length_cons, List.length_nil]; omega
                      case measure => simp [intOf]; omega
                  · have u5 : ((D : Int) != (t2 : Int)) = true := by rw [bne_iff_ne]; omega
                    have hbad : lexL s.data.toList = .error i0 := by
                      refine HL.out.bad (by omega) ?_
                      rw [Hls.out, HI2.out, if_pos (fun h => heq (by simpa using h.symm))]
                    have Hbad := Lib.hid hbad
                    have hz := fault_at hkz Hsz.out hR2.below
                    have hb2 := hbz.trans (hR2.below.mono (by have := Hsz.out; omega))
                    have e0 := cell_of_blk (o := 0) hz
                    have e1 := cell_of_blk (o := 1) hz
                    have f0 := frozen_of_blk (o := 0) hz
                    have f1 := frozen_of_blk (o := 1) hz
                    clear hz hbad hR2 hkz
                    go_wp2_with fail
                    refine bodyPost_ret (v := .tuple #[.slice none 0 0, .agg #[.int .i64 1, .int .i64 (i0 : Int)]]) ?_ rfl ⟨(hb2.setCell (p := ⟨w.heap.size, 0, none⟩) (Nat.le_refl _) _).setCell (p := ⟨w.heap.size, 1, none⟩) (Nat.le_refl _) _, by rw [Hbad.out]⟩
                    simp [results, Tryz.results19, go_sem, e0, e1]
    · have t0 : decide ((k : Int) < (s.size : Int)) = false := by simp; omega
      have hres := HL.out.stop (show s.data.toList.length ≤ k by simp; omega)
      rcases st with _ | ⟨t, r⟩
      · have h0 := Hst.out; simp at h0
      rw [show s.data.toList.length = s.size by simp] at hres
      obtain ⟨g, cap, rfl, hcap, hg, hcell⟩ := hR.top
      simp only [List.length_cons] at hlen
      rw [show (t :: r).length - 1 = r.length by simp] at hres
      have hrb : r.length ≤ 30000 := by omega
      have htb : ts.length ≤ 30000 := by omega
      have Hres := Lib.hid hres
      clear hres hcell hg
      go_wp2_with fail
      go_loopw [4, 12] (fun o v W => ∃ m : Nat, m ≤ r.length ∧ v = .int .i64 ((m + 1 : Nat) : Int) ∧ RSt W1 W o (.slice (some ⟨g, 0, none⟩) (r.length + 1) cap) (ts ++ List.replicate m ⟨kDedent, [], s.size⟩) (t :: r)) (fun _ v _ => r.length + 2 - (intOf v).toNat)
      case atStart => exact ⟨0, by omega, rfl, by simpa using hR⟩
      case round =>
        obtain ⟨m, hm, rfl, hR2⟩ := hrel
        clear hR
        obtain ⟨i2, hi2, hy0, hy1, hy2⟩ := info_parts Tryz.infoRTok
        have hR2s := hR2.below.size
        have hll : (ts ++ List.replicate m (⟨kDedent, [], s.size⟩ : Tok)).length ≤ 60000 := by simp; omega
        by_cases hmr : m < r.length
        · have u1 : decide (((m : Int) + 1) < ((r.length : Int) + 1)) = true := by simp; omega
          go_wp2_with (at_builtin; refine wpList_append_lies (wr.alloc (.cells #[.string ⟨#[100, 101, 100, 101, 110, 116]⟩, .string ⟨#[]⟩, .int .i64 (s.size : Int)] 115)) rfl (.tmp 155) (.tmp 159) 45 rfl W1.heap.size 115 i2 _ 3 40 Tryz.underlying45 hi2 hy0 hy1 hy2 rfl (by decide) _ (ts ++ List.replicate m (⟨kDedent, [], s.size⟩ : Tok)).length (tokCells (ts ++ List.replicate m (⟨kDedent, [], s.size⟩ : Tok))) rfl (hR2.out.alloc _) ⟨wr.heap.size, 0, none⟩ 1 1 [.string ⟨#[100, 101, 100, 101, 110, 116]⟩, .string ⟨#[]⟩, .int .i64 (s.size : Int)] rfl rfl (World.news_of_block (cs := #[.string ⟨#[100, 101, 100, 101, 110, 116]⟩, .string ⟨#[]⟩, .int .i64 (s.size : Int)]) (heap_alloc_new wr _)) (by simp [Value.oneCell']) (by decide) (by unfold maxLen; omega) (by omega) (by simp; omega) (wr.heap.size + 1) (by simp) ?_; intro g5 cap5 w5 hown5 hgrow5 hat5 hlt5)
          go_roundw
          case rel =>
            have R4 := hR2.put ⟨kDedent, [], s.size⟩ hown5 hgrow5 hat5
            refine ⟨m + 1, by omega, by go_num, ?_⟩
            rw [List.replicate_succ', ← List.append_assoc]
            simpa using R4
          case measure => simp [intOf]; omega
        · have u1 : decide (((m : Int) + 1) < ((r.length : Int) + 1)) = false := by simp; omega
          go_wp2_with (at_builtin; refine wpList_append_lies (wr.alloc (.cells #[.string ⟨#[101, 110, 100]⟩, .string ⟨#[]⟩, .int .i64 (s.size : Int)] 115)) rfl (.tmp 161) (.tmp 165) 45 rfl W1.heap.size 115 i2 _ 3 40 Tryz.underlying45 hi2 hy0 hy1 hy2 rfl (by decide) _ (ts ++ List.replicate m (⟨kDedent, [], s.size⟩ : Tok)).length (tokCells (ts ++ List.replicate m (⟨kDedent, [], s.size⟩ : Tok))) rfl (hR2.out.alloc _) ⟨wr.heap.size, 0, none⟩ 1 1 [.string ⟨#[101, 110, 100]⟩, .string ⟨#[]⟩, .int .i64 (s.size : Int)] rfl rfl (World.news_of_block (cs := #[.string ⟨#[101, 110, 100]⟩, .string ⟨#[]⟩, .int .i64 (s.size : Int)]) (heap_alloc_new wr _)) (by simp [Value.oneCell']) (by decide) (by unfold maxLen; omega) (by omega) (by simp; omega) (wr.heap.size + 1) (by simp) ?_; intro g5 cap5 w5 hown5 hgrow5 hat5 hlt5)
          refine (rFine_any _).mono ?_
          rintro _ w7 ⟨rfl, hb7⟩
          obtain rfl : m = r.length := by omega
          have R5 := hR2.put ⟨kEnd, [], s.size⟩ hown5 hgrow5 hat5
          have R6 := R5.grow hb7
          have hz := fault_at hkz Hsz.out R6.below
          have hb2 := hbz.trans (R6.below.mono (by have := Hsz.out; omega))
          have e0 := cell_of_blk (o := 0) hz
          have e1 := cell_of_blk (o := 1) hz
          have f0 := frozen_of_blk (o := 0) hz
          have f1 := frozen_of_blk (o := 1) hz
          have hout := ownsRow_base (ownsRow_setCell_below (ownsRow_setCell_below R6.out (a := ⟨w.heap.size, 0, none⟩) (by have := Hsz.out; show w.heap.size < W1.heap.size; omega) (.int .i64 0)) (a := ⟨w.heap.size, 1, none⟩) (by have := Hsz.out; show w.heap.size < W1.heap.size; omega) (.int .i64 (-1))) (show w.heap.size ≤ W1.heap.size by have := Hsz.out; omega)
          have Hout := Lib.hid hout
          clear hz hR2 hkz R5 R6 hb7 hown5 hgrow5 hat5 hout
          go_wp2_with fail
          refine bodyPost_ret (v := .tuple #[.slice (some ⟨g5, 0, none⟩) ((ts ++ List.replicate r.length (⟨kDedent, [], s.size⟩ : Tok)).length + 1) cap5, .agg #[.int .i64 0, .int .i64 (-1)]]) ?_ rfl ⟨(hb2.setCell (p := ⟨w.heap.size, 0, none⟩) (Nat.le_refl _) _).setCell (p := ⟨w.heap.size, 1, none⟩) (Nat.le_refl _) _, by rw [Hres.out]; exact ⟨_, rfl, Hout.out⟩⟩
          simp [results, Tryz.results19, go_sem, e0, e1]
end Go.Proofs.YtdoaeapahgmfoaaGreatDoor
