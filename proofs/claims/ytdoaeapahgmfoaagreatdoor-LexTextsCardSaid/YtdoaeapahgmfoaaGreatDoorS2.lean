/- The document's StrOf: what a str that begins here means, and how many bytes it has. -/
import Derived.Test.YtdoaeapahgmfoaaGreatDoorS1
namespace Go.Proofs.YtdoaeapahgmfoaaGreatDoor
open Go.RowKit

/-- What StrOf answers. -/
def strAns : Option (List UInt8 × Nat) → Value
  | some (t, n) => .tuple #[.string (toBA t), .int .i64 n]
  | none => .tuple #[.string ⟨#[]⟩, .int .i64 0]
theorem toBA_snoc (a : List UInt8) (c : UInt8) : toBA a ++ (⟨#[c]⟩ : ByteArray) = toBA (a ++ [c]) := by
  have h : (toBA a ++ (⟨#[c]⟩ : ByteArray)).data.toList = a ++ [c] := by simp [toBA]
  show _ = toBA (a ++ [c])
  rw [← h, toBA_of]
theorem toBA_size (a : List UInt8) : (toBA a).size = a.length := by simp [toBA, ByteArray.size]
theorem hexI_some {b : UInt8} {x : Nat} (h : hexV b = some x) : hexI b = (x : Int) := by unfold hexI; rw [h]
theorem hexI_none {b : UInt8} (h : hexV b = none) : hexI b = -1 := by unfold hexI; rw [h]

theorem index_far (s : ByteArray) (k d : Nat) (h : k + d < s.size) (w : World) : (Instr.index 9 (.string s) (.int .i64 ((k : Int) + (d : Int)))).run Tryz.prog w = .ok (.int .u8 ((s[k + d]'h).toNat : Int)) w := by
  have hh : (0 : Int) ≤ (k : Int) + (d : Int) ∧ (k : Int) + (d : Int) < s.size := by omega
  have e : ((k : Int) + (d : Int)).toNat = k + d := by omega
  go_simp


set_option maxRecDepth 100000 in
set_option maxHeartbeats 20000000 in
theorem rStr_any (s : ByteArray) (w : World) (hs : s.size ≤ 6000) (h0 : 1 ≤ s.size) :
    Calls Tryz.prog 92 #[.string s] w fun e w' => e = .returned (strAns (unqS s.data.toList)) ∧ Below w.heap.size w w' := by
  go_enter Tryz.func92, Tryz.ntmps92
  go_wp2_with fail
  go_loopw [4, 5] (fun o i wr => ∃ (k : Nat) (acc : List UInt8), 1 ≤ k ∧ k ≤ s.size ∧ acc.length ≤ k ∧ i = .int .i64 k ∧ o = .string (toBA acc) ∧ Below w.heap.size w wr ∧
      unq (s.data.toList.drop k) acc k = unqS s.data.toList) (fun _ i _ => s.size - (intOf i).toNat)
  case atStart => exact ⟨1, [], by omega, h0, by simp, rfl, rfl, Below.refl _ _, rfl⟩
  case round =>
    obtain ⟨k, acc, hk1, hk, hacc, rfl, rfl, hbel, hunq⟩ := hrel
    have Hu := Lib.hid hunq; clear hunq
    have hsz : (toBA acc).size ≤ 6000 := by rw [toBA_size]; omega
    by_cases hlt : k < s.size
    · have hlt' : k < s.data.toList.length := by simpa using hlt
      have t0 : decide ((k : Int) < (s.size : Int)) = true := by simp; omega
      by_cases hq : (s[k]'hlt).toNat = 34
      · have hn := unq_quote (acc := acc) hlt' hq
        have Hn := Lib.hid hn; clear hn
        have t1 : (((s[k]'hlt).toNat : Int) == 34) = true := by rw [hq]; rfl
        clear hq
        go_wp2_with fail
        refine bodyPost_ret (results_tmp2 rfl _ _ _) rfl ?_
        exact ⟨by rw [← Hu.out, Hn.out]; rfl, hbel⟩
      have t1 : (((s[k]'hlt).toNat : Int) == 34) = false := by rw [beq_eq_false_iff_ne]; omega
      by_cases hb : (s[k]'hlt).toNat < 32 ∨ 126 < (s[k]'hlt).toNat
      · have hn := unq_bad (acc := acc) hlt' hq hb
        have Hn := Lib.hid hn; clear hn hq
        rcases hb with hb | hb
        all_goals
          go_wp2_with fail
          refine bodyPost_ret (results_tmp2 rfl _ _ _) rfl ?_
          exact ⟨by rw [← Hu.out, Hn.out]; rfl, hbel⟩
      have hb1 : 32 ≤ (s[k]'hlt).toNat := by omega
      have hb2 : (s[k]'hlt).toNat ≤ 126 := by omega
      clear hb
      by_cases h92 : (s[k]'hlt).toNat = 92
      · have t2 : (((s[k]'hlt).toNat : Int) != 92) = false := by rw [h92]; rfl
        by_cases hend : k + 1 < s.size
        · have hl1 : k + 1 < s.data.toList.length := by simpa using hend
          have he := unq_esc (acc := acc) hl1 h92
          have He := Lib.hid he; clear he hq h92
          have t3 : decide ((s.size : Int) ≤ (k : Int) + 1) = false := by simp; omega
          by_cases d1 : (s[k + 1]'hend).toNat = 110
          · have hn := He.out.trans (if_pos d1)
            have u1 : (((s[k + 1]'hend).toNat : Int) == 110) = true := by rw [d1]; rfl
            have Hn := Lib.hid hn; clear hn d1
            go_wp2_with fail
            refine (byte_any 10 wr).mono ?_
            rintro e w2 ⟨rfl, hb2'⟩
            go_wp2_with fail
            go_roundw
            case rel => exact ⟨k + 2, acc ++ [10], by omega, by omega, by simp; omega, by go_num, by rw [← toBA_snoc], below_grow hbel hbel.size hb2', by rw [← Hu.out, Hn.out]⟩
            case measure => simp [intOf]; omega
          have hn1 := He.out.trans (if_neg d1)
          have u1 : (((s[k + 1]'hend).toNat : Int) == 110) = false := by rw [beq_eq_false_iff_ne]; omega
          have He := Lib.hid hn1; clear hn1
          by_cases d2 : (s[k + 1]'hend).toNat = 34 ∨ (s[k + 1]'hend).toNat = 92
          · have hn := He.out.trans (if_pos d2)
            have Hn := Lib.hid hn; clear hn d1
            have h256 : (s[k + 1]'hend).toNat ≤ 255 := by have := (s[k + 1]'hend).toNat_lt; omega
            rcases d2 with d2 | d2
            · have u2 : (((s[k + 1]'hend).toNat : Int) == 34) = true := by rw [d2]; rfl
              clear d2
              go_wp2_with fail
              refine (byte_any (s[k + 1]'hend) wr).mono ?_
              rintro e w2 ⟨rfl, hb2'⟩
              go_wp2_with fail
              go_roundw
              case rel => exact ⟨k + 2, acc ++ [s[k + 1]'hend], by omega, by omega, by simp; omega, by go_num, by rw [← toBA_snoc], below_grow hbel hbel.size hb2', by rw [← Hu.out, Hn.out]; rfl⟩
              case measure => simp [intOf]; omega
            · have u2 : (((s[k + 1]'hend).toNat : Int) == 34) = false := by rw [beq_eq_false_iff_ne]; omega
              have u3 : (((s[k + 1]'hend).toNat : Int) == 92) = true := by rw [d2]; rfl
              clear d2
              go_wp2_with fail
              refine (byte_any (s[k + 1]'hend) wr).mono ?_
              rintro e w2 ⟨rfl, hb2'⟩
              go_wp2_with fail
              go_roundw
              case rel => exact ⟨k + 2, acc ++ [s[k + 1]'hend], by omega, by omega, by simp; omega, by go_num, by rw [← toBA_snoc], below_grow hbel hbel.size hb2', by rw [← Hu.out, Hn.out]; rfl⟩
              case measure => simp [intOf]; omega
          have hn2 := He.out.trans (if_neg d2)
          have u2 : (((s[k + 1]'hend).toNat : Int) == 34) = false := by rw [beq_eq_false_iff_ne]; omega
          have u3 : (((s[k + 1]'hend).toNat : Int) == 92) = false := by rw [beq_eq_false_iff_ne]; omega
          have He := Lib.hid hn2; clear hn2
          by_cases d3 : (s[k + 1]'hend).toNat = 120
          · have hn3 := He.out.trans (if_pos d3)
            have u4 : (((s[k + 1]'hend).toNat : Int) == 120) = true := by rw [d3]; rfl
            have He := Lib.hid hn3; clear hn3 d1 d2 d3
            by_cases hfar : k + 3 < s.size
            · have hl3 : k + 3 < s.data.toList.length := by simpa using hfar
              have hn := He.out.trans (unq_hex hl3)
              have u5 : decide ((k : Int) + 3 < (s.size : Int)) = true := by simp; omega
              obtain ⟨a, ha⟩ : ∃ a, a = s[k + 2]'(by omega) := ⟨_, rfl⟩
              obtain ⟨b, hb⟩ : ∃ b, b = s[k + 3]'hfar := ⟨_, rfl⟩
              have hn' : unq (List.drop k s.data.toList) acc k = match hexV a, hexV b with
                | some x, some y => unq (s.data.toList.drop (k + 4)) (acc ++ [UInt8.ofNat (16 * x + y)]) (k + 4)
                | _, _ => none := by rw [ha, hb]; exact hn
              have He := Lib.hid hn'; clear hn hn'
              have hix2 : ∀ w : World, (Instr.index 9 (.string s) (.int .i64 ((k : Int) + 2))).run Tryz.prog w = .ok (.int .u8 (a.toNat : Int)) w := fun w => by rw [ha]; exact index_far s k 2 (by omega) w
              have hix3 : ∀ w : World, (Instr.index 9 (.string s) (.int .i64 ((k : Int) + 3))).run Tryz.prog w = .ok (.int .u8 (b.toNat : Int)) w := fun w => by rw [hb]; exact index_far s k 3 hfar w
              clear ha hb
              go_wp2_with fail
              refine (rHex_any a wr).mono ?_
              rintro e w2 ⟨rfl, rfl⟩
              rcases hxa : hexV a with _ | x
              · rw [hexI_none hxa]
                have Hn := Lib.hid (show unq (List.drop k s.data.toList) acc k = none by rw [He.out, hxa])
                clear hxa
                go_wp2_with fail
                refine bodyPost_ret (results_tmp2 rfl _ _ _) rfl ?_
                exact ⟨by rw [← Hu.out, Hn.out]; rfl, hbel⟩
              · rw [hexI_some hxa]
                have hx16 := (hexV_lt hxa).1
                have u6 : decide ((0 : Int) ≤ (x : Int)) = true := by simp
                have Hxa := Lib.hid hxa; clear hxa
                go_wp2_with fail
                refine (rHex_any b wr).mono ?_
                rintro e w2 ⟨rfl, rfl⟩
                rcases hxb : hexV b with _ | y
                · rw [hexI_none hxb]
                  have Hn := Lib.hid (show unq (List.drop k s.data.toList) acc k = none by rw [He.out, Hxa.out, hxb])
                  clear hxb
                  go_wp2_with fail
                  refine bodyPost_ret (results_tmp2 rfl _ _ _) rfl ?_
                  exact ⟨by rw [← Hu.out, Hn.out]; rfl, hbel⟩
                · rw [hexI_some hxb]
                  have hy16 := (hexV_lt hxb).1
                  have u7 : decide ((0 : Int) ≤ (y : Int)) = true := by simp
                  have Hxb := Lib.hid hxb
                  have Hn := Lib.hid (show unq (List.drop k s.data.toList) acc k = unq (s.data.toList.drop (k + 4)) (acc ++ [UInt8.ofNat (16 * x + y)]) (k + 4) by rw [He.out, Hxa.out, hxb])
                  clear hxb
                  have hv : 16 * (x : Int) + (y : Int) = ((UInt8.ofNat (16 * x + y)).toNat : Int) := by simp; omega
                  have hFh : ∀ (c : UInt8) (z : Nat) (_ : hexV c = some z) (q : GrownOf wr), Calls Tryz.prog 138 #[.int .u8 (c.toNat : Int)] q.world fun e w' => e = .returned (.int .i64 (z : Int)) ∧ ∃ q' : GrownOf wr, w' = q'.world := fun c z hz q =>
                    (rHex_any c q.world).mono fun e w' ⟨h1, h2⟩ => ⟨by rw [h1, hexI_some hz], q, h2.symm⟩
                  have hFc : ∀ q : GrownOf wr, Calls Tryz.prog 60 #[.int .i64 (16 * (x : Int) + (y : Int))] q.world fun e w' => e = .returned (.string ⟨#[UInt8.ofNat (16 * x + y)]⟩) ∧ ∃ q' : GrownOf wr, w' = q'.world := fun q => by
                    rw [hv]
                    exact (byte_any _ q.world).mono fun e w' ⟨h1, h2⟩ => ⟨h1, ⟨w', q.below.trans (h2.mono q.below.size)⟩, rfl⟩
                  have HFh := Lib.hid hFh; have HFc := Lib.hid hFc
                  have kxa := Hxa.out; have kxb := Hxb.out
                  clear hv hFh hFc
                  haveI : Nonempty (GrownOf wr) := ⟨⟨wr, Below.refl _ _⟩⟩
                  generalize UInt8.ofNat (16 * x + y) = cc at Hn HFc
                  go_upto_region 23 with fail
                  refine m_region (C := fun w' => ∃ q : GrownOf wr, w' = q.world) (by kernel_rfl) (by kernel_rfl) ⟨⟨wr.drew, (Below.refl _ _).drew⟩, rfl⟩ ?_
                  iterate 6 (go_big_quiet_step ((go_at_call 138; exact HFh.out a x kxa _)))
                  iterate 6 (go_big_quiet_step ((go_at_call 138; exact HFh.out b y kxb _)))
                  repeat (go_big_quiet_step ((go_at_call 60; exact HFc.out _)))
                  refine wpQuiet_nil ?_
                  intro _ hw'
                  obtain ⟨q, rfl⟩ := hw'
                  have hbq : Below w.heap.size w q.world := below_grow hbel hbel.size q.below
                  generalize q.world = W6 at hbq ⊢
                  go_wp2_with fail
                  go_roundw
                  case rel => exact ⟨k + 4, acc ++ [cc], by omega, by omega, by simp; omega, by go_num, by rw [← toBA_snoc], hbq, by rw [← Hu.out, Hn.out]⟩
                  case measure => simp [intOf]; omega
            · have hn := He.out.trans (unq_short (by simp; omega))
              have u5 : decide ((k : Int) + 3 < (s.size : Int)) = false := by simp; omega
              have Hn := Lib.hid hn; clear hn
              go_wp2_with fail
              refine bodyPost_ret (results_tmp2 rfl _ _ _) rfl ?_
              exact ⟨by rw [← Hu.out, Hn.out]; rfl, hbel⟩
          · have hn := He.out.trans (if_neg d3)
            have u4 : (((s[k + 1]'hend).toNat : Int) == 120) = false := by rw [beq_eq_false_iff_ne]; omega
            have Hn := Lib.hid hn; clear hn d1 d2 d3
            go_wp2_with fail
            refine bodyPost_ret (results_tmp2 rfl _ _ _) rfl ?_
            exact ⟨by rw [← Hu.out, Hn.out]; rfl, hbel⟩
        · have hn := unq_end (acc := acc) hlt' h92 (by simp; omega)
          have Hn := Lib.hid hn; clear hn hq h92
          have t3 : decide ((s.size : Int) ≤ (k : Int) + 1) = true := by simp; omega
          go_wp2_with fail
          refine bodyPost_ret (results_tmp2 rfl _ _ _) rfl ?_
          exact ⟨by rw [← Hu.out, Hn.out]; rfl, hbel⟩
      · have hn := unq_plain (acc := acc) hlt' hq ⟨hb1, hb2⟩ h92
        have t2 : (((s[k]'hlt).toNat : Int) != 92) = true := by rw [bne_iff_ne]; omega
        have Hn := Lib.hid hn; clear hn hq h92
        go_wp2_with fail
        refine (byte_any (s[k]'hlt) wr).mono ?_
        rintro e w2 ⟨rfl, hb2'⟩
        go_wp2_with fail
        go_roundw
        case rel => exact ⟨k + 1, acc ++ [s[k]'hlt], by omega, by omega, by simp; omega, by go_num, by rw [← toBA_snoc], below_grow hbel hbel.size hb2', by rw [← Hu.out, Hn.out]; rfl⟩
        case measure => simp [intOf]; omega
    · have hn : unq (s.data.toList.drop k) acc k = none := by rw [List.drop_eq_nil_of_le (by simp; omega)]; rfl
      have t0 : decide ((k : Int) < (s.size : Int)) = false := by simp; omega
      have Hn := Lib.hid hn; clear hn
      go_wp2_with fail
      refine bodyPost_ret (results_tmp2 rfl _ _ _) rfl ?_
      exact ⟨by rw [← Hu.out, Hn.out]; rfl, hbel⟩
end Go.Proofs.YtdoaeapahgmfoaaGreatDoor
