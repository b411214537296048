/- The walk of LexTexts: true, of whatever tokens. -/
import Derived.Test.YtdoaeapahgmfoaaGreatDoorY4
import Derived.Deep.RegionHeld3
namespace Go.Proofs.YtdoaeapahgmfoaaGreatDoor
open Go.RowKit

def SmallAns (ts : List TokI) (e : Ending) : Prop := ∃ b, e = .returned (.bool b) ∧ (b = true → ∀ t ∈ ts, t.text.length ≤ 3000)
set_option maxRecDepth 100000 in
set_option maxHeartbeats 20000000 in
/-- Of more than 600 tokens nothing is said. -/
theorem small_many {w : World} (ts : List TokI) (a : Option Addr) (cap : Nat) (hA : RtAt w a ts) (hn : 600 < ts.length) (hm : ts.length ≤ 9223372036854775807) :
    Calls Tryz.prog 24 #[.slice a ts.length cap] w fun e w' => e = .returned (.bool false) ∧ Below w.heap.size w w' := by
  go_enter Tryz.func24, Tryz.ntmps24
  go_wp2_with fail
  go_loop [3, 4] (fun n i => ∃ (j : Nat) (v : Int), j ≤ ts.length ∧ i = .int .i64 j ∧ n = .int .i64 v) (fun _ i => ts.length - (intOf i).toNat)
  case atStart => exact ⟨0, 0, by omega, rfl, rfl⟩
  case round =>
    obtain ⟨j, v, hj, rfl, rfl⟩ := hrel
    by_cases hjl : j < ts.length
    · have t1 : decide ((j : Int) < (ts.length : Int)) = true := by simp; omega
      obtain ⟨b, o, rfl, hbl, hc⟩ := hA.at_ (by omega)
      obtain ⟨k0, k1, k2⟩ := hc j hjl
      clear hc k0 k2
      generalize toBA ts[j].text = tx at k1
      go_wp2_with fail
      go_round
      case rel => exact ⟨j + 1, _, by omega, by go_num, rfl⟩
      case measure => simp [intOf]; omega
    · have t1 : decide ((j : Int) < (ts.length : Int)) = false := by simp; omega
      have t2 : decide ((ts.length : Int) ≤ 600) = false := by simp; omega
      go_wp2_with fail
      refine bodyPost_ret (results_tmp rfl _ _ _) rfl ?_
      exact ⟨rfl, Below.refl _ _⟩

set_option maxRecDepth 100000 in
set_option maxHeartbeats 20000000 in
theorem small_few {w : World} (ts : List TokI) (a : Option Addr) (cap : Nat) (hA : RtAt w a ts) (hn : ts.length ≤ 600) (hx : ∀ t ∈ ts, t.text.length ≤ 140737488351232) :
    Calls Tryz.prog 24 #[.slice a ts.length cap] w fun e w' => SmallAns ts e ∧ Below w.heap.size w w' := by
  have Hx := Lib.hid hx; clear hx
  go_enter Tryz.func24, Tryz.ntmps24
  go_wp2_with fail
  go_loop [3, 4] (fun n i => ∃ (j m : Nat), j ≤ ts.length ∧ i = .int .i64 j ∧ n = .int .i64 m ∧ m ≤ j * 140737488351233 ∧ ∀ i (h : i < ts.length), i < j → ts[i].text.length ≤ m) (fun _ i => ts.length - (intOf i).toNat)
  case atStart => exact ⟨0, 0, by omega, rfl, rfl, by omega, fun _ _ h => absurd h (by omega)⟩
  case round =>
    obtain ⟨j, m, hj, rfl, rfl, hm, hal⟩ := hrel
    have Hal := Lib.hid hal; clear hal
    by_cases hjl : j < ts.length
    · have t1 : decide ((j : Int) < (ts.length : Int)) = true := by simp; omega
      obtain ⟨b, o, rfl, hbl, hc⟩ := hA.at_ (by omega)
      obtain ⟨k0, k1, k2⟩ := hc j hjl
      clear hc k0 k2
      have hxl := Hx.out _ (List.getElem_mem hjl)
      obtain ⟨tx, htx⟩ : ∃ tx, tx = toBA ts[j].text := ⟨_, rfl⟩
      have hts : ts[j].text.length = tx.size := by rw [htx]; show _ = ts[j].text.toArray.size; simp
      rw [hts] at hxl
      rw [← htx] at k1
      have Hts := Lib.hid hts; clear hts htx
      go_wp2_with fail
      go_round
      case rel =>
        refine ⟨j + 1, m + 1 + tx.size, by omega, by go_num, by go_num, by omega, fun i h hi => ?_⟩
        rcases Nat.lt_or_ge i j with h' | h'
        · have := Hal.out i h h'; omega
        · have : i = j := by omega
          subst this
          rw [Hts.out]; omega
      case measure => simp [intOf]; omega
    · have t1 : decide ((j : Int) < (ts.length : Int)) = false := by simp; omega
      have t2 : decide ((ts.length : Int) ≤ 600) = true := by simp; omega
      obtain rfl : j = ts.length := by omega
      rcases t3 : decide ((m : Int) ≤ 3000) with _ | _
      · go_wp2_with fail
        refine bodyPost_ret (results_tmp rfl _ _ _) rfl ?_
        exact ⟨⟨false, rfl, by simp⟩, Below.refl _ _⟩
      · go_wp2_with fail
        refine bodyPost_ret (results_tmp rfl _ _ _) rfl ?_
        refine ⟨⟨true, rfl, fun _ t ht => ?_⟩, Below.refl _ _⟩
        obtain ⟨i, hi, rfl⟩ := List.getElem_of_mem ht
        have h1 := Hal.out i hi hi
        have h2 := of_decide_eq_true t3
        omega

theorem Tryz.infoLTok : (Tryz.prog.info? 104).map (fun i => (i.zero, i.size, i.bytes)) = some (some (.agg #[.string ⟨#[]⟩, .string ⟨#[]⟩, .int .i64 0]), 3, 40) := by kernel_rfl
def TokI.cells (t : TokI) : List Value := [.string (toBA t.kind), .string (toBA t.text), .int .i64 t.at_]
def tokICells (ts : List TokI) : List Value := ts.flatMap TokI.cells
theorem tokICells_snoc (ts : List TokI) (t : TokI) : tokICells (ts ++ [t]) = tokICells ts ++ t.cells := by simp [tokICells]
theorem tokICells_at : ∀ (ts : List TokI) (j : Nat) (hj : j < ts.length), (tokICells ts)[j * 3]? = some (.string (toBA ts[j].kind)) ∧ (tokICells ts)[j * 3 + 1]? = some (.string (toBA ts[j].text)) ∧ (tokICells ts)[j * 3 + 2]? = some (.int .i64 ts[j].at_)
  | t :: l, 0, _ => by simp [tokICells, TokI.cells]
  | t :: l, j + 1, hj => by
    obtain ⟨h1, h2, h3⟩ := tokICells_at l j (by simpa using hj)
    have e : ∀ k, (tokICells (t :: l))[(j + 1) * 3 + k]? = (tokICells l)[j * 3 + k]? := by
      intro k
      show (t.cells ++ tokICells l)[(j + 1) * 3 + k]? = _
      rw [List.getElem?_append_right (by simp [TokI.cells]; omega)]
      congr 1
      simp [TokI.cells]; omega
    exact ⟨(e 0).trans h1, (e 1).trans h2, (e 2).trans h3⟩
/-- What package lex is handed. -/
theorem kt_of_own {w : World} {B : Nat} {v : Value} {ts : List TokI} (h : w.ownsRow B 104 3 v ts.length (tokICells ts)) (hp : 0 < ts.length) (hn : ts.length ≤ 600) (hx : ∀ t ∈ ts, t.text.length ≤ 3000) :
    ∃ g cap, v = .slice (some ⟨g, 0, none⟩) ts.length cap ∧ KtAt w g (ts.map ki) := by
  rcases h.2 with ⟨_, h0⟩ | ⟨g, cap, cur, hv, hB, hg, hn', hc, hsz, htake⟩
  · omega
  refine ⟨g, cap, hv, ⟨by simpa using hp, by simpa using hn, lt_of_blk hg, fun t ht => ?_, fun j hj => ?_⟩⟩
  · obtain ⟨u, hu, rfl⟩ := List.mem_map.1 ht
    exact hx u hu
  have hj' : j < ts.length := by simpa using hj
  have hk : ∀ k, k < ts.length * 3 → w.cell? ⟨g, k, none⟩ = (tokICells ts)[k]? := by
    intro k hk
    rw [cell_of_blk hg]
    have h1 : (cur.toList.take (ts.length * 3))[k]? = (tokICells ts)[k]? := by rw [htake]
    rw [List.getElem?_take_of_lt hk] at h1
    rw [← h1, Array.getElem?_toList]
  obtain ⟨h1, h2, h3⟩ := tokICells_at ts j hj'
  rw [List.getElem_map]
  exact ⟨(hk _ (by omega)).trans h1, (hk _ (by omega)).trans h2, _, (hk _ (by omega)).trans h3⟩

def TokensPost (w : World) (ts : List TokI) (e : Ending) (w' : World) : Prop := Below w.heap.size w w' ∧ ∃ v, e = .returned v ∧ w'.ownsRow w.heap.size 104 3 v ts.length (tokICells ts) ∧ (ts = [] → v = .slice none 0 0)
set_option maxRecDepth 100000 in
set_option maxHeartbeats 20000000 in
theorem tokens_any {w : World} (ts : List TokI) (a : Option Addr) (cap : Nat) (hA : RtAt w a ts) (hn : ts.length ≤ 600) :
    Calls Tryz.prog 26 #[.slice a ts.length cap] w (TokensPost w ts) := by
  obtain ⟨i0, hi0, hz0, hz1, hz2⟩ := info_parts Tryz.infoLTok
  go_enter Tryz.func26, Tryz.ntmps26
  go_wp2_with fail
  go_loopw [3, 4] (fun v i wr => ∃ j : Nat, j ≤ ts.length ∧ i = .int .i64 j ∧ wr.ownsRow w.heap.size 104 3 v (ts.take j).length (tokICells (ts.take j)) ∧ Below w.heap.size w wr ∧ (j = 0 → v = .slice none 0 0)) (fun _ i _ => ts.length - (intOf i).toNat)
  case atStart => exact ⟨0, by omega, rfl, World.ownsRow_nil _ _ _ _, Below.refl _ _, fun _ => rfl⟩
  case round =>
    obtain ⟨j, hj, rfl, hown, hbel, h0⟩ := hrel
    have H0 := Lib.hid h0; clear h0
    by_cases hjl : j < ts.length
    · have t1 : decide ((j : Int) < (ts.length : Int)) = true := by simp; omega
      obtain ⟨b, o, rfl, hbl, hc⟩ := hA.at_ (by omega)
      obtain ⟨k0, k1, k2⟩ := hc j hjl
      have k0 := (hbel.cell (p := ⟨b, _, none⟩) hbl).trans k0
      have k1 := (hbel.cell (p := ⟨b, _, none⟩) hbl).trans k1
      have k2 := (hbel.cell (p := ⟨b, _, none⟩) hbl).trans k2
      have hbr : b < wr.heap.size := by have := hbel.size; omega
      have hll : (ts.take j).length = j := by simp; omega
      have hstep : tokICells (ts.take (j + 1)) = tokICells (ts.take j) ++ [.string (toBA ts[j].kind), .string (toBA ts[j].text), .int .i64 ts[j].at_] := by
        rw [List.take_succ_eq_append_getElem hjl, tokICells_snoc]; rfl
      generalize toBA ts[j].kind = kd at k0 hstep
      generalize toBA ts[j].text = tx at k1 hstep
      generalize ts[j].at_ = pl at k2 hstep
      have Hstep := Lib.hid hstep
      have hws : w.heap.size ≤ wr.heap.size := hbel.size
      have hj0 : (0 : Int) ≤ (j : Int) := Int.natCast_nonneg _
      have hj1 : (j : Int) < (ts.length : Int) := by omega
      rw [hll] at hown
      have hne := fun e => (show False from absurd (hown.lt b e).1 (by omega))
      clear hstep hc hll
      go_upto_region 5 with fail
      go_region_held3 (fun w' => w'.cell? ⟨b, o + j * 3, none⟩ = some (.string kd) ∧ w'.cell? ⟨b, o + j * 3 + 1, none⟩ = some (.string tx) ∧ w'.cell? ⟨b, o + j * 3 + 2, none⟩ = some (.int .i64 pl))
        (first
          | go_keep
          | (go_split_ands
             refine ⟨?_, ?_, ?_⟩
             · (rw [hgrow.cell_far _ (by simp; omega) (Ne.symm hne)]; assumption)
             · (rw [hgrow.cell_far _ (by simp; omega) (Ne.symm hne)]; assumption)
             · (rw [hgrow.cell_far _ (by simp; omega) (Ne.symm hne)]; assumption)))
        ((refine step_append_lies _ (by rfl) _ _ _ (by rfl) w.heap.size 104 i0 _ 3 40 Tryz.underlying42 hi0 hz0 hz1 hz2 rfl (by omega) _ j (tokICells (ts.take j)) (by rfl) ((hown.alloc _).drew)
            ⟨wr.heap.size, 0, none⟩ 1 1 [.string kd, .string tx, .int .i64 pl] (by rfl) (by rfl) (World.news_of_block (cs := #[.string kd, .string tx, .int .i64 pl]) (t := 104) (fr := (0, 0)) (heap_alloc_new wr _)) (by simp [Value.oneCell'])
            (by omega) (by unfold maxLen; omega) (by omega) (by simp; omega) (wr.heap.size + 1) (by simp) ?_; intro gg cap w1 hown1 hgrow hat hlt))
      have hbA : Below w.heap.size w (wr.alloc (.cells #[.string kd, .string tx, .int .i64 pl] 104)).drew := (hbel.alloc hws _).drew
      have hb1 := below_app0 hbA ((hown.alloc _).drew) hgrow (by have := hbA.size; omega)
      clear hbA
      go_wp2_with fail
      go_roundw
      case rel =>
        refine ⟨j + 1, by omega, by go_num, ?_, hb1, fun h => absurd h (by omega)⟩
        rw [Hstep.out, show (ts.take (j + 1)).length = j + 1 by simp; omega]
        exact hown1
      case measure => simp [intOf]; omega
    · have t1 : decide ((j : Int) < (ts.length : Int)) = false := by simp; omega
      obtain rfl : j = ts.length := by omega
      rw [List.take_of_length_le (Nat.le_refl _)] at hown
      go_wp2_with fail
      refine bodyPost_ret (results_tmp rfl _ _ _) rfl ?_
      exact ⟨hbel, _, rfl, hown, fun h => H0.out (by rw [h]; rfl)⟩

set_option maxRecDepth 100000 in
set_option maxHeartbeats 20000000 in
theorem coded_shape {p : Nat → Addr} {w : World} (h : Errs p w) :
    Calls Tryz.prog 28 #[.iface 281 (.pointer (some (p 2))), .int .i64 3] w fun e w' => e = .returned (.bool true) ∧ Below w.heap.size w w' := by
  go_enter Tryz.func28, Tryz.ntmps28
  go_wp2_with fail
  refine (code_bare h (p 2) 2 (by omega) (fun k h1 h2 e => by have := h.inj 2 k (by omega) h2 e; omega) (fun _ => rfl) (h.blk 2 (by omega)) 3 rfl).mono ?_
  rintro _ w2 ⟨rfl, hb2⟩
  go_wp2_with fail
  refine bodyPost_ret (results_tmp rfl _ _ _) rfl ?_
  exact ⟨rfl, hb2⟩

/-- lex.Text of what 'tokens' made. -/
theorem lexText_own {w : World} (ts : List TokI) (v : Value) {B : Nat} (hown : w.ownsRow B 104 3 v ts.length (tokICells ts)) (h0 : ts = [] → v = .slice none 0 0) (hn : ts.length ≤ 600) (hx : ∀ t ∈ ts, t.text.length ≤ 3000)
    (hg : GlobE w.heap.size w) (te : TypeId) (pe : Value) (hsh : w.cell? ⟨0, 0, none⟩ = some (.iface te pe)) :
    Calls Tryz.prog 25 #[v] w (TextPost w (ts.map ki) te pe) := by
  rcases ts with _ | ⟨t, r⟩
  · rw [h0 rfl]
    exact lexText_nil hg te pe hsh
  · obtain ⟨g, cap, rfl, hk⟩ := kt_of_own hown (by simp) hn hx
    have := lexText_exact ((t :: r).map ki) g cap hk hg te pe hsh
    rwa [List.length_map] at this

set_option maxRecDepth 100000 in
set_option maxHeartbeats 20000000 in
theorem lexTexts_any {p : Nat → Addr} {w : World} (ts : List TokI) (a : Option Addr) (cap : Nat) (hA : RtAt w a ts) (hm : ts.length ≤ 9223372036854775807) (hx : ∀ t ∈ ts, t.text.length ≤ 140737488351232) (hg : GlobE w.heap.size w) (hE : Errs p w) :
    Calls Tryz.prog 6 #[.slice a ts.length cap] w fun e w' => e = .returned (.bool true) ∧ Below w.heap.size w w' := by
  go_enter Tryz.func6, Tryz.ntmps6
  go_wp2_with fail
  refine (one_any hg).mono ?_
  rintro e w1 ⟨rfl, hb1⟩
  have hg1 : GlobE w1.heap.size w1 := (hg.below hb1).mono hb1.size
  have hE1 := hE.below hb1
  have hA1 := hA.below hb1
  by_cases hn : 600 < ts.length
  · go_wp2_with fail
    refine (small_many ts a cap hA1 hn hm).mono ?_
    rintro e w2 ⟨rfl, hb2⟩
    have hb12 := below_grow hb1 hb1.size hb2
    go_wp2_with fail
    refine bodyPost_ret (results_tmp rfl _ _ _) rfl ?_
    exact ⟨rfl, hb12⟩
  · have hn : ts.length ≤ 600 := by omega
    go_wp2_with fail
    refine (small_few ts a cap hA1 hn hx).mono ?_
    rintro e w2 ⟨⟨b, rfl, hb⟩, hb2⟩
    have hb12 := below_grow hb1 hb1.size hb2
    rcases b with _ | _
    · clear hb
      go_wp2_with fail
      refine bodyPost_ret (results_tmp rfl _ _ _) rfl ?_
      exact ⟨rfl, hb12⟩
    · have hx3 := hb rfl
      have hg2 : GlobE w2.heap.size w2 := (hg1.below hb2).mono hb2.size
      have hE2 := hE1.below hb2
      have hA2 := hA1.below hb2
      have Hx := Lib.hid hx3
      clear hb hx hx3
      go_wp2_with fail
      refine (tokens_any ts a cap hA2 hn).mono ?_
      rintro e w3 ⟨hb3, v, rfl, hown, h0⟩
      have hb13 := below_grow hb12 hb12.size hb3
      have hg3 : GlobE w3.heap.size w3 := (hg2.below hb3).mono hb3.size
      have hE3 := hE2.below hb3
      have hA3 := hA2.below hb3
      have hlaw := progT_refT (ts.map ki) (by simp; omega)
      have hlt := lexText_own ts v hown h0 hn Hx.out hg3 _ _ (hE3.cell 2 (by omega))
      rcases hr : refT (ts.map ki) with _ | l
      · have hl2 := hlt.mono (R' := fun e w' => Below w3.heap.size w3 w' ∧ e = .returned (.tuple #[.string ⟨#[]⟩, .iface 281 (.pointer (some (p 2)))])) fun e w' ⟨h1, h2⟩ => ⟨h1, by rw [hlaw, hr] at h2; exact h2⟩
        have Hlt := Lib.hid hl2; have Hr := Lib.hid hr
        clear hlt hl2 hown h0 hlaw hr
        go_wp2_with fail
        refine Hlt.out.mono ?_
        rintro e w4 ⟨hb4, rfl⟩
        have hb14 := below_grow hb13 hb13.size hb4
        have hE4 := hE3.below hb4
        have hA4 := hA3.below hb4
        have hT := (tokensText_any ts a cap hA4 hn Hx.out).mono (R' := fun e w' => Below w4.heap.size w4 w' ∧ e = .returned (.tuple #[.string ⟨#[]⟩, .bool false])) fun e w' ⟨h1, h2⟩ => ⟨h1, by rw [Hr.out] at h2; exact h2⟩
        have HT := Lib.hid hT
        clear hT Hlt
        go_wp2_with fail
        refine HT.out.mono ?_
        rintro e w5 ⟨hb5, rfl⟩
        have hb15 := below_grow hb14 hb14.size hb5
        have hE5 := hE4.below hb5
        clear HT
        go_wp2_with fail
        refine (coded_shape hE5).mono ?_
        rintro e w6 ⟨rfl, hb6⟩
        have hb16 := below_grow hb15 hb15.size hb6
        go_wp2_with fail
        refine bodyPost_ret (results_tmp rfl _ _ _) rfl ?_
        exact ⟨rfl, hb16⟩
      · have hl2 := hlt.mono (R' := fun e w' => Below w3.heap.size w3 w' ∧ e = .returned (.tuple #[.string (toBA l), .nilIface])) fun e w' ⟨h1, h2⟩ => ⟨h1, by rw [hlaw, hr] at h2; exact h2⟩
        have Hlt := Lib.hid hl2; have Hr := Lib.hid hr
        clear hlt hl2 hown h0 hlaw hr
        go_wp2_with fail
        refine Hlt.out.mono ?_
        rintro e w4 ⟨hb4, rfl⟩
        have hb14 := below_grow hb13 hb13.size hb4
        have hA4 := hA3.below hb4
        have hT := (tokensText_any ts a cap hA4 hn Hx.out).mono (R' := fun e w' => Below w4.heap.size w4 w' ∧ e = .returned (.tuple #[.string (toBA l), .bool true])) fun e w' ⟨h1, h2⟩ => ⟨h1, by rw [Hr.out] at h2; exact h2⟩
        have HT := Lib.hid hT
        clear hT Hlt
        go_wp2_with fail
        refine HT.out.mono ?_
        rintro e w5 ⟨hb5, rfl⟩
        have hb15 := below_grow hb14 hb14.size hb5
        clear HT
        go_wp2_with fail
        refine bodyPost_ret (results_tmp rfl _ _ _) rfl ?_
        exact ⟨rfl, hb15⟩

end Go.Proofs.YtdoaeapahgmfoaaGreatDoor
