/- The walk of LexDeep: true, of whatever slice and number. -/
import Derived.Test.YtdoaeapahgmfoaaDoorD1
import Derived.Test.YtdoaeapahgmfoaaDoorW1
namespace Go.Proofs.YtdoaeapahgmfoaaDoor
open Go.RowKit

theorem Tryd.infoStr : (Tryd.prog.info? 9).map (fun i => (i.zero, i.size, i.bytes)) = some (some (.string ByteArray.empty), 1, 16) := by kernel_rfl
/-- Blanks, so many. -/
def blanks (d : Nat) : ByteArray := toBA (List.replicate d 32)
def depthCells (ds : List Nat) : List Value := ds.map fun d => .string (blanks d)
theorem blanks_snoc (d : Nat) : blanks d ++ (⟨#[32]⟩ : ByteArray) = blanks (d + 1) := by
  have h : (blanks d ++ (⟨#[32]⟩ : ByteArray)).data.toList = List.replicate (d + 1) 32 := by simp [blanks, toBA, List.replicate_succ']
  show _ = toBA (List.replicate (d + 1) 32)
  rw [← h, toBA_of]
theorem blanks_size (d : Nat) : (blanks d).size = d := by simp [blanks, toBA, ByteArray.size]

theorem upFrom_snoc : ∀ (a : Nat) (ds : List Nat) (d : Nat), upFrom a ds → (a :: ds).getLastD 0 < d → upFrom a (ds ++ [d])
  | a, [], d, _, h => ⟨by simpa using h, trivial⟩
  | a, b :: r, d, hu, h => ⟨hu.1, upFrom_snoc b r d hu.2 (by simpa [List.getLastD_cons] using h)⟩
theorem bodyD_snoc : ∀ (ds : List Nat) (d : Nat), bodyD (ds ++ [d]) = bodyD ds ++ (List.replicate d 32 ++ [98, 10])
  | [], d => by simp [bodyD]
  | b :: r, d => by simp [bodyD, bodyD_snoc r d]
theorem bodyD_len (M : Nat) : ∀ ds : List Nat, (∀ d ∈ ds, d ≤ M) → (bodyD ds).length ≤ (M + 2) * ds.length
  | [], _ => by simp [bodyD]
  | b :: r, h => by
    have h1 := bodyD_len M r (fun d hd => h d (by simp [hd]))
    have h2 := h b (by simp)
    simp only [bodyD, List.length_append, List.length_replicate, List.length_cons, Nat.mul_succ]
    omega
theorem size_S {S : ByteArray} {ds : List Nat} (h : S.data.toList = [97, 10] ++ bodyD ds) (h1 : ∀ d ∈ ds, d ≤ 150) (h2 : ds.length ≤ 30) : S.size ≤ 4600 := by
  have e : S.size = S.data.toList.length := by simp
  have := bodyD_len 150 ds h1
  rw [e, h]
  simp only [List.length_append, List.length_cons, List.length_nil]
  have : (150 + 2) * ds.length ≤ 152 * 30 := Nat.mul_le_mul (by omega) h2
  omega
theorem wrap_small (k : Nat) (h : k ≤ 100000) : IntKind.i64.wrap (k : Int) = (k : Int) := IntWalk.i64_in _ (by omega)
/-- A row of one cell each, as it reads. -/
theorem row_cells {w : World} {B T n : Nat} {v : Value} {xs : List Value} (h : w.ownsRow B T 1 v n xs) (hn : 0 < n) :
    ∃ g cap, v = .slice (some ⟨g, 0, none⟩) n cap ∧ B ≤ g ∧ g < w.heap.size ∧ n ≤ cap ∧ ∀ j, j < n → w.cell? ⟨g, j, none⟩ = xs[j]? := by
  rcases h.2 with ⟨_, h0⟩ | ⟨g, cap, cur, hv, hB, hg, hn', hc, hsz, htake⟩
  · omega
  refine ⟨g, cap, hv, hB, lt_of_blk hg, hn', fun j hj => ?_⟩
  rw [cell_of_blk hg]
  have h1 : (cur.toList.take (n * 1))[j]? = xs[j]? := by rw [htake]
  rw [List.getElem?_take_of_lt (by omega)] at h1
  rw [← h1, Array.getElem?_toList]

theorem stepD_le (M : Nat) (x : Nat × Nat × Nat) (t : Tok) (h : x.1 ≤ M ∧ x.2.1 ≤ M ∧ x.2.2 ≤ M) : (stepD x t).1 ≤ M + 1 ∧ (stepD x t).2.1 ≤ M + 1 ∧ (stepD x t).2.2 ≤ M + 1 := by
  unfold stepD
  split
  · simp only; omega
  · split
    · simp only; omega
    · split
      · split
        · simp only; omega
        · omega
      · omega
theorem countD_le : ∀ (ts : List Tok) (M : Nat) (x : Nat × Nat × Nat), x.1 ≤ M ∧ x.2.1 ≤ M ∧ x.2.2 ≤ M → (countD ts x).1 ≤ M + ts.length ∧ (countD ts x).2.1 ≤ M + ts.length ∧ (countD ts x).2.2 ≤ M + ts.length
  | [], _, _, h => h
  | t :: r, M, x, h => by
    have := countD_le r (M + 1) (stepD x t) (stepD_le M x t h)
    show (countD r (stepD x t)).1 ≤ _ ∧ (countD r (stepD x t)).2.1 ≤ _ ∧ (countD r (stepD x t)).2.2 ≤ _
    simp only [List.length_cons]
    omega
theorem countD_take {ts : List Tok} {k : Nat} (hk : k < ts.length) (x : Nat × Nat × Nat) : countD (ts.take (k + 1)) x = stepD (countD (ts.take k) x) ts[k] := by
  unfold countD
  rw [List.take_succ_eq_append_getElem hk, List.foldl_append]
  rfl
theorem toBA_toList (l : List UInt8) : (toBA l).toList = l := by rw [ByteArray.toList_eq]; rfl
theorem toBA_ne {a b : List UInt8} (h : ¬ a = b) : ((toBA a).toList == b) = false := by rw [toBA_toList]; simp [h]
theorem toBA_eqb {a b : List UInt8} (h : a = b) : ((toBA a).toList == b) = true := by rw [toBA_toList]; simp [h]

/-- What the outer loop holds behind the depths ds. -/
def DeepSt (w wr : World) (ds : List Nat) (s inn ins : Value) : Prop :=
  upFrom 0 ds ∧ (∀ d ∈ ds, d ≤ 5 * ds.length) ∧ (∃ S : ByteArray, s = .string S ∧ S.data.toList = [97, 10] ++ bodyD ds) ∧ inn = .string (blanks ((0 :: ds).getLastD 0)) ∧
    wr.ownsRow w.heap.size 9 1 ins (ds.length + 1) (depthCells (0 :: ds)) ∧ Below w.heap.size w wr

set_option maxRecDepth 100000 in
set_option maxHeartbeats 20000000 in
theorem lexDeep_short {w : World} (a : Option Addr) (n c : Nat) (back : Int) (hg : GlobE w.heap.size w) (hb : 30 < n ∨ back < 0 ∨ (n : Int) < back) :
    Calls Tryd.prog 6 #[.slice a n c, .int .i64 back] w fun e w' => e = .returned (.bool true) ∧ Below w.heap.size w w' := by
  go_enter Tryd.func6, Tryd.ntmps6
  go_wp2_with fail
  refine (one_any hg).mono ?_
  rintro e w1 ⟨rfl, hb1⟩
  by_cases h1 : 30 < n
  · have d1 : decide ((30 : Int) < (n : Int)) = true := by simp; omega
    go_wp2_with fail
    refine bodyPost_ret (results_tmp rfl _ _ _) rfl ?_
    exact ⟨rfl, hb1⟩
  have d1 : decide ((30 : Int) < (n : Int)) = false := by simp; omega
  by_cases h2 : back < 0
  · have d2 : decide (back < 0) = true := by simp; omega
    go_wp2_with fail
    refine bodyPost_ret (results_tmp rfl _ _ _) rfl ?_
    exact ⟨rfl, hb1⟩
  have d2 : decide (back < 0) = false := by simp; omega
  have d3 : decide ((n : Int) < back) = true := by simp; omega
  go_wp2_with fail
  refine bodyPost_ret (results_tmp rfl _ _ _) rfl ?_
  exact ⟨rfl, hb1⟩

set_option maxRecDepth 100000 in
set_option maxHeartbeats 20000000 in
theorem lexDeep_main {w : World} (a : Option Addr) (n c : Nat) (zs : List Int) (back : Nat) (hg : GlobE w.heap.size w) (hn : zs.length = n) (h30 : n ≤ 30) (hbk : back ≤ n)
    (hz : ∀ j (hj : j < zs.length), ∃ b o, a = some ⟨b, o, none⟩ ∧ b < w.heap.size ∧ w.cell? ⟨b, o + j, none⟩ = some (.int .i64 zs[j])) :
    Calls Tryd.prog 6 #[.slice a n c, .int .i64 (back : Int)] w fun e w' => e = .returned (.bool true) ∧ Below w.heap.size w w' := by
  have Hz := Lib.hid hz; clear hz
  have d1 : decide ((30 : Int) < (n : Int)) = false := by simp; omega
  have d2 : decide ((back : Int) < 0) = false := by simp
  have d3 : decide ((n : Int) < (back : Int)) = false := by simp; omega
  obtain ⟨i0, hi, hz0, hz1, hz2⟩ := info_parts Tryd.infoStr
  go_enter Tryd.func6, Tryd.ntmps6
  go_wp2_with fail
  refine (one_any hg).mono ?_
  rintro e w1 ⟨rfl, hb1⟩
  go_wp2_with fail
  have hown0 : (w1.alloc (.cells #[.string ⟨#[]⟩] 9)).ownsRow w.heap.size 9 1 (.slice (some ⟨w1.heap.size, 0, none⟩) 1 1) 1 (depthCells [0]) :=
    ⟨by simp [depthCells], .inr ⟨w1.heap.size, 1, #[.string ⟨#[]⟩], rfl, hb1.size, heap_alloc_new _ _, by simp, by simp [maxLen], by simp, by simp [depthCells, blanks, toBA]⟩⟩
  go_loopw [6, 7, 8, 9] (fun s inn ins i wr => ∃ ds : List Nat, ds.length ≤ n ∧ i = .int .i64 ds.length ∧ DeepSt w wr ds s inn ins) (fun _ _ _ i _ => n - (intOf i).toNat)
  case atStart => exact ⟨[], by simp, rfl, trivial, by simp, ⟨_, rfl, rfl⟩, rfl, hown0, hb1.alloc hb1.size _⟩
  case round =>
    obtain ⟨ds, hds, rfl, hup, hle, ⟨S, rfl, hS⟩, rfl, hown, hbel⟩ := hrel
    have Hup := Lib.hid hup; have Hle := Lib.hid hle; have HS := Lib.hid hS
    clear hup hle hS hown0 hb1
    by_cases hlt : ds.length < n
    · obtain ⟨b, o, rfl, hbw, hcell⟩ := Hz.out ds.length (by omega)
      have hcell2 := (hbel.cell (p := ⟨b, o + ds.length, none⟩) hbw).trans hcell
      obtain ⟨z, hzz⟩ : ∃ z, z = zs[ds.length] := ⟨_, rfl⟩
      rw [← hzz] at hcell2
      clear hcell hzz
      go_wp2_with fail
      refine (pick_any z _).mono ?_
      rintro e w2 ⟨rfl, rfl⟩
      obtain ⟨q, hq⟩ : ∃ q, q = pickN z := ⟨_, rfl⟩
      have hq5 : q < 5 := by rw [hq]; exact pickN_lt z
      rw [← hq]
      obtain ⟨d0, hd0⟩ : ∃ d0, d0 = (0 :: ds).getLastD 0 := ⟨_, rfl⟩
      rw [← hd0]
      have hd150 : d0 ≤ 150 := by
        rw [hd0]
        rcases hl : (0 :: ds).getLast? with _ | y
        · simp at hl
        · have hy : (0 :: ds).getLastD 0 = y := by rw [List.getLastD_eq_getLast?, hl]; rfl
          rw [hy]
          rcases List.mem_cons.1 (List.mem_of_getLast? hl) with rfl | hm
          · omega
          · have := Hle.out y hm; omega
      have Hd0 := Lib.hid hd0; clear hd0 hq
      go_wp2_with fail
      go_loop [7, 11] (fun inn j => ∃ m : Nat, m ≤ 1 + q ∧ j = .int .i64 m ∧ inn = .string (blanks (d0 + m))) (fun _ j => 6 - (intOf j).toNat)
      case atStart => exact ⟨0, by omega, rfl, rfl⟩
      case round =>
        obtain ⟨m, hm, rfl, rfl⟩ := hrel
        have hsz : (blanks (d0 + m)).size ≤ 160 := by rw [blanks_size]; omega
        by_cases hmq : m < 1 + q
        · have t1 : decide ((m : Int) < 1 + (q : Int)) = true := by simp; omega
          go_wp2_with fail
          go_round
          case rel => exact ⟨m + 1, by omega, by go_num, by rw [blanks_snoc]; rfl⟩
          case measure => simp [intOf]; omega
        · have t1 : decide ((m : Int) < 1 + (q : Int)) = false := by simp; omega
          have Hm2 := Lib.hid (show m = 1 + q by omega)
          have hm1 : 1 ≤ m := by omega
          have hm5 : m ≤ 5 := by omega
          clear hmq hm
          have hSs : S.size ≤ 4600 := size_S HS.out (by have := Hle.out; intro d hd; have := this d hd; omega) (by omega)
          have hd5 : d0 ≤ 5 * ds.length := by
            rw [Hd0.out]
            rcases hl : (0 :: ds).getLast? with _ | y
            · simp at hl
            · have hy : (0 :: ds).getLastD 0 = y := by rw [List.getLastD_eq_getLast?, hl]; rfl
              rw [hy]
              rcases List.mem_cons.1 (List.mem_of_getLast? hl) with rfl | hm
              · omega
              · exact Hle.out y hm
          go_wp2_with (at_builtin; refine wpList_append_own (wr.alloc (.cells #[.string (blanks (d0 + m))] 9)) rfl (.tmp 57) (.tmp 59) 27 rfl w.heap.size 9 i0 _ 1 16 Tryd.underlying27 hi hz0 hz1 hz2 rfl (by decide) _ (ds.length + 1) (depthCells (0 :: ds)) rfl (hown.alloc _) ⟨wr.heap.size, 0, none⟩ 1 1 [.string (blanks (d0 + m))] rfl rfl (World.news_of_block (cs := #[.string (blanks (d0 + m))]) (heap_alloc_new wr _)) (by simp [Value.oneCell']) (by unfold maxLen; omega) (by omega) (by have := hbel.size; simp; omega) ?_; intro v' wq hown1 hgrow1 _)
          go_roundw
          case rel =>
            refine ⟨_, _, _, _, ⟨ds ++ [d0 + m], by rw [List.length_append]; exact hlt, ?_, ?_, ?_, ⟨_, rfl, ?_⟩, ?_, ?_, ?_⟩, rfl, rfl, rfl, rfl⟩
            · simp
            · exact upFrom_snoc 0 ds _ Hup.out (by rw [← Hd0.out]; omega)
            · intro d hd
              simp only [List.length_append, List.length_cons, List.length_nil]
              rcases List.mem_append.1 hd with hd | hd
              · have := Hle.out d hd; omega
              · simp at hd; omega
            · simp [bodyD_snoc, HS.out, blanks, toBA]
            · rw [← List.cons_append, List.getLastD_concat]
            · have e : depthCells (0 :: (ds ++ [d0 + m])) = depthCells (0 :: ds) ++ [.string (blanks (d0 + m))] := by simp [depthCells]
              rw [e]
              simpa using hown1
            · exact below_app hbel hown hgrow1 hbel.size
          case measure => simp [intOf]; omega
    · have hdn : ds.length = n := by omega
      have d4 : decide ((ds.length : Int) < (n : Int)) = false := by simp; omega
      have hSs : S.size ≤ 4600 := size_S HS.out (by have := Hle.out; intro d hd; have := this d hd; omega) (by omega)
      obtain ⟨g, cap, rfl, hg0, hg1, hcap, hcells⟩ := row_cells hown (by omega)
      obtain ⟨k, hk⟩ : ∃ k, k = n - back := ⟨_, rfl⟩
      have hkn : k < ds.length + 1 := by omega
      have hw1 : IntKind.i64.wrap ((n : Int) - (back : Int)) = (k : Int) := by
        rw [show (n : Int) - (back : Int) = (k : Int) by omega]
        exact wrap_small k (by omega)
      obtain ⟨e, he⟩ : ∃ e, (0 :: ds)[k]? = some e := ⟨_, List.getElem?_eq_getElem (by simpa using hkn)⟩
      have hck : wr.cell? ⟨g, k, none⟩ = some (.string (blanks e)) := by
        rw [hcells k hkn]; unfold depthCells; rw [List.getElem?_map, he]; rfl
      have he150 : e ≤ 150 := by
        rcases List.mem_cons.1 (List.mem_of_getElem? he) with rfl | hm
        · omega
        · have := Hle.out e hm; omega
      have hbs : (blanks e).size ≤ 150 := by rw [blanks_size]; omega
      have he2 : (ds.reverse ++ [0])[back]? = some e := by
        rw [← he, show ds.reverse ++ [0] = (0 :: ds).reverse by simp, List.getElem?_reverse (by simp; omega)]
        congr 1
        simp; omega
      obtain ⟨ts, hts, hcd⟩ := lexL_deep ds back Hup.out (by omega) e he2
      have Hcd := Lib.hid hcd; have He2 := Lib.hid he2; have He := Lib.hid he; have Hhk := Lib.hid hk
      clear hcells hcd he2 he hk hown
      have hgr : GlobE wr.heap.size wr := (hg.below hbel).mono hbel.size
      have hsz2 : (S ++ blanks e ++ (⟨#[99, 10]⟩ : ByteArray)).size ≤ 6000 := by simp only [ByteArray.size_append]; show S.size + (blanks e).size + 2 ≤ 6000; omega
      have hdata : (S ++ blanks e ++ (⟨#[99, 10]⟩ : ByteArray)).data.toList = deepText ds e := by simp [deepText, HS.out, blanks, toBA]
      go_wp2_with fail
      refine (lex_any (S ++ blanks e ++ (⟨#[99, 10]⟩ : ByteArray)) hsz2 hgr).mono ?_
      rintro e' w3 ⟨hb3, h⟩
      rw [hdata, hts] at h
      obtain ⟨vo, rfl, hown3⟩ := h
      have hpos := lexL_pos hts
      have hlen := lexL_len hts
      obtain ⟨g3, cap3, rfl, _, _, hc3⟩ := toks_row hown3 hpos
      have hbl : Below w.heap.size w w3 := below_grow hbel hbel.size hb3
      have hl6 : ts.length ≤ 20000 := by rw [← hdata] at hlen; simp at hlen; simp only [ByteArray.size_append] at hsz2; have : S.size + (blanks e).size + 2 ≤ 6000 := hsz2; omega
      have Hc3 := Lib.hid hc3
      clear hc3 hown3 hdata hsz2 hgr hb3 hbel hck hlen hts
      go_wp2_with fail
      go_loop [14, 15, 16, 17] (fun x y z i => ∃ j : Nat, j ≤ ts.length ∧ i = .int .i64 j ∧ x = .int .i64 ((countD (ts.take j) (0, 0, 0)).1 : Nat) ∧ y = .int .i64 ((countD (ts.take j) (0, 0, 0)).2.1 : Nat) ∧ z = .int .i64 ((countD (ts.take j) (0, 0, 0)).2.2 : Nat)) (fun _ _ _ i => ts.length - (intOf i).toNat)
      case atStart => exact ⟨0, by omega, rfl, rfl, rfl, rfl⟩
      case round =>
        obtain ⟨j, hj, rfl, rfl, rfl, rfl⟩ := hrel
        by_cases hjl : j < ts.length
        · obtain ⟨x1, y1, z1, hx⟩ : ∃ x1 y1 z1, countD (ts.take j) (0, 0, 0) = (x1, y1, z1) := ⟨_, _, _, rfl⟩
          have hle := countD_le (ts.take j) 0 (0, 0, 0) ⟨by simp, by simp, by simp⟩
          rw [hx] at hle ⊢
          simp only [List.length_take] at hle ⊢
          have hx1 : x1 ≤ 20000 := by omega
          have hy1 : y1 ≤ 20000 := by omega
          have hz1' : z1 ≤ 20000 := by omega
          have hn := countD_take hjl (0, 0, 0)
          rw [hx] at hn
          obtain ⟨k1, k2, _⟩ := Hc3.out j hjl
          obtain ⟨kd, hkd⟩ : ∃ kd, kd = ts[j].kind := ⟨_, rfl⟩
          obtain ⟨tx, htx⟩ : ∃ tx, tx = ts[j].text := ⟨_, rfl⟩
          rw [← hkd] at k1; rw [← htx] at k2
          unfold stepD at hn
          rw [← hkd, ← htx] at hn
          clear hle hx hkd htx
          by_cases c1 : kd = kIndent
          · subst c1
            rw [if_pos rfl] at hn
            have Hn := Lib.hid hn; clear hn
            have k1' : w3.cell? ⟨g3, j * 3, none⟩ = some (.string ⟨#[105, 110, 100, 101, 110, 116]⟩) := k1
            clear k1
            go_wp2_with fail
            go_round
            case rel => exact ⟨j + 1, by omega, by go_num, by rw [Hn.out]; go_num, by rw [Hn.out], by rw [Hn.out]⟩
            case measure => simp [intOf]; omega
          · rw [if_neg c1] at hn
            have f1 : ((toBA kd).toList == [105, 110, 100, 101, 110, 116]) = false := toBA_ne c1
            by_cases c2 : kd = kDedent
            · subst c2
              rw [if_pos rfl] at hn
              have Hn := Lib.hid hn; clear hn
              have k1' : w3.cell? ⟨g3, j * 3, none⟩ = some (.string ⟨#[100, 101, 100, 101, 110, 116]⟩) := k1
              clear k1 f1
              go_wp2_with fail
              go_round
              case rel => exact ⟨j + 1, by omega, by go_num, by rw [Hn.out], by rw [Hn.out]; go_num, by rw [Hn.out]⟩
              case measure => simp [intOf]; omega
            · rw [if_neg c2] at hn
              have f2 : ((toBA kd).toList == [100, 101, 100, 101, 110, 116]) = false := toBA_ne c2
              by_cases c3 : kd = kName
              · subst c3
                rw [if_pos rfl] at hn
                have k1' : w3.cell? ⟨g3, j * 3, none⟩ = some (.string ⟨#[110, 97, 109, 101]⟩) := k1
                clear k1 f1 f2
                by_cases c4 : tx = [99]
                · subst c4
                  rw [if_pos rfl] at hn
                  have k2' : w3.cell? ⟨g3, j * 3 + 1, none⟩ = some (.string ⟨#[99]⟩) := k2
                  have Hn := Lib.hid hn; clear hn k2
                  go_wp2_with fail
                  go_round
                  case rel => exact ⟨j + 1, by omega, by go_num, by rw [Hn.out], by rw [Hn.out], by rw [Hn.out]⟩
                  case measure => simp [intOf]; omega
                · rw [if_neg c4] at hn
                  have f4 : ((toBA tx).toList == [99]) = false := toBA_ne c4
                  have Hn := Lib.hid hn; clear hn
                  go_wp2_with fail
                  go_round
                  case rel => exact ⟨j + 1, by omega, by go_num, by rw [Hn.out], by rw [Hn.out], by rw [Hn.out]⟩
                  case measure => simp [intOf]; omega
              · rw [if_neg c3] at hn
                have f3 : ((toBA kd).toList == [110, 97, 109, 101]) = false := toBA_ne c3
                have Hn := Lib.hid hn; clear hn
                go_wp2_with fail
                go_round
                case rel => exact ⟨j + 1, by omega, by go_num, by rw [Hn.out], by rw [Hn.out], by rw [Hn.out]⟩
                case measure => simp [intOf]; omega
        · have hjn : j = ts.length := by omega
          subst hjn
          rw [List.take_length, Hcd.out]
          have t1 : decide ((ts.length : Int) < (ts.length : Int)) = false := by simp
          have t2 : ((ds.length : Int) == (n : Int)) = true := by rw [beq_iff_eq]; omega
          go_wp2_with fail
          refine bodyPost_ret (results_tmp rfl _ _ _) rfl ?_
          exact ⟨rfl, hbl⟩

/-- LexDeep, of whatever slice and number. -/
theorem lexDeep_any {w : World} (a : Option Addr) (n c : Nat) (zs : List Int) (back : Int) (hg : GlobE w.heap.size w) (hn : zs.length = n)
    (hz : ∀ j (hj : j < zs.length), ∃ b o, a = some ⟨b, o, none⟩ ∧ b < w.heap.size ∧ w.cell? ⟨b, o + j, none⟩ = some (.int .i64 zs[j])) :
    Calls Tryd.prog 6 #[.slice a n c, .int .i64 back] w fun e w' => e = .returned (.bool true) ∧ Below w.heap.size w w' := by
  by_cases hb : 30 < n ∨ back < 0 ∨ (n : Int) < back
  · exact lexDeep_short a n c back hg hb
  · obtain ⟨k, rfl⟩ : ∃ k : Nat, back = (k : Int) := ⟨back.toNat, by omega⟩
    exact lexDeep_main a n c zs k hg hn (by omega) (by omega) hz

end Go.Proofs.YtdoaeapahgmfoaaDoor
