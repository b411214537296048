/- The document's TokensText: exactly. -/
import Derived.Test.YtdoaeapahgmfoaaGreatDoorY3
import Derived.Test.YtdoaeapahgmfoaaGreatDoorSA
namespace Go.Proofs.YtdoaeapahgmfoaaGreatDoor
open Go.RowKit

/-- A token that came in. -/
structure TokI where
  kind : List UInt8
  text : List UInt8
  at_ : Int
def ki (t : TokI) : List UInt8 × List UInt8 := (t.kind, t.text)
/-- Tokens that a slice holds, the slice of the caller's. -/
structure RtAt (w : World) (a : Option Addr) (ts : List TokI) : Prop where
  at_ : 0 < ts.length → ∃ b o, a = some ⟨b, o, none⟩ ∧ b < w.heap.size ∧ ∀ j (hj : j < ts.length), w.cell? ⟨b, o + j * 3, none⟩ = some (.string (toBA ts[j].kind)) ∧ w.cell? ⟨b, o + j * 3 + 1, none⟩ = some (.string (toBA ts[j].text)) ∧ w.cell? ⟨b, o + j * 3 + 2, none⟩ = some (.int .i64 ts[j].at_)
theorem RtAt.below {w w' : World} {a : Option Addr} {ts : List TokI} (h : RtAt w a ts) (hb : Below w.heap.size w w') : RtAt w' a ts := by
  refine ⟨fun hp => ?_⟩
  obtain ⟨b, o, rfl, hl, hc⟩ := h.at_ hp
  refine ⟨b, o, rfl, by have := hb.size; omega, fun j hj => ?_⟩
  obtain ⟨c0, c1, c2⟩ := hc j hj
  exact ⟨(hb.cell (p := ⟨b, _, none⟩) hl).trans c0, (hb.cell (p := ⟨b, _, none⟩) hl).trans c1, (hb.cell (p := ⟨b, _, none⟩) hl).trans c2⟩

theorem refL_cons (k x : List UInt8) (r : List (List UInt8 × List UInt8)) (d : Nat) (bg : Bool) (l : List UInt8) : refL ((k, x) :: r) d bg l =
    if k = kNewline then chkL d (l ++ [10]) (refL r d false (l ++ [10]))
    else if k = kIndent then chkL (d + 1) l (refL r (d + 1) bg l)
    else if k = kDedent then (if d = 0 then none else chkL (d - 1) l (refL r (d - 1) bg l))
    else if k = kEnd then chkL d l (refL r d bg l)
    else chkL d (l ++ pieceL k x d bg) (refL r d true (l ++ pieceL k x d bg)) := rfl
theorem refT_none {ks : List (List UInt8 × List UInt8)} (h : refL ks 0 false [] = none) : refT ks = none := by unfold refT; rw [h]
theorem refT_no {ks : List (List UInt8 × List UInt8)} {l : List UInt8} (h : refL ks 0 false [] = some l) (hr : readsL l ks = false) : refT ks = none := by
  unfold refT; rw [h]; simp only; rw [if_neg (by rw [hr]; decide)]
theorem refT_yes {ks : List (List UInt8 × List UInt8)} {l : List UInt8} (h : refL ks 0 false [] = some l) (hr : readsL l ks = true) : refT ks = some l := by
  unfold refT; rw [h]; simp only; rw [if_pos hr]
theorem chk_long {d : Nat} {l : List UInt8} {o x : Option (List UInt8)} (h : x = chkL d l o) (hl : 6000 < l.length) : x = none := by rw [h]; exact if_pos (.inl hl)
theorem chk_fine {d : Nat} {l : List UInt8} {o x : Option (List UInt8)} (h : x = chkL d l o) (hl : ¬ 6000 < l.length) (hd : d ≤ 2000) : x = o := by rw [h]; exact if_neg (by omega)

def refAns : Option (List UInt8) → Value
  | none => .tuple #[.string ⟨#[]⟩, .bool false]
  | some l => .tuple #[.string (toBA l), .bool true]

set_option maxRecDepth 100000 in
set_option maxHeartbeats 20000000 in
theorem tokensText_any {w : World} (ts : List TokI) (a : Option Addr) (cap : Nat) (hA : RtAt w a ts) (hn : ts.length ≤ 600) (hx : ∀ t ∈ ts, t.text.length ≤ 3000) :
    Calls Tryz.prog 27 #[.slice a ts.length cap] w fun e w' => Below w.heap.size w w' ∧ e = .returned (refAns (refT (ts.map ki))) := by
  go_enter Tryz.func27, Tryz.ntmps27
  go_wp2_with fail
  go_loopw [4, 5, 6, 7] (fun o inn bg i wr => ∃ (j d : Nat) (bb : Bool) (l : List UInt8) (O : ByteArray), j ≤ ts.length ∧ i = .int .i64 j ∧ inn = .int .i64 d ∧ d ≤ j ∧ bg = .bool bb ∧ o = .string O ∧ O.size ≤ 6000 ∧
    Below w.heap.size w wr ∧ O.data.toList = l ∧ refL (ts.map ki) 0 false [] = refL ((ts.map ki).drop j) d bb l) (fun _ _ _ i _ => ts.length - (intOf i).toNat)
  case atStart => exact ⟨0, 0, false, [], ⟨#[]⟩, by omega, rfl, rfl, by omega, rfl, rfl, by decide, Below.refl _ _, rfl, rfl⟩
  case round =>
    obtain ⟨j, d, bb, l, O, hj, rfl, rfl, hd, rfl, rfl, hO, hbel, hOl, hP⟩ := hrel
    have HP := Lib.hid hP; have HOl := Lib.hid hOl
    clear hP hOl
    by_cases hjl : j < ts.length
    · have t1 : decide ((j : Int) < (ts.length : Int)) = true := by simp; omega
      obtain ⟨b, o, rfl, hbl, hc⟩ := (hA.below hbel).at_ (by omega)
      obtain ⟨k0, k1, k2⟩ := hc j hjl
      have hxl : ts[j].text.length ≤ 3000 := hx _ (List.getElem_mem hjl)
      have he : (ts.map ki).drop j = (ts[j].kind, ts[j].text) :: (ts.map ki).drop (j + 1) := by
        rw [List.drop_eq_getElem_cons (by simpa using hjl), List.getElem_map]
        try rfl
      generalize ts[j].kind = kd at k0 he
      generalize ts[j].text = tx at k1 he hxl
      generalize ts[j].at_ = pl at k2
      have He := Lib.hid he
      clear he hc
      go_upto_region 8 with fail
      have hbA : Below wr.heap.size wr (wr.alloc (.cells #[.string (toBA kd), .string (toBA tx), .int .i64 pl] 115)) := (Below.refl _ _).alloc (Nat.le_refl _) _
      have a0 : (wr.alloc (.cells #[.string (toBA kd), .string (toBA tx), .int .i64 pl] 115)).cell? ⟨wr.heap.size, 0, none⟩ = some (.string (toBA kd)) := by simp
      have a1 : (wr.alloc (.cells #[.string (toBA kd), .string (toBA tx), .int .i64 pl] 115)).cell? ⟨wr.heap.size, 1, none⟩ = some (.string (toBA tx)) := by simp
      have hlA : wr.heap.size < (wr.alloc (.cells #[.string (toBA kd), .string (toBA tx), .int .i64 pl] 115)).heap.size := by simp
      clear k0 k1 k2
      generalize wr.alloc (.cells #[.string (toBA kd), .string (toBA tx), .int .i64 pl] 115) = W at hbA a0 a1 hlA ⊢
      generalize wr.heap.size = N at a0 a1 hlA ⊢
      have hbW : Below w.heap.size w W := below_grow hbel hbel.size hbA
      have hWs : w.heap.size ≤ W.heap.size := hbW.size
      clear hbA hbel
      have v1 : decide ((d : Int) < 0) = false := by rw [decide_eq_false_iff_not]; omega
      have v2 : decide (2000 < (d : Int)) = false := by simp; omega
      by_cases c1 : kd = kNewline
      · have hch : refL (ts.map ki) 0 false [] = chkL d (l ++ [10]) (refL ((ts.map ki).drop (j + 1)) d false (l ++ [10])) := by rw [HP.out, He.out, refL_cons, if_pos c1]
        have Hch := Lib.hid hch; clear hch
        subst c1
        have a0' : W.cell? ⟨N, 0, none⟩ = some (.string ⟨#[110, 101, 119, 108, 105, 110, 101]⟩) := a0
        clear a0
        go_wp2_with fail
        refine (byte_any 10 W).mono ?_
        rintro e w4 ⟨rfl, hb4⟩
        have hbl4 : Below w.heap.size w w4 := below_grow hbW hWs hb4
        clear hb4
        go_upto_region 27 with fail
        obtain ⟨P, hP0⟩ : ∃ P, P = O ++ (⟨#[10]⟩ : ByteArray) := ⟨_, rfl⟩
        have hPd : P.data.toList = l ++ [10] := by rw [hP0]; simp [HOl.out]
        rw [← hP0]
        clear hP0
        have HPd := Lib.hid hPd; clear hPd
        by_cases hlong : 6000 < P.size
        · have u1 : decide (6000 < (P.size : Int)) = true := by simp; omega
          have hno := refT_none (chk_long Hch.out (by rw [← HPd.out]; simpa using hlong))
          have Hno := Lib.hid hno; clear hno
          go_wp2_with fail
          refine bodyPost_ret (results_tmp2 rfl _ _ _) rfl ?_
          exact ⟨hbl4, by rw [Hno.out]; rfl⟩
        · have u1 : decide (6000 < (P.size : Int)) = false := by simp; omega
          have hnx := chk_fine Hch.out (by rw [← HPd.out]; simpa using hlong) (by omega)
          have Hnx := Lib.hid hnx; clear hnx
          have hl5 : P.size ≤ 6000 := by omega
          go_wp2_with fail
          go_roundw
          case rel => exact ⟨j + 1, d, false, _, P, by omega, by go_num, rfl, by omega, rfl, rfl, hl5, hbl4, HPd.out, Hnx.out⟩
          case measure => simp [intOf]; omega
      have f1 : ((toBA kd).toList == [110, 101, 119, 108, 105, 110, 101]) = false := m_ne c1
      have u0 : decide (6000 < (O.size : Int)) = false := by simp; omega
      have hlO : ¬ 6000 < l.length := by rw [← HOl.out]; simpa using hO
      by_cases c2 : kd = kIndent
      · have hch : refL (ts.map ki) 0 false [] = chkL (d + 1) l (refL ((ts.map ki).drop (j + 1)) (d + 1) bb l) := by rw [HP.out, He.out, refL_cons, if_neg c1, if_pos c2]
        have hnx := chk_fine hch hlO (by omega)
        have Hnx := Lib.hid hnx; clear hch hnx
        subst c2
        have a0' : W.cell? ⟨N, 0, none⟩ = some (.string ⟨#[105, 110, 100, 101, 110, 116]⟩) := a0
        clear f1 a0 c1
        have u1 : decide (((d : Int) + 1) < 0) = false := by simp; omega
        have u2 : decide (2000 < ((d : Int) + 1)) = false := by simp; omega
        go_wp2_with fail
        go_roundw
        case rel => exact ⟨j + 1, d + 1, bb, l, O, by omega, by go_num, by go_num, by omega, rfl, rfl, hO, hbW, HOl.out, Hnx.out⟩
        case measure => simp [intOf]; omega
      have f2 : ((toBA kd).toList == [105, 110, 100, 101, 110, 116]) = false := m_ne c2
      by_cases c3 : kd = kDedent
      · have hch : refL (ts.map ki) 0 false [] = if d = 0 then none else chkL (d - 1) l (refL ((ts.map ki).drop (j + 1)) (d - 1) bb l) := by rw [HP.out, He.out, refL_cons, if_neg c1, if_neg c2, if_pos c3]
        subst c3
        have a0' : W.cell? ⟨N, 0, none⟩ = some (.string ⟨#[100, 101, 100, 101, 110, 116]⟩) := a0
        clear f1 f2 a0 c1 c2
        by_cases hd0 : d = 0
        · rw [if_pos hd0] at hch
          have hno := refT_none hch
          have Hno := Lib.hid hno; clear hno
          clear hch v1 v2
          subst hd0
          go_wp2_with fail
          refine bodyPost_ret (results_tmp2 rfl _ _ _) rfl ?_
          exact ⟨hbW, by rw [Hno.out]; rfl⟩
        · rw [if_neg hd0] at hch
          have hnx := chk_fine hch hlO (by omega)
          obtain ⟨d1, hd1⟩ : ∃ d1, d = d1 + 1 := ⟨d - 1, by omega⟩
          subst hd1
          have Hnx := Lib.hid hnx; clear hnx hch v1 v2
          have u1 : IntKind.i64.wrap (((d1 + 1 : Nat) : Int) - 1) = (d1 : Int) := by rw [show ((d1 + 1 : Nat) : Int) - 1 = (d1 : Int) by omega]; exact m_wrap d1 (by omega)
          have u2 : decide ((d1 : Int) < 0) = false := by simp
          have u3 : decide (2000 < (d1 : Int)) = false := by simp; omega
          go_wp2_with fail
          go_roundw
          case rel => exact ⟨j + 1, d1, bb, l, O, by omega, by go_num, rfl, by omega, rfl, rfl, hO, hbW, HOl.out, Hnx.out⟩
          case measure => simp [intOf]; omega
      have f3 : ((toBA kd).toList == [100, 101, 100, 101, 110, 116]) = false := m_ne c3
      by_cases c4 : kd = kEnd
      · have hch : refL (ts.map ki) 0 false [] = chkL d l (refL ((ts.map ki).drop (j + 1)) d bb l) := by rw [HP.out, He.out, refL_cons, if_neg c1, if_neg c2, if_neg c3, if_pos c4]
        have hnx := chk_fine hch hlO (by omega)
        have Hnx := Lib.hid hnx; clear hch hnx
        subst c4
        have a0' : W.cell? ⟨N, 0, none⟩ = some (.string ⟨#[101, 110, 100]⟩) := a0
        clear f1 f2 f3 a0 c1 c2 c3
        go_wp2_with fail
        go_roundw
        case rel => exact ⟨j + 1, d, bb, l, O, by omega, by go_num, rfl, by omega, rfl, rfl, hO, hbW, HOl.out, Hnx.out⟩
        case measure => simp [intOf]; omega
      have f4 : ((toBA kd).toList == [101, 110, 100]) = false := m_ne c4
      have hch : refL (ts.map ki) 0 false [] = chkL d (l ++ pieceL kd tx d bb) (refL ((ts.map ki).drop (j + 1)) d true (l ++ pieceL kd tx d bb)) := by
        rw [HP.out, He.out, refL_cons, if_neg c1, if_neg c2, if_neg c3, if_neg c4]
      have Hch := Lib.hid hch; clear hch c1 c2 c3 c4 u0
      have htx : (toBA tx).size ≤ 3000 := by show tx.toArray.size ≤ _; simpa using hxl
      have hpl : pieceL kd tx d bb = (if bb = true then [32] else Lib.repeatL [32, 32, 32, 32] d) ++ textS kd tx := rfl
      have Hpl := Lib.hid hpl; clear hpl
      rcases bb with _ | _
      · go_wp2_with fail
        go_loop [4, 9] (fun ov kv => ∃ (m : Nat) (Q : ByteArray), m ≤ d ∧ kv = .int .i64 m ∧ ov = .string Q ∧ Q.size ≤ 6000 + 4 * m ∧ Q.data.toList = l ++ Lib.repeatL [32, 32, 32, 32] m) (fun _ kv => d - (intOf kv).toNat)
        case atStart => exact ⟨0, O, by omega, rfl, rfl, by omega, by rw [HOl.out]; simp [Lib.repeatL]⟩
        case round =>
          obtain ⟨m, Q, hm, rfl, rfl, hQs, hQ⟩ := hrel
          have HQ := Lib.hid hQ; clear hQ
          by_cases hmd : m < d
          · have u1 : decide ((m : Int) < (d : Int)) = true := by simp; omega
            go_wp2_with fail
            go_round
            case rel => exact ⟨m + 1, _, by omega, by go_num, rfl, by rw [ByteArray.size_append]; show Q.size + 4 ≤ _; omega, by rw [Lib.repeatL_add, Lib.repeatL_one]; simp [HQ.out]⟩
            case measure => simp [intOf]; omega
          · have u1 : decide ((m : Int) < (d : Int)) = false := by simp; omega
            obtain rfl : m = d := by omega
            by_cases hk : kd = kStr
            · have hts : textS kd tx = quotedL tx := if_pos hk
              subst hk
              have a0' : W.cell? ⟨N, 0, none⟩ = some (.string ⟨#[115, 116, 114]⟩) := a0
              have Hts := Lib.hid hts
              clear a0 f1 f2 f3 f4 hts
              go_wp2_with fail
              refine (quoted_any (toBA tx) W (by show tx.toArray.size ≤ _; simpa using hxl)).mono ?_
              rintro e w4 ⟨rfl, hb4⟩
              have hbl4 : Below w.heap.size w w4 := below_grow hbW hWs hb4
              have hS : (toBA (quotedL (toBA tx).data.toList)).size ≤ 12002 := by
                have h1 := qL_len tx
                show (quotedL tx).toArray.size ≤ 12002
                simp [quotedL]; omega
              have HS : Hid ((toBA (quotedL (toBA tx).data.toList)).data.toList = quotedL tx) := Lib.hid rfl
              generalize toBA (quotedL (toBA tx).data.toList) = S at hS HS ⊢
              clear hb4
              go_upto_region 27 with fail
              obtain ⟨P, hP0⟩ : ∃ P, P = Q ++ S := ⟨_, rfl⟩
              have hPd : P.data.toList = l ++ pieceL kStr tx m false := by rw [hP0, Hpl.out, Hts.out]; simp [HQ.out, HS.out]
              rw [← hP0]
              clear hP0
              have HPd := Lib.hid hPd; clear hPd
              by_cases hlong : 6000 < P.size
              · have u1 : decide (6000 < (P.size : Int)) = true := by simp; omega
                have hno := refT_none (chk_long Hch.out (by rw [← HPd.out]; simpa using hlong))
                have Hno := Lib.hid hno; clear hno
                go_wp2_with fail
                refine bodyPost_ret (results_tmp2 rfl _ _ _) rfl ?_
                exact ⟨hbl4, by rw [Hno.out]; rfl⟩
              · have u1 : decide (6000 < (P.size : Int)) = false := by simp; omega
                have hnx := chk_fine Hch.out (by rw [← HPd.out]; simpa using hlong) (by omega)
                have Hnx := Lib.hid hnx; clear hnx
                have hl5 : P.size ≤ 6000 := by omega
                go_wp2_with fail
                go_roundw
                case rel => exact ⟨j + 1, m, true, _, P, by omega, by go_num, rfl, by omega, rfl, rfl, hl5, hbl4, HPd.out, Hnx.out⟩
                case measure => simp [intOf]; omega
            · have hts : textS kd tx = tx := if_neg hk
              have f5 : ((toBA kd).toList == [115, 116, 114]) = false := m_ne hk
              have Hts := Lib.hid hts
              clear hts hk
              go_upto_region 27 with fail
              obtain ⟨P, hP0⟩ : ∃ P, P = Q ++ toBA tx := ⟨_, rfl⟩
              have hPd : P.data.toList = l ++ pieceL kd tx m false := by rw [hP0, Hpl.out, Hts.out]; simp [HQ.out, toBA]
              rw [← hP0]
              clear hP0
              have HPd := Lib.hid hPd; clear hPd
              by_cases hlong : 6000 < P.size
              · have u1 : decide (6000 < (P.size : Int)) = true := by simp; omega
                have hno := refT_none (chk_long Hch.out (by rw [← HPd.out]; simpa using hlong))
                have Hno := Lib.hid hno; clear hno
                go_wp2_with fail
                refine bodyPost_ret (results_tmp2 rfl _ _ _) rfl ?_
                exact ⟨hbW, by rw [Hno.out]; rfl⟩
              · have u1 : decide (6000 < (P.size : Int)) = false := by simp; omega
                have hnx := chk_fine Hch.out (by rw [← HPd.out]; simpa using hlong) (by omega)
                have Hnx := Lib.hid hnx; clear hnx
                have hl5 : P.size ≤ 6000 := by omega
                go_wp2_with fail
                go_roundw
                case rel => exact ⟨j + 1, m, true, _, P, by omega, by go_num, rfl, by omega, rfl, rfl, hl5, hbW, HPd.out, Hnx.out⟩
                case measure => simp [intOf]; omega
      · go_wp2_with fail
        go_loop [4, 9] (fun ov kv => ov = .string (O ++ (⟨#[32]⟩ : ByteArray)) ∧ kv = .int .i64 0) (fun _ _ => 0)
        case atStart => exact ⟨rfl, rfl⟩
        case round =>
          obtain ⟨rfl, rfl⟩ := hrel
          have u1 : (decide ((0 : Int) < (d : Int)) = true ∧ decide (0 < d) = true) ∨ (decide ((0 : Int) < (d : Int)) = false ∧ decide (0 < d) = false) := by
            by_cases h : 0 < d
            · exact .inl ⟨by rw [decide_eq_true_iff]; omega, by rw [decide_eq_true_iff]; omega⟩
            · exact .inr ⟨by rw [decide_eq_false_iff_not]; omega, by rw [decide_eq_false_iff_not]; omega⟩
          obtain ⟨Q, hQ0⟩ : ∃ Q, Q = O ++ (⟨#[32]⟩ : ByteArray) := ⟨_, rfl⟩
          have hQ : Q.data.toList = l ++ [32] := by rw [hQ0]; simp [HOl.out]
          have hQs : Q.size ≤ 6001 := by rw [hQ0, ByteArray.size_append]; show O.size + 1 ≤ _; omega
          rw [← hQ0]
          have HQ := Lib.hid hQ; clear hQ hQ0
          rcases u1 with ⟨u1, u2⟩ | ⟨u1, u2⟩
          ·
            by_cases hk : kd = kStr
            · have hts : textS kd tx = quotedL tx := if_pos hk
              subst hk
              have a0' : W.cell? ⟨N, 0, none⟩ = some (.string ⟨#[115, 116, 114]⟩) := a0
              have Hts := Lib.hid hts
              clear a0 f1 f2 f3 f4 hts
              go_wp2_with fail
              refine (quoted_any (toBA tx) W (by show tx.toArray.size ≤ _; simpa using hxl)).mono ?_
              rintro e w4 ⟨rfl, hb4⟩
              have hbl4 : Below w.heap.size w w4 := below_grow hbW hWs hb4
              have hS : (toBA (quotedL (toBA tx).data.toList)).size ≤ 12002 := by
                have h1 := qL_len tx
                show (quotedL tx).toArray.size ≤ 12002
                simp [quotedL]; omega
              have HS : Hid ((toBA (quotedL (toBA tx).data.toList)).data.toList = quotedL tx) := Lib.hid rfl
              generalize toBA (quotedL (toBA tx).data.toList) = S at hS HS ⊢
              clear hb4
              go_upto_region 27 with fail
              obtain ⟨P, hP0⟩ : ∃ P, P = Q ++ S := ⟨_, rfl⟩
              have hPd : P.data.toList = l ++ pieceL kStr tx d true := by rw [hP0, Hpl.out, Hts.out]; simp [HQ.out, HS.out]
              rw [← hP0]
              clear hP0
              have HPd := Lib.hid hPd; clear hPd
              by_cases hlong : 6000 < P.size
              · have u1 : decide (6000 < (P.size : Int)) = true := by simp; omega
                have hno := refT_none (chk_long Hch.out (by rw [← HPd.out]; simpa using hlong))
                have Hno := Lib.hid hno; clear hno
                go_wp2_with fail
                refine bodyPost_ret (results_tmp2 rfl _ _ _) rfl ?_
                exact ⟨hbl4, by rw [Hno.out]; rfl⟩
              · have u1 : decide (6000 < (P.size : Int)) = false := by simp; omega
                have hnx := chk_fine Hch.out (by rw [← HPd.out]; simpa using hlong) (by omega)
                have Hnx := Lib.hid hnx; clear hnx
                have hl5 : P.size ≤ 6000 := by omega
                go_wp2_with fail
                go_roundw
                case rel => exact ⟨j + 1, d, true, _, P, by omega, by go_num, rfl, by omega, rfl, rfl, hl5, hbl4, HPd.out, Hnx.out⟩
                case measure => simp [intOf]; omega
            · have hts : textS kd tx = tx := if_neg hk
              have f5 : ((toBA kd).toList == [115, 116, 114]) = false := m_ne hk
              have Hts := Lib.hid hts
              clear hts hk
              go_upto_region 27 with fail
              obtain ⟨P, hP0⟩ : ∃ P, P = Q ++ toBA tx := ⟨_, rfl⟩
              have hPd : P.data.toList = l ++ pieceL kd tx d true := by rw [hP0, Hpl.out, Hts.out]; simp [HQ.out, toBA]
              rw [← hP0]
              clear hP0
              have HPd := Lib.hid hPd; clear hPd
              by_cases hlong : 6000 < P.size
              · have u1 : decide (6000 < (P.size : Int)) = true := by simp; omega
                have hno := refT_none (chk_long Hch.out (by rw [← HPd.out]; simpa using hlong))
                have Hno := Lib.hid hno; clear hno
                go_wp2_with fail
                refine bodyPost_ret (results_tmp2 rfl _ _ _) rfl ?_
                exact ⟨hbW, by rw [Hno.out]; rfl⟩
              · have u1 : decide (6000 < (P.size : Int)) = false := by simp; omega
                have hnx := chk_fine Hch.out (by rw [← HPd.out]; simpa using hlong) (by omega)
                have Hnx := Lib.hid hnx; clear hnx
                have hl5 : P.size ≤ 6000 := by omega
                go_wp2_with fail
                go_roundw
                case rel => exact ⟨j + 1, d, true, _, P, by omega, by go_num, rfl, by omega, rfl, rfl, hl5, hbW, HPd.out, Hnx.out⟩
                case measure => simp [intOf]; omega
          ·
            by_cases hk : kd = kStr
            · have hts : textS kd tx = quotedL tx := if_pos hk
              subst hk
              have a0' : W.cell? ⟨N, 0, none⟩ = some (.string ⟨#[115, 116, 114]⟩) := a0
              have Hts := Lib.hid hts
              clear a0 f1 f2 f3 f4 hts
              go_wp2_with fail
              refine (quoted_any (toBA tx) W (by show tx.toArray.size ≤ _; simpa using hxl)).mono ?_
              rintro e w4 ⟨rfl, hb4⟩
              have hbl4 : Below w.heap.size w w4 := below_grow hbW hWs hb4
              have hS : (toBA (quotedL (toBA tx).data.toList)).size ≤ 12002 := by
                have h1 := qL_len tx
                show (quotedL tx).toArray.size ≤ 12002
                simp [quotedL]; omega
              have HS : Hid ((toBA (quotedL (toBA tx).data.toList)).data.toList = quotedL tx) := Lib.hid rfl
              generalize toBA (quotedL (toBA tx).data.toList) = S at hS HS ⊢
              clear hb4
              go_upto_region 27 with fail
              obtain ⟨P, hP0⟩ : ∃ P, P = Q ++ S := ⟨_, rfl⟩
              have hPd : P.data.toList = l ++ pieceL kStr tx d true := by rw [hP0, Hpl.out, Hts.out]; simp [HQ.out, HS.out]
              rw [← hP0]
              clear hP0
              have HPd := Lib.hid hPd; clear hPd
              by_cases hlong : 6000 < P.size
              · have u1 : decide (6000 < (P.size : Int)) = true := by simp; omega
                have hno := refT_none (chk_long Hch.out (by rw [← HPd.out]; simpa using hlong))
                have Hno := Lib.hid hno; clear hno
                go_wp2_with fail
                refine bodyPost_ret (results_tmp2 rfl _ _ _) rfl ?_
                exact ⟨hbl4, by rw [Hno.out]; rfl⟩
              · have u1 : decide (6000 < (P.size : Int)) = false := by simp; omega
                have hnx := chk_fine Hch.out (by rw [← HPd.out]; simpa using hlong) (by omega)
                have Hnx := Lib.hid hnx; clear hnx
                have hl5 : P.size ≤ 6000 := by omega
                go_wp2_with fail
                go_roundw
                case rel => exact ⟨j + 1, d, true, _, P, by omega, by go_num, rfl, by omega, rfl, rfl, hl5, hbl4, HPd.out, Hnx.out⟩
                case measure => simp [intOf]; omega
            · have hts : textS kd tx = tx := if_neg hk
              have f5 : ((toBA kd).toList == [115, 116, 114]) = false := m_ne hk
              have Hts := Lib.hid hts
              clear hts hk
              go_upto_region 27 with fail
              obtain ⟨P, hP0⟩ : ∃ P, P = Q ++ toBA tx := ⟨_, rfl⟩
              have hPd : P.data.toList = l ++ pieceL kd tx d true := by rw [hP0, Hpl.out, Hts.out]; simp [HQ.out, toBA]
              rw [← hP0]
              clear hP0
              have HPd := Lib.hid hPd; clear hPd
              by_cases hlong : 6000 < P.size
              · have u1 : decide (6000 < (P.size : Int)) = true := by simp; omega
                have hno := refT_none (chk_long Hch.out (by rw [← HPd.out]; simpa using hlong))
                have Hno := Lib.hid hno; clear hno
                go_wp2_with fail
                refine bodyPost_ret (results_tmp2 rfl _ _ _) rfl ?_
                exact ⟨hbW, by rw [Hno.out]; rfl⟩
              · have u1 : decide (6000 < (P.size : Int)) = false := by simp; omega
                have hnx := chk_fine Hch.out (by rw [← HPd.out]; simpa using hlong) (by omega)
                have Hnx := Lib.hid hnx; clear hnx
                have hl5 : P.size ≤ 6000 := by omega
                go_wp2_with fail
                go_roundw
                case rel => exact ⟨j + 1, d, true, _, P, by omega, by go_num, rfl, by omega, rfl, rfl, hl5, hbW, HPd.out, Hnx.out⟩
                case measure => simp [intOf]; omega
    · have hje : j = ts.length := by omega
      subst hje
      have t1 : decide ((ts.length : Int) < (ts.length : Int)) = false := by simp
      have hP2 : refL (ts.map ki) 0 false [] = some l := by rw [HP.out, List.drop_of_length_le (by simp)]; rfl
      have HP2 := Lib.hid hP2; clear hP2
      have hAr := hA.below hbel
      go_wp2_with fail
      refine (rLexOf_any O hO).mono ?_
      rintro e w3 ⟨hb3, h3⟩
      have hb13 : Below w.heap.size w w3 := below_grow hbel hbel.size hb3
      rw [HOl.out] at h3
      rcases hlx : lexL l with k | us
      · rw [hlx] at h3
        subst h3
        have hno := refT_no HP2.out (reads_bad hlx)
        have Hno := Lib.hid hno; clear hno
        have hb14 := below_grow hb13 hb13.size ((Below.refl w3.heap.size w3).alloc (Nat.le_refl _) (.cells #[.int .i64 1, .int .i64 (k : Int)] 47))
        clear hlx
        go_wp2_with fail
        refine bodyPost_ret (results_tmp2 rfl _ _ _) rfl ?_
        exact ⟨hb14, by rw [Hno.out]; rfl⟩
      · rw [hlx] at h3
        obtain ⟨vr, rfl, hrow⟩ := h3
        obtain ⟨g2, c2, rfl, _, hg2s, hc2⟩ := rtoks_row hrow (lexL_pos hlx)
        have hbA : Below w3.heap.size w3 (w3.alloc (.cells #[.int .i64 0, .int .i64 (-1)] 47)) := (Below.refl _ _).alloc (Nat.le_refl _) _
        have hb14 := below_grow hb13 hb13.size hbA
        by_cases hlen : us.length = ts.length
        · have hA4 := (hAr.below hb3).below hbA
          have hc4 : ∀ j (hj : j < us.length), (w3.alloc (.cells #[.int .i64 0, .int .i64 (-1)] 47)).cell? ⟨g2, j * 3, none⟩ = some (.string (toBA us[j].kind)) ∧ (w3.alloc (.cells #[.int .i64 0, .int .i64 (-1)] 47)).cell? ⟨g2, j * 3 + 1, none⟩ = some (.string (toBA us[j].text)) := fun j hj => by
            obtain ⟨p0, p1, _⟩ := hc2 j hj
            exact ⟨(hbA.cell (p := ⟨g2, _, none⟩) hg2s).trans p0, (hbA.cell (p := ⟨g2, _, none⟩) hg2s).trans p1⟩
          have Hc := Lib.hid hc4; have HA := Lib.hid hA4; have Hlx := Lib.hid hlx; have Hlen := Lib.hid hlen
          have hlen' : us.length ≤ 600 := by omega
          rw [hlen]
          clear hc4 hc2 hA4 hlx hAr hA hrow hlen
          go_wp2_with fail
          go_loopw [12] (fun i wr => ∃ (j n : Nat), j ≤ ts.length ∧ i = .int .i64 j ∧ (∀ i (h1 : i < us.length) (h2 : i < ts.length), i < j → us[i].kind = ts[i].kind ∧ us[i].text = ts[i].text) ∧ wr = (w3.alloc (.cells #[.int .i64 0, .int .i64 (-1)] 47)).drewN n) (fun i _ => ts.length - (intOf i).toNat)
          case atStart => exact ⟨0, 0, by omega, rfl, fun _ _ _ h => absurd h (by omega), rfl⟩
          case round =>
            obtain ⟨j, n, hj, rfl, hsame, rfl⟩ := hrel
            have Hs := Lib.hid hsame; clear hsame
            by_cases hjl : j < ts.length
            · have t3 : decide ((j : Int) < (ts.length : Int)) = true := by simp; omega
              have hj2 : j < us.length := by have := Hlen.out; omega
              obtain ⟨b, o, rfl, hbl, hc⟩ := HA.out.at_ (by omega)
              obtain ⟨q0, q1, _⟩ := hc j hjl
              obtain ⟨r0, r1⟩ := Hc.out j hj2
              have hstep : us[j].kind = ts[j].kind → us[j].text = ts[j].text → ∀ i (h1 : i < us.length) (h2 : i < ts.length), i < j + 1 → us[i].kind = ts[i].kind ∧ us[i].text = ts[i].text := by
                intro h1 h2 i a b c
                rcases Nat.lt_or_ge i j with h | h
                · exact Hs.out i a b h
                · have : i = j := by omega
                  subst this
                  exact ⟨h1, h2⟩
              have hdiff : us[j].kind ≠ ts[j].kind ∨ us[j].text ≠ ts[j].text → refT (ts.map ki) = none := by
                intro h
                refine refT_no HP2.out (reads_no Hlx.out ?_)
                intro e
                have := map_at e j hj2 (by simpa using hjl)
                rw [List.getElem_map] at this
                rcases h with h | h
                · exact h this.1
                · exact h this.2
              clear hc
              obtain ⟨k1, hk1⟩ : ∃ k1, k1 = ts[j].kind := ⟨_, rfl⟩
              obtain ⟨x1, hx1⟩ : ∃ x1, x1 = ts[j].text := ⟨_, rfl⟩
              obtain ⟨k2, hk2⟩ : ∃ k2, k2 = us[j].kind := ⟨_, rfl⟩
              obtain ⟨x2, hx2⟩ : ∃ x2, x2 = us[j].text := ⟨_, rfl⟩
              rw [← hk1, ← hk2, ← hx1, ← hx2] at hstep hdiff
              rw [← hk1] at q0; rw [← hx1] at q1; rw [← hk2] at r0; rw [← hx2] at r1
              have Hst := Lib.hid hstep; have Hdf := Lib.hid hdiff
              clear hk1 hk2 hx1 hx2 hstep hdiff
              generalize w3.alloc (.cells #[.int .i64 0, .int .i64 (-1)] 47) = W at *
              by_cases e1 : k2 = k1
              · subst e1
                by_cases e2 : x2 = x1
                · subst e2
                  go_upto_region 35 with fail
                  go_quiet (fail)
                  go_wp2_with fail
                  go_roundw
                  case rel => exact ⟨j + 1, _, by omega, by go_num, Hst.out rfl rfl, rfl⟩
                  case measure => simp [intOf]; omega
                · have f2 : ((toBA x2).toList == (toBA x1).toList) = false := by rw [m_toList, m_toList]; simp [e2]
                  have hno := Hdf.out (.inr e2)
                  have Hno := Lib.hid hno; clear hno
                  go_upto_region 35 with fail
                  go_quiet (fail)
                  go_wp2_with fail
                  refine bodyPost_ret (results_tmp2 rfl _ _ _) rfl ?_
                  exact ⟨by first | exact m_drewN hb14 _ | exact m_drewN (m_drewN hb14 _) _, by rw [Hno.out]; rfl⟩
              · have f1 : ((toBA k2).toList == (toBA k1).toList) = false := by rw [m_toList, m_toList]; simp [e1]
                have hno := Hdf.out (.inl e1)
                have Hno := Lib.hid hno; clear hno
                go_upto_region 35 with fail
                go_quiet (fail)
                go_wp2_with fail
                refine bodyPost_ret (results_tmp2 rfl _ _ _) rfl ?_
                exact ⟨by first | exact m_drewN hb14 _ | exact m_drewN (m_drewN hb14 _) _, by rw [Hno.out]; rfl⟩
            · have hje : j = ts.length := by omega
              subst hje
              have t3 : decide ((ts.length : Int) < (ts.length : Int)) = false := by simp
              have hyes : refT (ts.map ki) = some l := by
                refine refT_yes HP2.out (reads_yes Hlx.out (map_of (by simpa using Hlen.out) fun i a b => ?_))
                have b' : i < ts.length := by simpa using b
                rw [List.getElem_map]
                exact Hs.out i a b' b'
              have Hyes := Lib.hid hyes; clear hyes
              have HOb : Hid (O = toBA l) := Lib.hid (by rw [← HOl.out, toBA_of])
              go_wp2_with fail
              refine bodyPost_ret (results_tmp2 rfl _ _ _) rfl ?_
              exact ⟨m_drewN hb14 _, by rw [Hyes.out, HOb.out]; rfl⟩
        · have u1 : (((us.length : Int)) != (ts.length : Int)) = true := by rw [bne_iff_ne]; omega
          have hno := refT_no HP2.out (reads_no hlx (fun e => hlen (by have := congrArg List.length e; simpa using this)))
          have Hno := Lib.hid hno; clear hno
          clear hlx hc2 hrow
          go_wp2_with fail
          refine bodyPost_ret (results_tmp2 rfl _ _ _) rfl ?_
          exact ⟨hb14, by rw [Hno.out]; rfl⟩
end Go.Proofs.YtdoaeapahgmfoaaGreatDoor
