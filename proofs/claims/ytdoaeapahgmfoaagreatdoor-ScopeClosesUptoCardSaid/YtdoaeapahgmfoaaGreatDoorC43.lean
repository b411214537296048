/- The writer's statement: try, if. The writer's statement: a place in a container. -/
import Derived.Test.YtdoaeapahgmfoaaGreatDoorC42
namespace Go.Proofs.YtdoaeapahgmfoaaGreatDoor
open Go.RowKit
set_option maxRecDepth 100000 in
set_option maxHeartbeats 20000000 in
theorem stmt_try {s : Stm} {deep : Nat} {w : World} {x : Nat} {st : WS} {p v : Value} {l : List UInt8} {vp vl vb ve : Value} {f : Nat} (hB : BlockC f) (hf : s.nodes ≤ f + 1) (H : StmIn s deep w x st p v l vp vl vb ve) (hr : (st.right s).ok = true) (hk : s.kind = sTry) :
    Calls Tryz.prog 33 #[.pointer (some ⟨x, 0, none⟩), .agg #[.string (toBA s.kind), .string (toBA s.name), vp, vl, vb, ve], .int .i64 (deep : Int)] w (WrPost x w st (8 * s.nodes - 1) (20000000 * s.bulk) fun st' => st'.ok = true → s.named) := by
  have hform := form_parts (f := ⟨true, false, 0, true, true⟩) (by rw [hk]; rfl) (right_ok hr).1
  have u1 := op_is hk [101, 120, 112, 114] (b := false) rfl
  have u2 := op_is hk [115, 101, 116] (b := false) rfl
  have u3 := op_is hk [112, 117, 116] (b := false) rfl
  have u4 := op_is hk [100, 101, 108] (b := false) rfl
  have u5 := op_is hk [105, 102] (b := false) rfl
  have u6 := op_is hk [119, 104, 105, 108, 101] (b := false) rfl
  have u7 := op_is hk [102, 111, 114] (b := false) rfl
  have u8 := op_is hk [100, 101, 102] (b := false) rfl
  have u9 := op_is hk [116, 114, 121] (b := true) rfl
  have hkz : (toBA s.kind).size ≤ 8 := by rw [toBA_len, hk]; decide
  have hkz2 : s.kind.length ≤ 8 := by rw [hk]; decide
  have hnm := fun h h' => named_of hr h h'
  have Hels := Lib.hid (sels_of hB H hf ((deep : Int) + 1) rfl)
  have Hbody := Lib.hid (sbody_of hB H hf ((deep : Int) + 1) rfl)
  have hdd := H.deepB
  have Hnm := Lib.hid hnm; have Hps := Lib.hid H.ps
  have hpb : strsBulk s.p ≤ 1100000 := by have := Stm.bulk_eq s; have := H.bulk; omega
  clear hk hform hnm
  have hkl : s.kind.length ≤ 2000000 := by have := Stm.bulk_eq s; have := H.bulk; omega
  have hnl : s.name.length ≤ 1100000 := by have := Stm.bulk_eq s; have := H.bulk; omega
  obtain ⟨ap, cp, rfl, hpcap, hpr⟩ := H.ps
  obtain ⟨al, cl, rfl, hlcap, hlr⟩ := H.ls
  obtain ⟨ab, cb, rfl, hbr⟩ := H.bs
  obtain ⟨ae, ce, rfl, her⟩ := H.es
  obtain ⟨ha, sa, sfa⟩ := H.wr.alloc (.cells #[.pointer (some ⟨x, 0, none⟩)] 73)
  obtain ⟨hb, sb, sfb⟩ := ha.alloc (.cells #[.string (toBA s.kind), .string (toBA s.name), .slice ap s.p.length cp, .slice al s.l.length cl, .slice ab s.body.length cb, .slice ae s.els.length ce] 82)
  have hbp0 : BoxP (w.alloc (.cells #[.pointer (some ⟨x, 0, none⟩)] 73)) x w.heap.size := ⟨heap_alloc_new w _, sfa⟩
  have hbp := hbp0.step sb
  have hbx : BoxS _ x (w.alloc (.cells #[.pointer (some ⟨x, 0, none⟩)] 73)).heap.size s ap cp al cl ab cb ae ce := ⟨heap_alloc_new _ _, sfb⟩
  have hsab := sa.trans sb
  have hR := right_any hb s ap al ab ae cp cl cb ce hkl hnl (H.glob.below (WStp.below H.wr hsab))
  have hhp : (w.alloc (.cells #[.pointer (some ⟨x, 0, none⟩)] 73)).heap.size = w.heap.size + 1 := by simp
  rw [hhp] at hbx
  have k0 := hbx.c0
  have k1 := hbx.c1
  have k2 := hbx.c2
  have k3 := hbx.c3
  have k4 := hbx.c4
  have k5 := hbx.c5
  have kp := hbp.c0
  rw [hr] at hR
  have Hbp := Lib.hid hbp; have Hbx := Lib.hid hbx; have Sab := Lib.hid hsab; have HR := Lib.hid hR; have Hr := Lib.hid hr; have HH := Lib.hid H; have Hpr := Lib.hid hpr; have Hlr := Lib.hid hlr
  clear ha sa sfa hb sb sfb hbp0 hbp hbx hsab hR hhp hr H hpr hlr hbr her
  go_enter Tryz.func33, Tryz.ntmps33
  go_wp2_with fail
  generalize (w.alloc (.cells #[.pointer (some ⟨x, 0, none⟩)] 73)).alloc (.cells #[.string (toBA s.kind), .string (toBA s.name), .slice ap s.p.length cp, .slice al s.l.length cl, .slice ab s.body.length cb, .slice ae s.els.length ce] 82) = wA at HR Hbp Hbx Sab k0 k1 k2 k3 k4 k5 kp ⊢
  generalize hbpn : w.heap.size = bp at Hbp Hbx k0 k1 k2 k3 k4 k5 kp ⊢
  clear hbpn
  refine HR.out.mono ?_
  rintro _ w2 ⟨rfl, h2, s2⟩
  clear k0 k1 k2 k3 k4 k5 kp HR
  have hb2 := Hbx.out.step s2
  have hp2 := Hbp.out.step s2
  have k0 := hb2.c0
  have k1 := hb2.c1
  have k2 := hb2.c2
  have k3 := hb2.c3
  have k4 := hb2.c4
  have k5 := hb2.c5
  have kp := hp2.c0
  have hx2 := Nx.right st s 0 0
  have B2 := Lib.hid hb2; have P2 := Lib.hid hp2; have S2 := Lib.hid (Sab.out.trans s2); have N2 := Lib.hid hx2; have H2 := Lib.hid h2
  have Bel2 := Lib.hid (WStp.below HH.out.wr S2.out)
  clear h2 s2 hb2 hp2 hx2 Hbx Hbp Sab
  have Hr2 : Hid ((st.right s).ok = true) := Hr
  generalize st.right s = st2 at N2 H2 Hr2
  have hns : (toBA s.name).size ≤ 1100000 := by rw [toBA_len]; exact hnl
  have hin2 := N2.out.inn
  have hln2 := N2.out.len
  have hii := HH.out.inn
  have hll := HH.out.len
  have Hwl := Lib.hid (wline_any H2.out (⟨#[116, 114, 121, 58]⟩ : ByteArray) (by omega) (by ((repeat (first | rw [ByteArray.size_append] | rw [size_lit1] | rw [size_lit2] | rw [size_lit3] | rw [size_lit4] | rw [size_lit5] | rw [size_lit6] | rw [size_lit7] | rw [size_lit8])); (first | done | omega))) (by omega))
  go_wp2_with fail
  refine Hwl.out.mono ?_
  rintro _ w9 ⟨p9, v9, l9, rfl, h9, s9⟩
  have hs9 := S2.out.trans s9
  have hb9 := B2.out.step s9
  have hp9 := P2.out.step s9
  clear k0 k1 k2 k3 k4 k5 kp
  have k0 := hb9.c0
  have k1 := hb9.c1
  have k2 := hb9.c2
  have k3 := hb9.c3
  have k4 := hb9.c4
  have k5 := hb9.c5
  have kp := hp9.c0
  have hm9 : 4 * st2.inn + (⟨#[116, 114, 121, 58]⟩ : ByteArray).size + 1 ≤ 6100000 := by ((repeat (first | rw [ByteArray.size_append] | rw [size_lit1] | rw [size_lit2] | rw [size_lit3] | rw [size_lit4] | rw [size_lit5] | rw [size_lit6] | rw [size_lit7] | rw [size_lit8])); (first | done | omega))
  have hn9 := (N2.out.trans (nx_line (st := st2) (4 * st2.inn + (⟨#[116, 114, 121, 58]⟩ : ByteArray).size + 1)) (Nat.le_refl _) (Nat.le_refl _)).mono (Nat.le_refl _) (show 0 + (4 * st2.inn + (⟨#[116, 114, 121, 58]⟩ : ByteArray).size + 1) ≤ 6100000 by omega)
  generalize ({ st2 with len := st2.len + (4 * st2.inn + (⟨#[116, 114, 121, 58]⟩ : ByteArray).size + 1) } : WS) = st9 at h9 hn9
  have S9 := Lib.hid hs9
  have hbd := Hbody.out _ st9 p9 v9 l9 h9 (WStp.below HH.out.wr S9.out) (by have := hn9.n; have := HH.out.n; have := Stm.nodes_eq s; omega) (by have := hn9.inn; omega) (by have := hn9.len; have := HH.out.len; have := Stm.bulk_eq s; omega)
  have Hbd := Lib.hid hbd; have Hn9 := Lib.hid hn9; have B9 := Lib.hid hb9; have P9 := Lib.hid hp9
  clear hbd hn9 hm9 h9 s9 hs9 hb9 hp9 Hwl hin2 hln2
  go_wp2_with fail
  refine Hbd.out.mono ?_
  rintro _ w7 ⟨st7, p7, v7, l7, rfl, hn7, hq7, h7, s7⟩
  have hs7 := S9.out.trans s7
  have hb7 := B9.out.step s7
  have hp7 := P9.out.step s7
  have hN7 := Hn9.out.trans hn7 (Nat.le_refl _) (Nat.le_refl _)
  clear k0 k1 k2 k3 k4 k5 kp hn7
  have k0 := hb7.c0
  have k1 := hb7.c1
  have k2 := hb7.c2
  have k3 := hb7.c3
  have k4 := hb7.c4
  have k5 := hb7.c5
  have kp := hp7.c0
  have Hn7 := Lib.hid hN7; have Hq7 := Lib.hid hq7; have S7 := Lib.hid hs7; have B7 := Lib.hid hb7; have P7 := Lib.hid hp7
  have Hwl := Lib.hid (wline_any h7 (⟨#[101, 120, 99, 101, 112, 116, 32]⟩ ++ toBA s.name ++ ⟨#[58]⟩) (by have := hN7.inn; omega) (by ((repeat (first | rw [ByteArray.size_append] | rw [size_lit1] | rw [size_lit2] | rw [size_lit3] | rw [size_lit4] | rw [size_lit5] | rw [size_lit6] | rw [size_lit7] | rw [size_lit8])); (first | done | omega))) (by have := hN7.len; have := Stm.bulk_eq s; omega))
  clear hN7 hq7 h7 s7 hs7 hb7 hp7 Hbd
  go_wp2_with fail
  refine Hwl.out.mono ?_
  rintro _ w6 ⟨p6, v6, l6, rfl, h6, s6⟩
  have hs6 := S7.out.trans s6
  have hb6 := B7.out.step s6
  have hp6 := P7.out.step s6
  clear k0 k1 k2 k3 k4 k5 kp
  have k0 := hb6.c0
  have k1 := hb6.c1
  have k2 := hb6.c2
  have k3 := hb6.c3
  have k4 := hb6.c4
  have k5 := hb6.c5
  have kp := hp6.c0
  have hm6 : 4 * st7.inn + (⟨#[101, 120, 99, 101, 112, 116, 32]⟩ ++ toBA s.name ++ ⟨#[58]⟩).size + 1 ≤ 7300000 := by
    have := Hn7.out.inn
    ((repeat (first | rw [ByteArray.size_append] | rw [size_lit1] | rw [size_lit2] | rw [size_lit3] | rw [size_lit4] | rw [size_lit5] | rw [size_lit6] | rw [size_lit7] | rw [size_lit8])); (first | done | omega))
  have hn6 := (Hn7.out.trans (nx_line (st := st7) (4 * st7.inn + (⟨#[101, 120, 99, 101, 112, 116, 32]⟩ ++ toBA s.name ++ ⟨#[58]⟩).size + 1)) (Nat.le_refl _) (Nat.le_refl _)).mono (Nat.le_refl _) (show _ + (4 * st7.inn + (⟨#[101, 120, 99, 101, 112, 116, 32]⟩ ++ toBA s.name ++ ⟨#[58]⟩).size + 1) ≤ 6100000 + 20000000 * stmsBulk s.body + 7300000 by omega)
  have hok6 : ({ st7 with len := st7.len + (4 * st7.inn + (⟨#[101, 120, 99, 101, 112, 116, 32]⟩ ++ toBA s.name ++ ⟨#[58]⟩).size + 1) } : WS).ok = true → st7.ok = true := id
  generalize ({ st7 with len := st7.len + (4 * st7.inn + (⟨#[101, 120, 99, 101, 112, 116, 32]⟩ ++ toBA s.name ++ ⟨#[58]⟩).size + 1) } : WS) = st6 at h6 hn6 hok6
  have S6 := Lib.hid hs6
  have hbd := Hels.out _ st6 p6 v6 l6 h6 (WStp.below HH.out.wr S6.out) (by have := hn6.n; have := HH.out.n; have := Stm.nodes_eq s; omega) (by have := hn6.inn; omega) (by have := hn6.len; have := HH.out.len; have := Stm.bulk_eq s; omega)
  have Hbd := Lib.hid hbd; have Hn6 := Lib.hid hn6; have Hok6 := Lib.hid hok6
  clear hbd hn6 hm6 h6 s6 hs6 hb6 hp6 hok6 Hwl
  go_wp2_with fail
  refine Hbd.out.mono ?_
  rintro _ w8 ⟨st8, p8, v8, l8, rfl, hn8, hq8, h8, s8⟩
  have Hn8 := Lib.hid hn8; have Hq8 := Lib.hid hq8; have H8 := Lib.hid h8; have S8 := Lib.hid (S6.out.trans s8)
  clear hn8 hq8 h8 s8 Hbd
  go_wp2_with fail
  go_end0
  refine ⟨st8, p8, v8, l8, rfl, Hn6.out.trans Hn8.out ?_ ?_, fun h => Hnm.out (Hq7.out (Hok6.out (Hn8.out.ok h))) (Hq8.out h), H8.out, S8.out⟩
  · have := Stm.nodes_eq s; omega
  · have := Stm.bulk_eq s; omega
set_option maxRecDepth 100000 in
set_option maxHeartbeats 20000000 in
theorem stmt_if {s : Stm} {deep : Nat} {w : World} {x : Nat} {st : WS} {p v : Value} {l : List UInt8} {vp vl vb ve : Value} {f : Nat} (hI : IfsC f) (hf : s.nodes ≤ f) (H : StmIn s deep w x st p v l vp vl vb ve) (hr : (st.right s).ok = true) (hk : s.kind = sIf) :
    Calls Tryz.prog 33 #[.pointer (some ⟨x, 0, none⟩), .agg #[.string (toBA s.kind), .string (toBA s.name), vp, vl, vb, ve], .int .i64 (deep : Int)] w (WrPost x w st (8 * s.nodes - 1) (20000000 * s.bulk) fun st' => st'.ok = true → s.named) := by
  have hform := form_parts (f := ⟨false, false, 1, true, true⟩) (by rw [hk]; rfl) (right_ok hr).1
  have u1 := op_is hk [101, 120, 112, 114] (b := false) rfl
  have u2 := op_is hk [115, 101, 116] (b := false) rfl
  have u3 := op_is hk [112, 117, 116] (b := false) rfl
  have u4 := op_is hk [100, 101, 108] (b := false) rfl
  have u5 := op_is hk [105, 102] (b := true) rfl
  have hnm := fun h h' => named_of hr h h'
  have h1 : s.l.length = 1 := by have := hform.2.2.2.2; dsimp only at this; omega
  have HL := Lib.hid h1; clear h1
  have Hnm := Lib.hid hnm; have Hps := Lib.hid H.ps
  have hpb : strsBulk s.p ≤ 1100000 := by have := Stm.bulk_eq s; have := H.bulk; omega
  clear hk hform hnm
  have hkl : s.kind.length ≤ 2000000 := by have := Stm.bulk_eq s; have := H.bulk; omega
  have hnl : s.name.length ≤ 1100000 := by have := Stm.bulk_eq s; have := H.bulk; omega
  obtain ⟨ap, cp, rfl, hpcap, hpr⟩ := H.ps
  obtain ⟨al, cl, rfl, hlcap, hlr⟩ := H.ls
  obtain ⟨ab, cb, rfl, hbr⟩ := H.bs
  obtain ⟨ae, ce, rfl, her⟩ := H.es
  obtain ⟨ha, sa, sfa⟩ := H.wr.alloc (.cells #[.pointer (some ⟨x, 0, none⟩)] 73)
  obtain ⟨hb, sb, sfb⟩ := ha.alloc (.cells #[.string (toBA s.kind), .string (toBA s.name), .slice ap s.p.length cp, .slice al s.l.length cl, .slice ab s.body.length cb, .slice ae s.els.length ce] 82)
  have hbp0 : BoxP (w.alloc (.cells #[.pointer (some ⟨x, 0, none⟩)] 73)) x w.heap.size := ⟨heap_alloc_new w _, sfa⟩
  have hbp := hbp0.step sb
  have hbx : BoxS _ x (w.alloc (.cells #[.pointer (some ⟨x, 0, none⟩)] 73)).heap.size s ap cp al cl ab cb ae ce := ⟨heap_alloc_new _ _, sfb⟩
  have hsab := sa.trans sb
  have hR := right_any hb s ap al ab ae cp cl cb ce hkl hnl (H.glob.below (WStp.below H.wr hsab))
  have hhp : (w.alloc (.cells #[.pointer (some ⟨x, 0, none⟩)] 73)).heap.size = w.heap.size + 1 := by simp
  rw [hhp] at hbx
  have k0 := hbx.c0
  have k1 := hbx.c1
  have k2 := hbx.c2
  have k3 := hbx.c3
  have k4 := hbx.c4
  have k5 := hbx.c5
  have kp := hbp.c0
  rw [hr] at hR
  have Hbp := Lib.hid hbp; have Hbx := Lib.hid hbx; have Sab := Lib.hid hsab; have HR := Lib.hid hR; have Hr := Lib.hid hr; have HH := Lib.hid H; have Hpr := Lib.hid hpr; have Hlr := Lib.hid hlr
  clear ha sa sfa hb sb sfb hbp0 hbp hbx hsab hR hhp hr H hpr hlr hbr her
  go_enter Tryz.func33, Tryz.ntmps33
  go_wp2_with fail
  generalize (w.alloc (.cells #[.pointer (some ⟨x, 0, none⟩)] 73)).alloc (.cells #[.string (toBA s.kind), .string (toBA s.name), .slice ap s.p.length cp, .slice al s.l.length cl, .slice ab s.body.length cb, .slice ae s.els.length ce] 82) = wA at HR Hbp Hbx Sab k0 k1 k2 k3 k4 k5 kp ⊢
  generalize hbpn : w.heap.size = bp at Hbp Hbx k0 k1 k2 k3 k4 k5 kp ⊢
  clear hbpn
  refine HR.out.mono ?_
  rintro _ w2 ⟨rfl, h2, s2⟩
  clear k0 k1 k2 k3 k4 k5 kp HR
  have hb2 := Hbx.out.step s2
  have hp2 := Hbp.out.step s2
  have k0 := hb2.c0
  have k1 := hb2.c1
  have k2 := hb2.c2
  have k3 := hb2.c3
  have k4 := hb2.c4
  have k5 := hb2.c5
  have kp := hp2.c0
  have hx2 := Nx.right st s 0 0
  have B2 := Lib.hid hb2; have P2 := Lib.hid hp2; have S2 := Lib.hid (Sab.out.trans s2); have N2 := Lib.hid hx2; have H2 := Lib.hid h2
  have Bel2 := Lib.hid (WStp.below HH.out.wr S2.out)
  clear h2 s2 hb2 hp2 hx2 Hbx Hbp Sab
  have Hr2 : Hid ((st.right s).ok = true) := Hr
  generalize st.right s = st2 at N2 H2 Hr2
  have hns : (toBA s.name).size ≤ 1100000 := by rw [toBA_len]; exact hnl
  have hsm : StmIn s deep w2 x st2 p v l (.slice ap s.p.length cp) (.slice al s.l.length cl) (.slice ab s.body.length cb) (.slice ae s.els.length ce) :=
    ⟨HH.out.fit, HH.out.bulk, HH.out.wt, HH.out.deepB, by have := HH.out.n; have := N2.out.n; omega, by have := HH.out.inn; have := N2.out.inn; omega, by have := HH.out.len; have := N2.out.len; omega, H2.out, HH.out.glob.below Bel2.out, HH.out.ps.below Bel2.out, HH.out.ls.below Bel2.out, HH.out.bs.below Bel2.out, HH.out.es.below Bel2.out⟩
  have Hif := Lib.hid (hI s ⟨#[105, 102]⟩ deep w2 x st2 p v l _ _ _ _ hf HL.out (by decide) hsm)
  clear hsm
  go_wp2_with fail
  refine Hif.out.mono ?_
  rintro _ w9 ⟨st9, p9, v9, l9, rfl, hn9, hq9, h9, s9⟩
  have H9 := Lib.hid h9; have S9 := Lib.hid (S2.out.trans s9); have N9 := Lib.hid (N2.out.trans hn9 (Nat.le_refl _) (Nat.le_refl _)); have Q9 := Lib.hid hq9
  clear h9 s9 hn9 hq9 Hif
  go_wp2_with fail
  go_end0
  exact ⟨st9, p9, v9, l9, rfl, N9.out.mono (by omega) (by omega), fun h => Hnm.out (Q9.out h).1 (Q9.out h).2, H9.out, S9.out⟩
end Go.Proofs.YtdoaeapahgmfoaaGreatDoor
namespace Go.Proofs.YtdoaeapahgmfoaaGreatDoor
open Go.RowKit
set_option maxRecDepth 100000 in
set_option maxHeartbeats 20000000 in
theorem at_any {s : Stm} {deep : Nat} {w w2 : World} {x bp : Nat} {st st2 : WS} {p v p2 v2 : Value} {l l2 : List UInt8} {ap ab ae : Option Addr} {cp cl cb ce b o : Nat} (H : StmIn s deep w x st p v l (.slice ap s.p.length cp) (.slice (some ⟨b, o, none⟩) s.l.length cl) (.slice ab s.body.length cb) (.slice ae s.els.length ce))
    (hbx0 : Lo x b) (hrow : ExRow w (Lo x) s.l b o) (h0 : 0 < s.l.length) (h1 : 1 < s.l.length) (hw : WrC w2 x st2 p2 v2 l2) (hbel : Below x w w2) (hbp : BoxP w2 x bp) (hbx : BoxS w2 x (bp + 1) s ap cp (some ⟨b, o, none⟩) cl ab cb ae ce) (hn : st2.n + 3 * s.l[0].nodes + 3 * s.l[1].nodes ≤ 48000000) :
    Calls Tryz.prog 65 #[.pointer (some ⟨bp, 0, none⟩), .pointer (some ⟨bp + 1, 0, none⟩)] w2 (TextPost x w2 st2 p2 v2 l2 (64 * s.l[0].bulk + 64 * s.l[1].bulk) (3 * s.l[0].nodes + 3 * s.l[1].nodes + 4)) := by
  obtain ⟨c, ap1, cp1, al1, cl1, hc, hcell, hcall⟩ := schild_of H hbx0 hrow 0 h0 8 8 rfl 0 0 rfl (by omega) (by omega)
  obtain ⟨c', ap2, cp2, al2, cl2, hc', hcell', hcall'⟩ := schild_of H hbx0 hrow 1 h1 0 0 rfl 1 1 rfl (by omega) (by omega)
  have hb0 : s.l[0].bulk ≤ exsBulk s.l := (exs_mem (List.getElem_mem h0)).1
  have hb1 : s.l[1].bulk ≤ exsBulk s.l := (exs_mem (List.getElem_mem h1)).1
  rw [← hc] at hn hb0 ⊢
  rw [← hc'] at hn hb1 ⊢
  have hk1 := termK_le c 8
  have hk2 := termK_le c' 0
  have hcb : c.bulk ≤ 1100000 := by have := Stm.bulk_eq s; have := H.bulk; omega
  have hcb' : c'.bulk ≤ 1100000 := by have := Stm.bulk_eq s; have := H.bulk; omega
  have k3 := hbx.c3
  have kp := hbp.c0
  obtain ⟨q0, q1, q2, q3, q4⟩ := hcell _ hbel
  simp only [Nat.zero_mul, Nat.add_zero] at q0 q1 q2 q3 q4
  have hn1 : st2.n + termK c 8 ≤ 49000000 := by omega
  have hs0 := WStp.refl x w2
  have h1i : (1 : Int) < (s.l.length : Int) := by omega
  have Hn1 := Lib.hid hn1; have Hcell0 := Lib.hid hcell; have Hcell := Lib.hid hcell'; have S0 := Lib.hid (hs0.drew); have Hcall := Lib.hid hcall; have Hcall' := Lib.hid hcall'; have Hp := Lib.hid hbp.drew; have Hx := Lib.hid hbx.drew; have Hw := Lib.hid hw.drew; have HH := Lib.hid H; have Hbel := Lib.hid (hbel.trans (Below.refl x w2).drew)
  clear hcell hcell' hcall hcall' hbp hbx hw H hbel hrow hc hc' hn1 hs0
  go_enter Tryz.func65, Tryz.ntmps65
  go_upto_region 1 with fail
  go_region_held3 (fun w' => w'.cell? ⟨bp, 0, none⟩ = some (.pointer (some ⟨x, 0, none⟩)) ∧ w'.cell? ⟨bp + 1, 3, none⟩ = some (.slice (some ⟨b, o, none⟩) s.l.length cl) ∧ w'.cell? ⟨b, o, none⟩ = some (.string (toBA c.op)) ∧ w'.cell? ⟨b, o + 1, none⟩ = some (.int .i64 c.n) ∧ w'.cell? ⟨b, o + 2, none⟩ = some (.string (toBA c.s)) ∧ w'.cell? ⟨b, o + 3, none⟩ = some (.slice ap1 c.p.length cp1) ∧ w'.cell? ⟨b, o + 4, none⟩ = some (.slice al1 c.l.length cl1)) (go_keep)
    ((go_at_call 66; (with_reducible refine (Hcall.out _ _ _ _ _ Hw.out Hbel.out Hn1.out).mono ?_); rintro _ w5 ⟨r5, st5, rfl, hr, hn5, h5, s5⟩; have hrb5 : r5.size ≤ 71000000 := (by omega); have hbel5 := Hbel.out.trans (WStp.below Hw.out s5); have S5 := Lib.hid (S0.out.trans s5); have P5 := Lib.hid (Hp.out.step s5); have B5 := Lib.hid (Hx.out.step s5); have kp := P5.out.c0; have k3 := B5.out.c3; obtain ⟨q0, q1, q2, q3, q4⟩ := Hcell0.out _ hbel5; simp only [Nat.zero_mul, Nat.add_zero] at q0 q1 q2 q3 q4; have Hr5 := Lib.hid hr; have Hn5 := Lib.hid hn5; have H5 := Lib.hid h5; have Bel5 := Lib.hid hbel5; clear hr hn5 h5 s5 hbel5))
  clear q0 q1 q2 q3 q4
  obtain ⟨q0, q1, q2, q3, q4⟩ := Hcell.out _ Bel5.out
  simp only [Nat.one_mul, Nat.add_assoc, Nat.reduceAdd] at q0 q1 q2 q3 q4
  have H5d := Lib.hid H5.out.drew; have S5d := Lib.hid S5.out.drew; have P5d := Lib.hid P5.out.drew; have B5d := Lib.hid B5.out.drew
  have Bel5d := Lib.hid (Bel5.out.trans (Below.refl x w5).drew)
  have hdp : Calls Tryz.prog 67 #[.pointer (some ⟨x, 0, none⟩), .int .i64 0] w5.drew fun e w' => e = .returned (.int .i64 1) ∧ WrC w' x (st5.deeper 0) p2 v2 l2 ∧ WStp x w5.drew w' := deeper_any H5d.out 0 (by omega)
  have hn7 : (st5.deeper 0).n + termK c' 0 ≤ 49000000 := by
    show st5.n + _ ≤ _
    have := Hn5.out.n
    omega
  have Hdp := Lib.hid hdp; have Hn7 := Lib.hid hn7
  clear hdp hn7
  go_upto_region 2 with fail
  have f1 : ∀ w, (Op.stringOp .add r5 ⟨#[91]⟩).run Tryz.prog w = .ok (.string (r5 ++ ⟨#[91]⟩)) w := fun w => run_string_add_sum w _ _ (by ((repeat (first | rw [ByteArray.size_append] | rw [size_lit1] | rw [size_lit2] | rw [size_lit3] | rw [size_lit4] | rw [size_lit5] | rw [size_lit6] | rw [size_lit7] | rw [size_lit8])); (first | done | omega)))
  have F2 := Lib.hid (show ∀ r : ByteArray, r.size ≤ 71000000 → ∀ w, (Op.stringOp .add (r5 ++ ⟨#[91]⟩) r).run Tryz.prog w = .ok (.string (r5 ++ ⟨#[91]⟩ ++ r)) w from fun r hr w => run_string_add_sum w _ _ (by ((repeat (first | rw [ByteArray.size_append] | rw [size_lit1] | rw [size_lit2] | rw [size_lit3] | rw [size_lit4] | rw [size_lit5] | rw [size_lit6] | rw [size_lit7] | rw [size_lit8])); (first | done | omega))))
  have F3 := Lib.hid (show ∀ r : ByteArray, r.size ≤ 71000000 → ∀ w, (Op.stringOp .add (r5 ++ ⟨#[91]⟩ ++ r) ⟨#[93]⟩).run Tryz.prog w = .ok (.string (r5 ++ ⟨#[91]⟩ ++ r ++ ⟨#[93]⟩)) w from fun r hr w => run_string_add_sum w _ _ (by ((repeat (first | rw [ByteArray.size_append] | rw [size_lit1] | rw [size_lit2] | rw [size_lit3] | rw [size_lit4] | rw [size_lit5] | rw [size_lit6] | rw [size_lit7] | rw [size_lit8])); (first | done | omega))))
  go_region_held3 (fun w' => w'.cell? ⟨bp, 0, none⟩ = some (.pointer (some ⟨x, 0, none⟩)) ∧ w'.cell? ⟨bp + 1, 3, none⟩ = some (.slice (some ⟨b, o, none⟩) s.l.length cl) ∧ w'.cell? ⟨b, o + 5, none⟩ = some (.string (toBA c'.op)) ∧ w'.cell? ⟨b, o + 6, none⟩ = some (.int .i64 c'.n) ∧ w'.cell? ⟨b, o + 7, none⟩ = some (.string (toBA c'.s)) ∧ w'.cell? ⟨b, o + 8, none⟩ = some (.slice ap2 c'.p.length cp2) ∧ w'.cell? ⟨b, o + 9, none⟩ = some (.slice al2 c'.l.length cl2)) (go_keep)
    ((first
      | (go_at_call 67; (with_reducible refine Hdp.out.mono ?_); rintro _ w7 ⟨rfl, h7, s7⟩; have hbel7 := Bel5d.out.trans (WStp.below H5d.out s7); have S7 := Lib.hid (S5d.out.trans s7); have P7 := Lib.hid (P5d.out.step s7); have B7 := Lib.hid (B5d.out.step s7); have kp := P7.out.c0; have k3 := B7.out.c3; obtain ⟨q0, q1, q2, q3, q4⟩ := Hcell.out _ hbel7; simp only [Nat.one_mul, Nat.add_assoc, Nat.reduceAdd] at q0 q1 q2 q3 q4; have H7 := Lib.hid h7; have Bel7 := Lib.hid hbel7; clear h7 s7 hbel7)
      | (go_at_call 66; (with_reducible refine (Hcall'.out _ _ _ _ _ H7.out Bel7.out Hn7.out).mono ?_); rintro _ w8 ⟨r8, st8, rfl, hr, hn8, h8, s8⟩; have hrb8 : r8.size ≤ 71000000 := (by omega); have hbel8 := Bel7.out.trans (WStp.below H7.out s8); have S8 := Lib.hid (S7.out.trans s8); have P8 := Lib.hid (P7.out.step s8); have B8 := Lib.hid (B7.out.step s8); have kp := P8.out.c0; have k3 := B8.out.c3; obtain ⟨q0, q1, q2, q3, q4⟩ := Hcell.out _ hbel8; simp only [Nat.one_mul, Nat.add_assoc, Nat.reduceAdd] at q0 q1 q2 q3 q4; have f2 := F2.out r8 hrb8; have f3 := F3.out r8 hrb8; have Hr8 := Lib.hid hr; have Hn8 := Lib.hid hn8; have H8 := Lib.hid h8; clear hr hn8 h8 s8 hbel8)))
  all_goals
    go_wp2_with fail
    refine bodyPost_ret (results_tmp rfl _ _ _) rfl ?_
    refine ⟨_, st8, rfl, ?_, (Hn5.out.trans (Nx.deeper st5 0 0 0) (Nat.le_refl _) (Nat.le_refl _)).trans Hn8.out ?_ (Nat.le_refl _), H8.out, S8.out⟩
    · have := Hr5.out; have := Hr8.out; have := Ex.bulk_pos c; have := Ex.bulk_pos c'
      ((repeat (first | rw [ByteArray.size_append] | rw [size_lit1] | rw [size_lit2] | rw [size_lit3] | rw [size_lit4] | rw [size_lit5] | rw [size_lit6] | rw [size_lit7] | rw [size_lit8])); (first | done | omega))
    · omega
end Go.Proofs.YtdoaeapahgmfoaaGreatDoor
