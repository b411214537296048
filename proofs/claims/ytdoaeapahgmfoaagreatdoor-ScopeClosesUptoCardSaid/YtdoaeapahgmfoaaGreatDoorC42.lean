/- The writer's statement: words alone. -/
import Derived.Test.YtdoaeapahgmfoaaGreatDoorC41
namespace Go.Proofs.YtdoaeapahgmfoaaGreatDoor
open Go.RowKit
set_option maxRecDepth 100000 in
set_option maxHeartbeats 20000000 in
theorem stmt_break {s : Stm} {deep : Nat} {w : World} {x : Nat} {st : WS} {p v : Value} {l : List UInt8} {vp vl vb ve : Value} (H : StmIn s deep w x st p v l vp vl vb ve) (hr : (st.right s).ok = true) (hk : s.kind = sBreak) :
    Calls Tryz.prog 33 #[.pointer (some ⟨x, 0, none⟩), .agg #[.string (toBA s.kind), .string (toBA s.name), vp, vl, vb, ve], .int .i64 (deep : Int)] w (WrPost x w st (8 * s.nodes - 1) (20000000 * s.bulk) fun st' => st'.ok = true → s.named) := by
  have hform := form_parts (f := ⟨false, false, 0, false, false⟩) (by rw [hk]; rfl) (right_ok hr).1
  have u1 := op_is hk [101, 120, 112, 114] (b := false) rfl
  have u2 := op_is hk [115, 101, 116] (b := false) rfl
  have u3 := op_is hk [112, 117, 116] (b := false) rfl
  have u4 := op_is hk [100, 101, 108] (b := false) rfl
  have u5 := op_is hk [105, 102] (b := false) rfl
  have u6 := op_is hk [119, 104, 105, 108, 101] (b := false) rfl
  have u7 := op_is hk [102, 111, 114] (b := false) rfl
  have u8 := op_is hk [100, 101, 102] (b := false) rfl
  have u9 := op_is hk [116, 114, 121] (b := false) rfl
  have u10 := op_is hk [114, 101, 116, 117, 114, 110] (b := false) rfl
  have u11 := op_is hk [114, 97, 105, 115, 101] (b := false) rfl
  have u12 := op_is hk [103, 108, 111, 98, 97, 108] (b := false) rfl
  have u13 := op_is hk [110, 111, 110, 108, 111, 99, 97, 108] (b := false) rfl
  have hkz : (toBA s.kind).size ≤ 8 := by rw [toBA_len, hk]; decide
  have hkz2 : s.kind.length ≤ 8 := by rw [hk]; decide
  have hnm := named_of hr (nil_named (hform.2.2.1 rfl)) (nil_named (hform.2.2.2.1 rfl))
  have Hnm := Lib.hid hnm; have Hps := Lib.hid H.ps
  have hpb : strsBulk s.p ≤ 1100000 := by have := Stm.bulk_eq s; have := H.bulk; omega
  clear hk hform hnm
  have hkl : s.kind.length ≤ 2000000 := by have := Stm.bulk_eq s; have := H.bulk; omega
  have hnl : s.name.length ≤ 1100000 := by have := Stm.bulk_eq s; have := H.bulk; omega
  obtain ⟨ap, cp, rfl, hpcap, hpr⟩ := H.ps
  obtain ⟨al, cl, rfl, hlcap, hlr⟩ := H.ls
  obtain ⟨ab, cb, rfl, hbr⟩ := H.bs
  obtain ⟨ae, ce, rfl, her⟩ := H.es
  obtain ⟨ha, sa, sfa⟩ := H.wr.alloc (.cells #[.pointer (some ⟨x, 0, none⟩)] 73)
  obtain ⟨hb, sb, sfb⟩ := ha.alloc (.cells #[.string (toBA s.kind), .string (toBA s.name), .slice ap s.p.length cp, .slice al s.l.length cl, .slice ab s.body.length cb, .slice ae s.els.length ce] 82)
  have hbp0 : BoxP (w.alloc (.cells #[.pointer (some ⟨x, 0, none⟩)] 73)) x w.heap.size := ⟨heap_alloc_new w _, sfa⟩
  have hbp := hbp0.step sb
  have hbx : BoxS _ x (w.alloc (.cells #[.pointer (some ⟨x, 0, none⟩)] 73)).heap.size s ap cp al cl ab cb ae ce := ⟨heap_alloc_new _ _, sfb⟩
  have hsab := sa.trans sb
  have hR := right_any hb s ap al ab ae cp cl cb ce hkl hnl (H.glob.below (WStp.below H.wr hsab))
  have hhp : (w.alloc (.cells #[.pointer (some ⟨x, 0, none⟩)] 73)).heap.size = w.heap.size + 1 := by simp
  rw [hhp] at hbx
  have k0 := hbx.c0
  have k1 := hbx.c1
  have k2 := hbx.c2
  have k3 := hbx.c3
  have k4 := hbx.c4
  have k5 := hbx.c5
  have kp := hbp.c0
  rw [hr] at hR
  have Hbp := Lib.hid hbp; have Hbx := Lib.hid hbx; have Sab := Lib.hid hsab; have HR := Lib.hid hR; have Hr := Lib.hid hr; have HH := Lib.hid H; have Hpr := Lib.hid hpr; have Hlr := Lib.hid hlr
  clear ha sa sfa hb sb sfb hbp0 hbp hbx hsab hR hhp hr H hpr hlr hbr her
  go_enter Tryz.func33, Tryz.ntmps33
  go_wp2_with fail
  generalize (w.alloc (.cells #[.pointer (some ⟨x, 0, none⟩)] 73)).alloc (.cells #[.string (toBA s.kind), .string (toBA s.name), .slice ap s.p.length cp, .slice al s.l.length cl, .slice ab s.body.length cb, .slice ae s.els.length ce] 82) = wA at HR Hbp Hbx Sab k0 k1 k2 k3 k4 k5 kp ⊢
  generalize hbpn : w.heap.size = bp at Hbp Hbx k0 k1 k2 k3 k4 k5 kp ⊢
  clear hbpn
  refine HR.out.mono ?_
  rintro _ w2 ⟨rfl, h2, s2⟩
  clear k0 k1 k2 k3 k4 k5 kp HR
  have hb2 := Hbx.out.step s2
  have hp2 := Hbp.out.step s2
  have k0 := hb2.c0
  have k1 := hb2.c1
  have k2 := hb2.c2
  have k3 := hb2.c3
  have k4 := hb2.c4
  have k5 := hb2.c5
  have kp := hp2.c0
  have hx2 := Nx.right st s 0 0
  have B2 := Lib.hid hb2; have P2 := Lib.hid hp2; have S2 := Lib.hid (Sab.out.trans s2); have N2 := Lib.hid hx2; have H2 := Lib.hid h2
  have Bel2 := Lib.hid (WStp.below HH.out.wr S2.out)
  clear h2 s2 hb2 hp2 hx2 Hbx Hbp Sab
  have Hr2 : Hid ((st.right s).ok = true) := Hr
  generalize st.right s = st2 at N2 H2 Hr2
  have hns : (toBA s.name).size ≤ 1100000 := by rw [toBA_len]; exact hnl
  have hin2 := N2.out.inn
  have hln2 := N2.out.len
  have hii := HH.out.inn
  have hll := HH.out.len
  have Hwl := Lib.hid (wline_any H2.out (toBA s.kind) (by omega) (by ((repeat (first | rw [ByteArray.size_append] | rw [size_lit1] | rw [size_lit2] | rw [size_lit3] | rw [size_lit4] | rw [size_lit5] | rw [size_lit6] | rw [size_lit7] | rw [size_lit8])); (first | done | omega))) (by omega))
  go_wp2_with fail
  refine Hwl.out.mono ?_
  rintro _ w9 ⟨p9, v9, l9, rfl, h9, s9⟩
  have H9 := Lib.hid h9; have S9 := Lib.hid (S2.out.trans s9)
  clear h9 s9 Hwl
  go_wp2_with fail
  go_end0
  refine ⟨_, p9, v9, l9, rfl, N2.out.trans (nx_line (st := st2) (4 * st2.inn + (toBA s.kind).size + 1)) ?_ ?_, fun _ => Hnm.out, H9.out, S9.out⟩
  · have := Stm.nodes_eq s; omega
  · have := Stm.bulk_eq s; ((repeat (first | rw [ByteArray.size_append] | rw [size_lit1] | rw [size_lit2] | rw [size_lit3] | rw [size_lit4] | rw [size_lit5] | rw [size_lit6] | rw [size_lit7] | rw [size_lit8])); (first | done | omega))
set_option maxRecDepth 100000 in
set_option maxHeartbeats 20000000 in
theorem stmt_continue {s : Stm} {deep : Nat} {w : World} {x : Nat} {st : WS} {p v : Value} {l : List UInt8} {vp vl vb ve : Value} (H : StmIn s deep w x st p v l vp vl vb ve) (hr : (st.right s).ok = true) (hk : s.kind = sContinue) :
    Calls Tryz.prog 33 #[.pointer (some ⟨x, 0, none⟩), .agg #[.string (toBA s.kind), .string (toBA s.name), vp, vl, vb, ve], .int .i64 (deep : Int)] w (WrPost x w st (8 * s.nodes - 1) (20000000 * s.bulk) fun st' => st'.ok = true → s.named) := by
  have hform := form_parts (f := ⟨false, false, 0, false, false⟩) (by rw [hk]; rfl) (right_ok hr).1
  have u1 := op_is hk [101, 120, 112, 114] (b := false) rfl
  have u2 := op_is hk [115, 101, 116] (b := false) rfl
  have u3 := op_is hk [112, 117, 116] (b := false) rfl
  have u4 := op_is hk [100, 101, 108] (b := false) rfl
  have u5 := op_is hk [105, 102] (b := false) rfl
  have u6 := op_is hk [119, 104, 105, 108, 101] (b := false) rfl
  have u7 := op_is hk [102, 111, 114] (b := false) rfl
  have u8 := op_is hk [100, 101, 102] (b := false) rfl
  have u9 := op_is hk [116, 114, 121] (b := false) rfl
  have u10 := op_is hk [114, 101, 116, 117, 114, 110] (b := false) rfl
  have u11 := op_is hk [114, 97, 105, 115, 101] (b := false) rfl
  have u12 := op_is hk [103, 108, 111, 98, 97, 108] (b := false) rfl
  have u13 := op_is hk [110, 111, 110, 108, 111, 99, 97, 108] (b := false) rfl
  have hkz : (toBA s.kind).size ≤ 8 := by rw [toBA_len, hk]; decide
  have hkz2 : s.kind.length ≤ 8 := by rw [hk]; decide
  have hnm := named_of hr (nil_named (hform.2.2.1 rfl)) (nil_named (hform.2.2.2.1 rfl))
  have Hnm := Lib.hid hnm; have Hps := Lib.hid H.ps
  have hpb : strsBulk s.p ≤ 1100000 := by have := Stm.bulk_eq s; have := H.bulk; omega
  clear hk hform hnm
  have hkl : s.kind.length ≤ 2000000 := by have := Stm.bulk_eq s; have := H.bulk; omega
  have hnl : s.name.length ≤ 1100000 := by have := Stm.bulk_eq s; have := H.bulk; omega
  obtain ⟨ap, cp, rfl, hpcap, hpr⟩ := H.ps
  obtain ⟨al, cl, rfl, hlcap, hlr⟩ := H.ls
  obtain ⟨ab, cb, rfl, hbr⟩ := H.bs
  obtain ⟨ae, ce, rfl, her⟩ := H.es
  obtain ⟨ha, sa, sfa⟩ := H.wr.alloc (.cells #[.pointer (some ⟨x, 0, none⟩)] 73)
  obtain ⟨hb, sb, sfb⟩ := ha.alloc (.cells #[.string (toBA s.kind), .string (toBA s.name), .slice ap s.p.length cp, .slice al s.l.length cl, .slice ab s.body.length cb, .slice ae s.els.length ce] 82)
  have hbp0 : BoxP (w.alloc (.cells #[.pointer (some ⟨x, 0, none⟩)] 73)) x w.heap.size := ⟨heap_alloc_new w _, sfa⟩
  have hbp := hbp0.step sb
  have hbx : BoxS _ x (w.alloc (.cells #[.pointer (some ⟨x, 0, none⟩)] 73)).heap.size s ap cp al cl ab cb ae ce := ⟨heap_alloc_new _ _, sfb⟩
  have hsab := sa.trans sb
  have hR := right_any hb s ap al ab ae cp cl cb ce hkl hnl (H.glob.below (WStp.below H.wr hsab))
  have hhp : (w.alloc (.cells #[.pointer (some ⟨x, 0, none⟩)] 73)).heap.size = w.heap.size + 1 := by simp
  rw [hhp] at hbx
  have k0 := hbx.c0
  have k1 := hbx.c1
  have k2 := hbx.c2
  have k3 := hbx.c3
  have k4 := hbx.c4
  have k5 := hbx.c5
  have kp := hbp.c0
  rw [hr] at hR
  have Hbp := Lib.hid hbp; have Hbx := Lib.hid hbx; have Sab := Lib.hid hsab; have HR := Lib.hid hR; have Hr := Lib.hid hr; have HH := Lib.hid H; have Hpr := Lib.hid hpr; have Hlr := Lib.hid hlr
  clear ha sa sfa hb sb sfb hbp0 hbp hbx hsab hR hhp hr H hpr hlr hbr her
  go_enter Tryz.func33, Tryz.ntmps33
  go_wp2_with fail
  generalize (w.alloc (.cells #[.pointer (some ⟨x, 0, none⟩)] 73)).alloc (.cells #[.string (toBA s.kind), .string (toBA s.name), .slice ap s.p.length cp, .slice al s.l.length cl, .slice ab s.body.length cb, .slice ae s.els.length ce] 82) = wA at HR Hbp Hbx Sab k0 k1 k2 k3 k4 k5 kp ⊢
  generalize hbpn : w.heap.size = bp at Hbp Hbx k0 k1 k2 k3 k4 k5 kp ⊢
  clear hbpn
  refine HR.out.mono ?_
  rintro _ w2 ⟨rfl, h2, s2⟩
  clear k0 k1 k2 k3 k4 k5 kp HR
  have hb2 := Hbx.out.step s2
  have hp2 := Hbp.out.step s2
  have k0 := hb2.c0
  have k1 := hb2.c1
  have k2 := hb2.c2
  have k3 := hb2.c3
  have k4 := hb2.c4
  have k5 := hb2.c5
  have kp := hp2.c0
  have hx2 := Nx.right st s 0 0
  have B2 := Lib.hid hb2; have P2 := Lib.hid hp2; have S2 := Lib.hid (Sab.out.trans s2); have N2 := Lib.hid hx2; have H2 := Lib.hid h2
  have Bel2 := Lib.hid (WStp.below HH.out.wr S2.out)
  clear h2 s2 hb2 hp2 hx2 Hbx Hbp Sab
  have Hr2 : Hid ((st.right s).ok = true) := Hr
  generalize st.right s = st2 at N2 H2 Hr2
  have hns : (toBA s.name).size ≤ 1100000 := by rw [toBA_len]; exact hnl
  have hin2 := N2.out.inn
  have hln2 := N2.out.len
  have hii := HH.out.inn
  have hll := HH.out.len
  have Hwl := Lib.hid (wline_any H2.out (toBA s.kind) (by omega) (by ((repeat (first | rw [ByteArray.size_append] | rw [size_lit1] | rw [size_lit2] | rw [size_lit3] | rw [size_lit4] | rw [size_lit5] | rw [size_lit6] | rw [size_lit7] | rw [size_lit8])); (first | done | omega))) (by omega))
  go_wp2_with fail
  refine Hwl.out.mono ?_
  rintro _ w9 ⟨p9, v9, l9, rfl, h9, s9⟩
  have H9 := Lib.hid h9; have S9 := Lib.hid (S2.out.trans s9)
  clear h9 s9 Hwl
  go_wp2_with fail
  go_end0
  refine ⟨_, p9, v9, l9, rfl, N2.out.trans (nx_line (st := st2) (4 * st2.inn + (toBA s.kind).size + 1)) ?_ ?_, fun _ => Hnm.out, H9.out, S9.out⟩
  · have := Stm.nodes_eq s; omega
  · have := Stm.bulk_eq s; ((repeat (first | rw [ByteArray.size_append] | rw [size_lit1] | rw [size_lit2] | rw [size_lit3] | rw [size_lit4] | rw [size_lit5] | rw [size_lit6] | rw [size_lit7] | rw [size_lit8])); (first | done | omega))
set_option maxRecDepth 100000 in
set_option maxHeartbeats 20000000 in
theorem stmt_pass {s : Stm} {deep : Nat} {w : World} {x : Nat} {st : WS} {p v : Value} {l : List UInt8} {vp vl vb ve : Value} (H : StmIn s deep w x st p v l vp vl vb ve) (hr : (st.right s).ok = true) (hk : s.kind = sPass) :
    Calls Tryz.prog 33 #[.pointer (some ⟨x, 0, none⟩), .agg #[.string (toBA s.kind), .string (toBA s.name), vp, vl, vb, ve], .int .i64 (deep : Int)] w (WrPost x w st (8 * s.nodes - 1) (20000000 * s.bulk) fun st' => st'.ok = true → s.named) := by
  have hform := form_parts (f := ⟨false, false, 0, false, false⟩) (by rw [hk]; rfl) (right_ok hr).1
  have u1 := op_is hk [101, 120, 112, 114] (b := false) rfl
  have u2 := op_is hk [115, 101, 116] (b := false) rfl
  have u3 := op_is hk [112, 117, 116] (b := false) rfl
  have u4 := op_is hk [100, 101, 108] (b := false) rfl
  have u5 := op_is hk [105, 102] (b := false) rfl
  have u6 := op_is hk [119, 104, 105, 108, 101] (b := false) rfl
  have u7 := op_is hk [102, 111, 114] (b := false) rfl
  have u8 := op_is hk [100, 101, 102] (b := false) rfl
  have u9 := op_is hk [116, 114, 121] (b := false) rfl
  have u10 := op_is hk [114, 101, 116, 117, 114, 110] (b := false) rfl
  have u11 := op_is hk [114, 97, 105, 115, 101] (b := false) rfl
  have u12 := op_is hk [103, 108, 111, 98, 97, 108] (b := false) rfl
  have u13 := op_is hk [110, 111, 110, 108, 111, 99, 97, 108] (b := false) rfl
  have hkz : (toBA s.kind).size ≤ 8 := by rw [toBA_len, hk]; decide
  have hkz2 : s.kind.length ≤ 8 := by rw [hk]; decide
  have hnm := named_of hr (nil_named (hform.2.2.1 rfl)) (nil_named (hform.2.2.2.1 rfl))
  have Hnm := Lib.hid hnm; have Hps := Lib.hid H.ps
  have hpb : strsBulk s.p ≤ 1100000 := by have := Stm.bulk_eq s; have := H.bulk; omega
  clear hk hform hnm
  have hkl : s.kind.length ≤ 2000000 := by have := Stm.bulk_eq s; have := H.bulk; omega
  have hnl : s.name.length ≤ 1100000 := by have := Stm.bulk_eq s; have := H.bulk; omega
  obtain ⟨ap, cp, rfl, hpcap, hpr⟩ := H.ps
  obtain ⟨al, cl, rfl, hlcap, hlr⟩ := H.ls
  obtain ⟨ab, cb, rfl, hbr⟩ := H.bs
  obtain ⟨ae, ce, rfl, her⟩ := H.es
  obtain ⟨ha, sa, sfa⟩ := H.wr.alloc (.cells #[.pointer (some ⟨x, 0, none⟩)] 73)
  obtain ⟨hb, sb, sfb⟩ := ha.alloc (.cells #[.string (toBA s.kind), .string (toBA s.name), .slice ap s.p.length cp, .slice al s.l.length cl, .slice ab s.body.length cb, .slice ae s.els.length ce] 82)
  have hbp0 : BoxP (w.alloc (.cells #[.pointer (some ⟨x, 0, none⟩)] 73)) x w.heap.size := ⟨heap_alloc_new w _, sfa⟩
  have hbp := hbp0.step sb
  have hbx : BoxS _ x (w.alloc (.cells #[.pointer (some ⟨x, 0, none⟩)] 73)).heap.size s ap cp al cl ab cb ae ce := ⟨heap_alloc_new _ _, sfb⟩
  have hsab := sa.trans sb
  have hR := right_any hb s ap al ab ae cp cl cb ce hkl hnl (H.glob.below (WStp.below H.wr hsab))
  have hhp : (w.alloc (.cells #[.pointer (some ⟨x, 0, none⟩)] 73)).heap.size = w.heap.size + 1 := by simp
  rw [hhp] at hbx
  have k0 := hbx.c0
  have k1 := hbx.c1
  have k2 := hbx.c2
  have k3 := hbx.c3
  have k4 := hbx.c4
  have k5 := hbx.c5
  have kp := hbp.c0
  rw [hr] at hR
  have Hbp := Lib.hid hbp; have Hbx := Lib.hid hbx; have Sab := Lib.hid hsab; have HR := Lib.hid hR; have Hr := Lib.hid hr; have HH := Lib.hid H; have Hpr := Lib.hid hpr; have Hlr := Lib.hid hlr
  clear ha sa sfa hb sb sfb hbp0 hbp hbx hsab hR hhp hr H hpr hlr hbr her
  go_enter Tryz.func33, Tryz.ntmps33
  go_wp2_with fail
  generalize (w.alloc (.cells #[.pointer (some ⟨x, 0, none⟩)] 73)).alloc (.cells #[.string (toBA s.kind), .string (toBA s.name), .slice ap s.p.length cp, .slice al s.l.length cl, .slice ab s.body.length cb, .slice ae s.els.length ce] 82) = wA at HR Hbp Hbx Sab k0 k1 k2 k3 k4 k5 kp ⊢
  generalize hbpn : w.heap.size = bp at Hbp Hbx k0 k1 k2 k3 k4 k5 kp ⊢
  clear hbpn
  refine HR.out.mono ?_
  rintro _ w2 ⟨rfl, h2, s2⟩
  clear k0 k1 k2 k3 k4 k5 kp HR
  have hb2 := Hbx.out.step s2
  have hp2 := Hbp.out.step s2
  have k0 := hb2.c0
  have k1 := hb2.c1
  have k2 := hb2.c2
  have k3 := hb2.c3
  have k4 := hb2.c4
  have k5 := hb2.c5
  have kp := hp2.c0
  have hx2 := Nx.right st s 0 0
  have B2 := Lib.hid hb2; have P2 := Lib.hid hp2; have S2 := Lib.hid (Sab.out.trans s2); have N2 := Lib.hid hx2; have H2 := Lib.hid h2
  have Bel2 := Lib.hid (WStp.below HH.out.wr S2.out)
  clear h2 s2 hb2 hp2 hx2 Hbx Hbp Sab
  have Hr2 : Hid ((st.right s).ok = true) := Hr
  generalize st.right s = st2 at N2 H2 Hr2
  have hns : (toBA s.name).size ≤ 1100000 := by rw [toBA_len]; exact hnl
  have hin2 := N2.out.inn
  have hln2 := N2.out.len
  have hii := HH.out.inn
  have hll := HH.out.len
  have Hwl := Lib.hid (wline_any H2.out (toBA s.kind) (by omega) (by ((repeat (first | rw [ByteArray.size_append] | rw [size_lit1] | rw [size_lit2] | rw [size_lit3] | rw [size_lit4] | rw [size_lit5] | rw [size_lit6] | rw [size_lit7] | rw [size_lit8])); (first | done | omega))) (by omega))
  go_wp2_with fail
  refine Hwl.out.mono ?_
  rintro _ w9 ⟨p9, v9, l9, rfl, h9, s9⟩
  have H9 := Lib.hid h9; have S9 := Lib.hid (S2.out.trans s9)
  clear h9 s9 Hwl
  go_wp2_with fail
  go_end0
  refine ⟨_, p9, v9, l9, rfl, N2.out.trans (nx_line (st := st2) (4 * st2.inn + (toBA s.kind).size + 1)) ?_ ?_, fun _ => Hnm.out, H9.out, S9.out⟩
  · have := Stm.nodes_eq s; omega
  · have := Stm.bulk_eq s; ((repeat (first | rw [ByteArray.size_append] | rw [size_lit1] | rw [size_lit2] | rw [size_lit3] | rw [size_lit4] | rw [size_lit5] | rw [size_lit6] | rw [size_lit7] | rw [size_lit8])); (first | done | omega))
set_option maxRecDepth 100000 in
set_option maxHeartbeats 20000000 in
theorem stmt_return0 {s : Stm} {deep : Nat} {w : World} {x : Nat} {st : WS} {p v : Value} {l : List UInt8} {vp vl vb ve : Value} (H : StmIn s deep w x st p v l vp vl vb ve) (hr : (st.right s).ok = true) (hk : s.kind = sReturn) (h1 : s.l.length = 0) :
    Calls Tryz.prog 33 #[.pointer (some ⟨x, 0, none⟩), .agg #[.string (toBA s.kind), .string (toBA s.name), vp, vl, vb, ve], .int .i64 (deep : Int)] w (WrPost x w st (8 * s.nodes - 1) (20000000 * s.bulk) fun st' => st'.ok = true → s.named) := by
  have hform := form_parts (f := ⟨false, false, -1, false, false⟩) (by rw [hk]; rfl) (right_ok hr).1
  have u1 := op_is hk [101, 120, 112, 114] (b := false) rfl
  have u2 := op_is hk [115, 101, 116] (b := false) rfl
  have u3 := op_is hk [112, 117, 116] (b := false) rfl
  have u4 := op_is hk [100, 101, 108] (b := false) rfl
  have u5 := op_is hk [105, 102] (b := false) rfl
  have u6 := op_is hk [119, 104, 105, 108, 101] (b := false) rfl
  have u7 := op_is hk [102, 111, 114] (b := false) rfl
  have u8 := op_is hk [100, 101, 102] (b := false) rfl
  have u9 := op_is hk [116, 114, 121] (b := false) rfl
  have u10 := op_is hk [114, 101, 116, 117, 114, 110] (b := true) rfl

  have t1 : ((s.l.length : Int) == 0) = true := by rw [beq_iff_eq]; omega
  clear h1
  have hkz : (toBA s.kind).size ≤ 8 := by rw [toBA_len, hk]; decide
  have hkz2 : s.kind.length ≤ 8 := by rw [hk]; decide
  have hnm := named_of hr (nil_named (hform.2.2.1 rfl)) (nil_named (hform.2.2.2.1 rfl))
  have Hnm := Lib.hid hnm; have Hps := Lib.hid H.ps
  have hpb : strsBulk s.p ≤ 1100000 := by have := Stm.bulk_eq s; have := H.bulk; omega
  clear hk hform hnm
  have hkl : s.kind.length ≤ 2000000 := by have := Stm.bulk_eq s; have := H.bulk; omega
  have hnl : s.name.length ≤ 1100000 := by have := Stm.bulk_eq s; have := H.bulk; omega
  obtain ⟨ap, cp, rfl, hpcap, hpr⟩ := H.ps
  obtain ⟨al, cl, rfl, hlcap, hlr⟩ := H.ls
  obtain ⟨ab, cb, rfl, hbr⟩ := H.bs
  obtain ⟨ae, ce, rfl, her⟩ := H.es
  obtain ⟨ha, sa, sfa⟩ := H.wr.alloc (.cells #[.pointer (some ⟨x, 0, none⟩)] 73)
  obtain ⟨hb, sb, sfb⟩ := ha.alloc (.cells #[.string (toBA s.kind), .string (toBA s.name), .slice ap s.p.length cp, .slice al s.l.length cl, .slice ab s.body.length cb, .slice ae s.els.length ce] 82)
  have hbp0 : BoxP (w.alloc (.cells #[.pointer (some ⟨x, 0, none⟩)] 73)) x w.heap.size := ⟨heap_alloc_new w _, sfa⟩
  have hbp := hbp0.step sb
  have hbx : BoxS _ x (w.alloc (.cells #[.pointer (some ⟨x, 0, none⟩)] 73)).heap.size s ap cp al cl ab cb ae ce := ⟨heap_alloc_new _ _, sfb⟩
  have hsab := sa.trans sb
  have hR := right_any hb s ap al ab ae cp cl cb ce hkl hnl (H.glob.below (WStp.below H.wr hsab))
  have hhp : (w.alloc (.cells #[.pointer (some ⟨x, 0, none⟩)] 73)).heap.size = w.heap.size + 1 := by simp
  rw [hhp] at hbx
  have k0 := hbx.c0
  have k1 := hbx.c1
  have k2 := hbx.c2
  have k3 := hbx.c3
  have k4 := hbx.c4
  have k5 := hbx.c5
  have kp := hbp.c0
  rw [hr] at hR
  have Hbp := Lib.hid hbp; have Hbx := Lib.hid hbx; have Sab := Lib.hid hsab; have HR := Lib.hid hR; have Hr := Lib.hid hr; have HH := Lib.hid H; have Hpr := Lib.hid hpr; have Hlr := Lib.hid hlr
  clear ha sa sfa hb sb sfb hbp0 hbp hbx hsab hR hhp hr H hpr hlr hbr her
  go_enter Tryz.func33, Tryz.ntmps33
  go_wp2_with fail
  generalize (w.alloc (.cells #[.pointer (some ⟨x, 0, none⟩)] 73)).alloc (.cells #[.string (toBA s.kind), .string (toBA s.name), .slice ap s.p.length cp, .slice al s.l.length cl, .slice ab s.body.length cb, .slice ae s.els.length ce] 82) = wA at HR Hbp Hbx Sab k0 k1 k2 k3 k4 k5 kp ⊢
  generalize hbpn : w.heap.size = bp at Hbp Hbx k0 k1 k2 k3 k4 k5 kp ⊢
  clear hbpn
  refine HR.out.mono ?_
  rintro _ w2 ⟨rfl, h2, s2⟩
  clear k0 k1 k2 k3 k4 k5 kp HR
  have hb2 := Hbx.out.step s2
  have hp2 := Hbp.out.step s2
  have k0 := hb2.c0
  have k1 := hb2.c1
  have k2 := hb2.c2
  have k3 := hb2.c3
  have k4 := hb2.c4
  have k5 := hb2.c5
  have kp := hp2.c0
  have hx2 := Nx.right st s 0 0
  have B2 := Lib.hid hb2; have P2 := Lib.hid hp2; have S2 := Lib.hid (Sab.out.trans s2); have N2 := Lib.hid hx2; have H2 := Lib.hid h2
  have Bel2 := Lib.hid (WStp.below HH.out.wr S2.out)
  clear h2 s2 hb2 hp2 hx2 Hbx Hbp Sab
  have Hr2 : Hid ((st.right s).ok = true) := Hr
  generalize st.right s = st2 at N2 H2 Hr2
  have hns : (toBA s.name).size ≤ 1100000 := by rw [toBA_len]; exact hnl
  have hin2 := N2.out.inn
  have hln2 := N2.out.len
  have hii := HH.out.inn
  have hll := HH.out.len
  have Hwl := Lib.hid (wline_any H2.out ((⟨#[114, 101, 116, 117, 114, 110]⟩ : ByteArray)) (by omega) (by ((repeat (first | rw [ByteArray.size_append] | rw [size_lit1] | rw [size_lit2] | rw [size_lit3] | rw [size_lit4] | rw [size_lit5] | rw [size_lit6] | rw [size_lit7] | rw [size_lit8])); (first | done | omega))) (by omega))
  go_wp2_with fail
  refine Hwl.out.mono ?_
  rintro _ w9 ⟨p9, v9, l9, rfl, h9, s9⟩
  have H9 := Lib.hid h9; have S9 := Lib.hid (S2.out.trans s9)
  clear h9 s9 Hwl
  go_wp2_with fail
  go_end0
  refine ⟨_, p9, v9, l9, rfl, N2.out.trans (nx_line (st := st2) (4 * st2.inn + ((⟨#[114, 101, 116, 117, 114, 110]⟩ : ByteArray)).size + 1)) ?_ ?_, fun _ => Hnm.out, H9.out, S9.out⟩
  · have := Stm.nodes_eq s; omega
  · have := Stm.bulk_eq s; ((repeat (first | rw [ByteArray.size_append] | rw [size_lit1] | rw [size_lit2] | rw [size_lit3] | rw [size_lit4] | rw [size_lit5] | rw [size_lit6] | rw [size_lit7] | rw [size_lit8])); (first | done | omega))
end Go.Proofs.YtdoaeapahgmfoaaGreatDoor
