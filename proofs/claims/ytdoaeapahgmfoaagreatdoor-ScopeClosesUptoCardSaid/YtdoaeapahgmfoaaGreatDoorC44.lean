/- The writer's statement: put, del. The writer's statement, whole. tree.Text of statements: it hands back no error for named statements alone, else ErrShape. tree.Text: its outcome by a statement T that says when it fails; the text of nothing. -/
import Derived.BigQuiet
import Derived.Test.YtdoaeapahgmfoaaGreatDoorC43
namespace Go.Proofs.YtdoaeapahgmfoaaGreatDoor
open Go.RowKit
theorem three_bulk {l : List Ex} (h : l.length = 3) (hi : 0 < l.length) (hj : 1 < l.length) (hk : 2 < l.length) : exsBulk l = l[0].bulk + l[1].bulk + l[2].bulk ∧ exsNodes l = l[0].nodes + l[1].nodes + l[2].nodes := by
  match l, h with
  | [a, b, c], _ => simp [exsBulk, exsNodes]; omega
set_option maxRecDepth 100000 in
set_option maxHeartbeats 20000000 in
theorem stmt_del {s : Stm} {deep : Nat} {w : World} {x : Nat} {st : WS} {p v : Value} {l : List UInt8} {vp vl vb ve : Value} (H : StmIn s deep w x st p v l vp vl vb ve) (hr : (st.right s).ok = true) (hk : s.kind = sDel) :
    Calls Tryz.prog 33 #[.pointer (some ⟨x, 0, none⟩), .agg #[.string (toBA s.kind), .string (toBA s.name), vp, vl, vb, ve], .int .i64 (deep : Int)] w (WrPost x w st (8 * s.nodes - 1) (20000000 * s.bulk) fun st' => st'.ok = true → s.named) := by
  have hform := form_parts (f := ⟨false, false, 2, false, false⟩) (by rw [hk]; rfl) (right_ok hr).1
  have u1 := op_is hk [101, 120, 112, 114] (b := false) rfl
  have u2 := op_is hk [115, 101, 116] (b := false) rfl
  have u3 := op_is hk [112, 117, 116] (b := false) rfl
  have u4 := op_is hk [100, 101, 108] (b := true) rfl
  have h1 : s.l.length = 2 := by have := hform.2.2.2.2; dsimp only at this; omega
  have hl0 : 0 < s.l.length := by omega
  have hl1 : 1 < s.l.length := by omega
  have hl1i : (1 : Int) < (s.l.length : Int) := by omega
  have hb := two_bulk h1 hl0 hl1
  have hnm := named_of hr (nil_named (hform.2.2.1 rfl)) (nil_named (hform.2.2.2.1 rfl))
  have Hnm := Lib.hid hnm; have HL := Lib.hid h1; have Hb := Lib.hid hb
  clear hk hform hnm h1 hb
  have hkl : s.kind.length ≤ 2000000 := by have := Stm.bulk_eq s; have := H.bulk; omega
  have hnl : s.name.length ≤ 1100000 := by have := Stm.bulk_eq s; have := H.bulk; omega
  obtain ⟨ap, cp, rfl, hpcap, hpr⟩ := H.ps
  obtain ⟨al, cl, rfl, hlcap, hlr⟩ := H.ls
  obtain ⟨ab, cb, rfl, hbr⟩ := H.bs
  obtain ⟨ae, ce, rfl, her⟩ := H.es
  obtain ⟨ha, sa, sfa⟩ := H.wr.alloc (.cells #[.pointer (some ⟨x, 0, none⟩)] 73)
  obtain ⟨hb, sb, sfb⟩ := ha.alloc (.cells #[.string (toBA s.kind), .string (toBA s.name), .slice ap s.p.length cp, .slice al s.l.length cl, .slice ab s.body.length cb, .slice ae s.els.length ce] 82)
  have hbp0 : BoxP (w.alloc (.cells #[.pointer (some ⟨x, 0, none⟩)] 73)) x w.heap.size := ⟨heap_alloc_new w _, sfa⟩
  have hbp := hbp0.step sb
  have hbx : BoxS _ x (w.alloc (.cells #[.pointer (some ⟨x, 0, none⟩)] 73)).heap.size s ap cp al cl ab cb ae ce := ⟨heap_alloc_new _ _, sfb⟩
  have hsab := sa.trans sb
  have hR := right_any hb s ap al ab ae cp cl cb ce hkl hnl (H.glob.below (WStp.below H.wr hsab))
  have hhp : (w.alloc (.cells #[.pointer (some ⟨x, 0, none⟩)] 73)).heap.size = w.heap.size + 1 := by simp
  rw [hhp] at hbx
  have k0 := hbx.c0
  have k1 := hbx.c1
  have k2 := hbx.c2
  have k3 := hbx.c3
  have k4 := hbx.c4
  have k5 := hbx.c5
  have kp := hbp.c0
  rw [hr] at hR
  have Hbp := Lib.hid hbp; have Hbx := Lib.hid hbx; have Sab := Lib.hid hsab; have HR := Lib.hid hR; have Hr := Lib.hid hr; have HH := Lib.hid H; have Hpr := Lib.hid hpr; have Hlr := Lib.hid hlr
  clear ha sa sfa hb sb sfb hbp0 hbp hbx hsab hR hhp hr H hpr hlr hbr her hkl
  go_enter Tryz.func33, Tryz.ntmps33
  go_wp2_with fail
  generalize (w.alloc (.cells #[.pointer (some ⟨x, 0, none⟩)] 73)).alloc (.cells #[.string (toBA s.kind), .string (toBA s.name), .slice ap s.p.length cp, .slice al s.l.length cl, .slice ab s.body.length cb, .slice ae s.els.length ce] 82) = wA at HR Hbp Hbx Sab k0 k1 k2 k3 k4 k5 kp ⊢
  generalize hbpn : w.heap.size = bp at Hbp Hbx k0 k1 k2 k3 k4 k5 kp ⊢
  clear hbpn
  refine HR.out.mono ?_
  rintro _ w2 ⟨rfl, h2, s2⟩
  clear k0 k1 k2 k3 k4 k5 kp HR
  have hb2 := Hbx.out.step s2
  have hp2 := Hbp.out.step s2
  have k0 := hb2.c0
  have k1 := hb2.c1
  have k2 := hb2.c2
  have k3 := hb2.c3
  have k4 := hb2.c4
  have k5 := hb2.c5
  have kp := hp2.c0
  have hx2 := Nx.right st s 0 0
  have B2 := Lib.hid hb2; have P2 := Lib.hid hp2; have S2 := Lib.hid (Sab.out.trans s2); have N2 := Lib.hid hx2; have H2 := Lib.hid h2
  have Bel2 := Lib.hid (WStp.below HH.out.wr S2.out)
  clear h2 s2 hb2 hp2 hx2 Hbx Hbp Sab
  have Hr2 : Hid ((st.right s).ok = true) := Hr
  generalize st.right s = st2 at N2 H2 Hr2
  obtain ⟨b, o, rfl, hbx0, hrow⟩ := Hlr.out hl0
  have hn2 : st2.n + 3 * s.l[0].nodes + 3 * s.l[1].nodes ≤ 48000000 := by have := N2.out.n; have := HH.out.n; have := Stm.nodes_eq s; have := Hb.out; omega
  have H2d := Lib.hid H2.out.drew; have S2d := Lib.hid S2.out.drew; have B2d := Lib.hid B2.out.drew; have P2d := Lib.hid P2.out.drew
  have Hat := Lib.hid (at_any HH.out hbx0 hrow hl0 hl1 H2d.out (WStp.below HH.out.wr S2d.out) P2d.out B2d.out hn2)
  have hbb : s.l[0].bulk + s.l[1].bulk ≤ 1100000 := by have := Stm.bulk_eq s; have := HH.out.bulk; have := Hb.out; omega
  clear hn2 hrow
  go_upto_region 13 with fail
  have F2 := Lib.hid (show ∀ r : ByteArray, r.size ≤ 71000000 → ∀ w, (Op.stringOp .add (⟨#[100, 101, 108, 32]⟩) r).run Tryz.prog w = .ok (.string (⟨#[100, 101, 108, 32]⟩ ++ r)) w from fun r hr w => run_string_add_sum w _ _ (by ((repeat (first | rw [ByteArray.size_append] | rw [size_lit1] | rw [size_lit2] | rw [size_lit3] | rw [size_lit4] | rw [size_lit5] | rw [size_lit6] | rw [size_lit7] | rw [size_lit8])); (first | done | omega))))
  go_region_held3 (fun w' => w'.cell? ⟨bp, 0, none⟩ = some (.pointer (some ⟨x, 0, none⟩))) (go_keep)
    ((first
      | (go_at_call 65; refine Hat.out.mono ?_; rintro _ w8 ⟨r8, st8, rfl, hr, hn, h, s8⟩; have hrb8 : r8.size ≤ 71000000 := (by omega); have Hr8 := Lib.hid hr; have Hn8 := Lib.hid (N2.out.trans hn (Nat.le_refl _) (Nat.le_refl _)); have H8 := Lib.hid h; have S8 := Lib.hid (S2d.out.trans s8); have P8 := Lib.hid (P2d.out.step s8); have f2 := F2.out r8 hrb8; have kp := P8.out.c0; clear hr hn h s8)
      | (go_at_call 68; (with_reducible refine (wline_any H8.out (⟨#[100, 101, 108, 32]⟩ ++ r8) (by have := Hn8.out.inn; have := HH.out.inn; omega) (by ((repeat (first | rw [ByteArray.size_append] | rw [size_lit1] | rw [size_lit2] | rw [size_lit3] | rw [size_lit4] | rw [size_lit5] | rw [size_lit6] | rw [size_lit7] | rw [size_lit8])); (first | done | omega))) (by have := Hn8.out.len; have := HH.out.len; omega)).mono ?_); rintro _ w9 ⟨p9, v9, l9, rfl, h9, s9⟩; have H9 := Lib.hid h9; have S9 := Lib.hid (S8.out.trans s9); have P9 := Lib.hid (P8.out.step s9); have kp := P9.out.c0; clear h9 s9)))
  all_goals
    go_wp2_with fail
    go_end0
    refine ⟨_, p9, v9, l9, rfl, Hn8.out.trans (nx_line (st := st8) (4 * st8.inn + (⟨#[100, 101, 108, 32]⟩ ++ r8 : ByteArray).size + 1)) ?_ ?_, fun _ => Hnm.out, H9.out, S9.out⟩
    · have := Stm.nodes_eq s; have := Hb.out; omega
    · have := Stm.bulk_eq s; have := Hb.out; have := Hn8.out.inn; have := HH.out.inn; have := Hr8.out; ((repeat (first | rw [ByteArray.size_append] | rw [size_lit1] | rw [size_lit2] | rw [size_lit3] | rw [size_lit4] | rw [size_lit5] | rw [size_lit6] | rw [size_lit7] | rw [size_lit8])); (first | done | omega))
set_option maxRecDepth 100000 in
set_option maxHeartbeats 20000000 in
theorem stmt_put {s : Stm} {deep : Nat} {w : World} {x : Nat} {st : WS} {p v : Value} {l : List UInt8} {vp vl vb ve : Value} (H : StmIn s deep w x st p v l vp vl vb ve) (hr : (st.right s).ok = true) (hk : s.kind = sPut) :
    Calls Tryz.prog 33 #[.pointer (some ⟨x, 0, none⟩), .agg #[.string (toBA s.kind), .string (toBA s.name), vp, vl, vb, ve], .int .i64 (deep : Int)] w (WrPost x w st (8 * s.nodes - 1) (20000000 * s.bulk) fun st' => st'.ok = true → s.named) := by
  have hform := form_parts (f := ⟨false, false, 3, false, false⟩) (by rw [hk]; rfl) (right_ok hr).1
  have u1 := op_is hk [101, 120, 112, 114] (b := false) rfl
  have u2 := op_is hk [115, 101, 116] (b := false) rfl
  have u3 := op_is hk [112, 117, 116] (b := true) rfl
  have h1 : s.l.length = 3 := by have := hform.2.2.2.2; dsimp only at this; omega
  have hl0 : 0 < s.l.length := by omega
  have hl1 : 1 < s.l.length := by omega
  have hl1i : (1 : Int) < (s.l.length : Int) := by omega
  have hl2 : 2 < s.l.length := by omega
  have hl2i : (2 : Int) < (s.l.length : Int) := by omega
  have hb := three_bulk h1 hl0 hl1 hl2
  have hnm := named_of hr (nil_named (hform.2.2.1 rfl)) (nil_named (hform.2.2.2.1 rfl))
  have Hnm := Lib.hid hnm; have HL := Lib.hid h1; have Hb := Lib.hid hb
  clear hk hform hnm h1 hb
  have hkl : s.kind.length ≤ 2000000 := by have := Stm.bulk_eq s; have := H.bulk; omega
  have hnl : s.name.length ≤ 1100000 := by have := Stm.bulk_eq s; have := H.bulk; omega
  obtain ⟨ap, cp, rfl, hpcap, hpr⟩ := H.ps
  obtain ⟨al, cl, rfl, hlcap, hlr⟩ := H.ls
  obtain ⟨ab, cb, rfl, hbr⟩ := H.bs
  obtain ⟨ae, ce, rfl, her⟩ := H.es
  obtain ⟨ha, sa, sfa⟩ := H.wr.alloc (.cells #[.pointer (some ⟨x, 0, none⟩)] 73)
  obtain ⟨hb, sb, sfb⟩ := ha.alloc (.cells #[.string (toBA s.kind), .string (toBA s.name), .slice ap s.p.length cp, .slice al s.l.length cl, .slice ab s.body.length cb, .slice ae s.els.length ce] 82)
  have hbp0 : BoxP (w.alloc (.cells #[.pointer (some ⟨x, 0, none⟩)] 73)) x w.heap.size := ⟨heap_alloc_new w _, sfa⟩
  have hbp := hbp0.step sb
  have hbx : BoxS _ x (w.alloc (.cells #[.pointer (some ⟨x, 0, none⟩)] 73)).heap.size s ap cp al cl ab cb ae ce := ⟨heap_alloc_new _ _, sfb⟩
  have hsab := sa.trans sb
  have hR := right_any hb s ap al ab ae cp cl cb ce hkl hnl (H.glob.below (WStp.below H.wr hsab))
  have hhp : (w.alloc (.cells #[.pointer (some ⟨x, 0, none⟩)] 73)).heap.size = w.heap.size + 1 := by simp
  rw [hhp] at hbx
  have k0 := hbx.c0
  have k1 := hbx.c1
  have k2 := hbx.c2
  have k3 := hbx.c3
  have k4 := hbx.c4
  have k5 := hbx.c5
  have kp := hbp.c0
  rw [hr] at hR
  have Hbp := Lib.hid hbp; have Hbx := Lib.hid hbx; have Sab := Lib.hid hsab; have HR := Lib.hid hR; have Hr := Lib.hid hr; have HH := Lib.hid H; have Hpr := Lib.hid hpr; have Hlr := Lib.hid hlr
  clear ha sa sfa hb sb sfb hbp0 hbp hbx hsab hR hhp hr H hpr hlr hbr her hkl
  go_enter Tryz.func33, Tryz.ntmps33
  go_wp2_with fail
  generalize (w.alloc (.cells #[.pointer (some ⟨x, 0, none⟩)] 73)).alloc (.cells #[.string (toBA s.kind), .string (toBA s.name), .slice ap s.p.length cp, .slice al s.l.length cl, .slice ab s.body.length cb, .slice ae s.els.length ce] 82) = wA at HR Hbp Hbx Sab k0 k1 k2 k3 k4 k5 kp ⊢
  generalize hbpn : w.heap.size = bp at Hbp Hbx k0 k1 k2 k3 k4 k5 kp ⊢
  clear hbpn
  refine HR.out.mono ?_
  rintro _ w2 ⟨rfl, h2, s2⟩
  clear k0 k1 k2 k3 k4 k5 kp HR
  have hb2 := Hbx.out.step s2
  have hp2 := Hbp.out.step s2
  have k0 := hb2.c0
  have k1 := hb2.c1
  have k2 := hb2.c2
  have k3 := hb2.c3
  have k4 := hb2.c4
  have k5 := hb2.c5
  have kp := hp2.c0
  have hx2 := Nx.right st s 0 0
  have B2 := Lib.hid hb2; have P2 := Lib.hid hp2; have S2 := Lib.hid (Sab.out.trans s2); have N2 := Lib.hid hx2; have H2 := Lib.hid h2
  have Bel2 := Lib.hid (WStp.below HH.out.wr S2.out)
  clear h2 s2 hb2 hp2 hx2 Hbx Hbp Sab
  have Hr2 : Hid ((st.right s).ok = true) := Hr
  generalize st.right s = st2 at N2 H2 Hr2
  obtain ⟨b, o, rfl, hbx0, hrow⟩ := Hlr.out hl0
  obtain ⟨c, ap1, cp1, al1, cl1, hc, hcell, hcall⟩ := schild_of HH.out hbx0 hrow 2 hl2 0 0 rfl 0 0 rfl (by omega) (by omega)
  have hb := Hb.out
  rw [← hc] at hb
  have hkc : termK c 0 = 3 * c.nodes := by unfold termK; rw [if_pos rfl]; omega
  have hcb : c.bulk ≤ 1100000 := by have := Stm.bulk_eq s; have := HH.out.bulk; omega
  have hn2 : st2.n + 3 * s.l[0].nodes + 3 * s.l[1].nodes ≤ 48000000 := by have := N2.out.n; have := HH.out.n; have := Stm.nodes_eq s; omega
  have Hat := Lib.hid (at_any HH.out hbx0 hrow hl0 hl1 H2.out Bel2.out P2.out B2.out hn2)
  have hbb : s.l[0].bulk + s.l[1].bulk ≤ 1100000 := by have := Stm.bulk_eq s; have := HH.out.bulk; omega
  have Hcell := Lib.hid hcell; have Hcall := Lib.hid hcall; have Hc := Lib.hid (And.intro hb hkc)
  clear hcell hcall hb hkc hn2 hrow hc Hb
  go_upto_region 10 with fail
  go_wp2_with (go_at_call 65; refine Hat.out.mono ?_; rintro _ w5 ⟨r5, st5, rfl, hr5, hn5, h5, s5⟩; have hrb5 : r5.size ≤ 71000000 := (by omega); have hs5 := S2.out.trans s5; have S5 := Lib.hid hs5; have P5 := Lib.hid (P2.out.step s5); have B5 := Lib.hid (B2.out.step s5); clear k0 k1 k2 k3 k4 k5 kp; have kp := P5.out.c0; have k3 := B5.out.c3; obtain ⟨q0, q1, q2, q3, q4⟩ := Hcell.out _ (WStp.below HH.out.wr hs5); simp only [Nat.add_assoc, Nat.reduceMul, Nat.reduceAdd] at q0 q1 q2 q3 q4; have Hr5 := Lib.hid hr5; have Hn5 := Lib.hid (N2.out.trans hn5 (Nat.le_refl _) (Nat.le_refl _)); have H5 := Lib.hid h5; clear hr5 hn5 h5 s5 hs5; go_upto_region 11 with fail)
  have hn8 : st5.n + termK c 0 ≤ 49000000 := by have := Hn5.out.n; have := HH.out.n; have := Stm.nodes_eq s; have := Hc.out; omega
  have Hn2 := Lib.hid hn8
  clear hn8
  have H2d := Lib.hid H5.out.drew; have S2d := Lib.hid S5.out.drew; have B2d := Lib.hid B5.out.drew; have P2d := Lib.hid P5.out.drew
  have f1 : ∀ w, (Op.stringOp .add r5 ⟨#[32, 61, 32]⟩).run Tryz.prog w = .ok (.string (r5 ++ ⟨#[32, 61, 32]⟩)) w := fun w => run_string_add_sum w _ _ (by ((repeat (first | rw [ByteArray.size_append] | rw [size_lit1] | rw [size_lit2] | rw [size_lit3] | rw [size_lit4] | rw [size_lit5] | rw [size_lit6] | rw [size_lit7] | rw [size_lit8])); (first | done | omega)))
  have F2 := Lib.hid (show ∀ r : ByteArray, r.size ≤ 71000000 → ∀ w, (Op.stringOp .add (r5 ++ ⟨#[32, 61, 32]⟩) r).run Tryz.prog w = .ok (.string (r5 ++ ⟨#[32, 61, 32]⟩ ++ r)) w from fun r hr w => run_string_add_sum w _ _ (by ((repeat (first | rw [ByteArray.size_append] | rw [size_lit1] | rw [size_lit2] | rw [size_lit3] | rw [size_lit4] | rw [size_lit5] | rw [size_lit6] | rw [size_lit7] | rw [size_lit8])); (first | done | omega))))
  go_region_held3 (fun w' => w'.cell? ⟨bp, 0, none⟩ = some (.pointer (some ⟨x, 0, none⟩)) ∧ w'.cell? ⟨bp + 1, 3, none⟩ = some (.slice (some ⟨b, o, none⟩) s.l.length cl) ∧ w'.cell? ⟨b, o + 10, none⟩ = some (.string (toBA c.op)) ∧ w'.cell? ⟨b, o + 11, none⟩ = some (.int .i64 c.n) ∧ w'.cell? ⟨b, o + 12, none⟩ = some (.string (toBA c.s)) ∧ w'.cell? ⟨b, o + 13, none⟩ = some (.slice ap1 c.p.length cp1) ∧ w'.cell? ⟨b, o + 14, none⟩ = some (.slice al1 c.l.length cl1)) (go_keep)
    ((first
      | (go_at_call 66; (with_reducible refine (Hcall.out _ _ _ _ _ H2d.out (WStp.below HH.out.wr S2d.out) Hn2.out).mono ?_); rintro _ w8 ⟨r8, st8, rfl, hr, hn, h, s8⟩; have hrb8 : r8.size ≤ 71000000 := (by omega); have Hr8 := Lib.hid hr; have Hn8 := Lib.hid (Hn5.out.trans hn (Nat.le_refl _) (Nat.le_refl _)); have H8 := Lib.hid h; have S8 := Lib.hid (S2d.out.trans s8); have B8 := Lib.hid (B2d.out.step s8); have P8 := Lib.hid (P2d.out.step s8); have f2 := F2.out r8 hrb8; have kp := P8.out.c0; have k3 := B8.out.c3; obtain ⟨q0, q1, q2, q3, q4⟩ := Hcell.out _ (WStp.below HH.out.wr S8.out); simp only [Nat.add_assoc, Nat.reduceMul, Nat.reduceAdd] at q0 q1 q2 q3 q4; clear hr hn h s8)
      | (go_at_call 68; (with_reducible refine (wline_any H8.out (r5 ++ ⟨#[32, 61, 32]⟩ ++ r8) (by have := Hn8.out.inn; have := HH.out.inn; omega) (by ((repeat (first | rw [ByteArray.size_append] | rw [size_lit1] | rw [size_lit2] | rw [size_lit3] | rw [size_lit4] | rw [size_lit5] | rw [size_lit6] | rw [size_lit7] | rw [size_lit8])); (first | done | omega))) (by have := Hn8.out.len; have := HH.out.len; omega)).mono ?_); rintro _ w9 ⟨p9, v9, l9, rfl, h9, s9⟩; have H9 := Lib.hid h9; have S9 := Lib.hid (S8.out.trans s9); have B9 := Lib.hid (B8.out.step s9); have P9 := Lib.hid (P8.out.step s9); have kp := P9.out.c0; have k3 := B9.out.c3; obtain ⟨q0, q1, q2, q3, q4⟩ := Hcell.out _ (WStp.below HH.out.wr S9.out); simp only [Nat.add_assoc, Nat.reduceMul, Nat.reduceAdd] at q0 q1 q2 q3 q4; clear h9 s9)))
  all_goals
    go_wp2_with fail
    go_end0
    refine ⟨_, p9, v9, l9, rfl, Hn8.out.trans (nx_line (st := st8) (4 * st8.inn + (r5 ++ ⟨#[32, 61, 32]⟩ ++ r8 : ByteArray).size + 1)) ?_ ?_, fun _ => Hnm.out, H9.out, S9.out⟩
    · have := Stm.nodes_eq s; have := Hc.out; omega
    · have := Stm.bulk_eq s; have := Hc.out; have := Hn8.out.inn; have := HH.out.inn; have := Hr8.out; have := Hr5.out; ((repeat (first | rw [ByteArray.size_append] | rw [size_lit1] | rw [size_lit2] | rw [size_lit3] | rw [size_lit4] | rw [size_lit5] | rw [size_lit6] | rw [size_lit7] | rw [size_lit8])); (first | done | omega))
end Go.Proofs.YtdoaeapahgmfoaaGreatDoor
namespace Go.Proofs.YtdoaeapahgmfoaaGreatDoor
open Go.RowKit
set_option maxRecDepth 100000 in
set_option maxHeartbeats 20000000 in
theorem stmt_not {s : Stm} {deep : Nat} {w : World} {x : Nat} {st : WS} {p v : Value} {l : List UInt8} {vp vl vb ve : Value} (H : StmIn s deep w x st p v l vp vl vb ve) (hr : (st.right s).ok = false) :
    Calls Tryz.prog 33 #[.pointer (some ⟨x, 0, none⟩), .agg #[.string (toBA s.kind), .string (toBA s.name), vp, vl, vb, ve], .int .i64 (deep : Int)] w (WrPost x w st (8 * s.nodes - 1) (20000000 * s.bulk) fun st' => st'.ok = true → s.named) := by
  have hkl : s.kind.length ≤ 2000000 := by have := Stm.bulk_eq s; have := H.bulk; omega
  have hnl : s.name.length ≤ 1100000 := by have := Stm.bulk_eq s; have := H.bulk; omega
  obtain ⟨ap, cp, rfl, hpcap, hpr⟩ := H.ps
  obtain ⟨al, cl, rfl, hlcap, hlr⟩ := H.ls
  obtain ⟨ab, cb, rfl, hbr⟩ := H.bs
  obtain ⟨ae, ce, rfl, her⟩ := H.es
  obtain ⟨ha, sa, sfa⟩ := H.wr.alloc (.cells #[.pointer (some ⟨x, 0, none⟩)] 73)
  obtain ⟨hb, sb, sfb⟩ := ha.alloc (.cells #[.string (toBA s.kind), .string (toBA s.name), .slice ap s.p.length cp, .slice al s.l.length cl, .slice ab s.body.length cb, .slice ae s.els.length ce] 82)
  have hbp0 : BoxP (w.alloc (.cells #[.pointer (some ⟨x, 0, none⟩)] 73)) x w.heap.size := ⟨heap_alloc_new w _, sfa⟩
  have hbp := hbp0.step sb
  have hbx : BoxS _ x (w.alloc (.cells #[.pointer (some ⟨x, 0, none⟩)] 73)).heap.size s ap cp al cl ab cb ae ce := ⟨heap_alloc_new _ _, sfb⟩
  have hsab := sa.trans sb
  have hR := right_any hb s ap al ab ae cp cl cb ce hkl hnl (H.glob.below (WStp.below H.wr hsab))
  have hhp : (w.alloc (.cells #[.pointer (some ⟨x, 0, none⟩)] 73)).heap.size = w.heap.size + 1 := by simp
  rw [hhp] at hbx
  have k0 := hbx.c0
  have k1 := hbx.c1
  have k2 := hbx.c2
  have k3 := hbx.c3
  have k4 := hbx.c4
  have k5 := hbx.c5
  have kp := hbp.c0
  rw [hr] at hR
  have Hbp := Lib.hid hbp; have Hbx := Lib.hid hbx; have Sab := Lib.hid hsab; have HR := Lib.hid hR; have Hr := Lib.hid hr; have HH := Lib.hid H; have Hpr := Lib.hid hpr; have Hlr := Lib.hid hlr
  clear ha sa sfa hb sb sfb hbp0 hbp hbx hsab hR hhp hr H hpr hlr hbr her hkl
  go_enter Tryz.func33, Tryz.ntmps33
  go_wp2_with fail
  refine HR.out.mono ?_
  rintro _ w2 ⟨rfl, h2, s2⟩
  have H2 := Lib.hid h2; have S2 := Lib.hid (Sab.out.trans s2)
  clear h2 s2 HR
  go_wp2_with fail
  go_end0
  exact ⟨_, _, _, _, rfl, (Nx.right st s 0 0).mono (Nat.zero_le _) (Nat.zero_le _), fun h => absurd (h.symm.trans Hr.out) (by decide), H2.out, S2.out⟩
theorem kinds_all {k : List UInt8} (h : (kindF k).isSome) : k = sExpr ∨ k = sSet ∨ k = sPut ∨ k = sDel ∨ k = sIf ∨ k = sWhile ∨ k = sFor ∨ k = sDef ∨ k = sReturn ∨ k = sRaise ∨ k = sTry ∨ k = sBreak ∨ k = sContinue ∨ k = sPass ∨ k = sGlobal ∨ k = sNonlocal := by
  unfold kindF at h
  rw [Option.isSome_map, List.find?_isSome] at h
  obtain ⟨a, ha, he⟩ := h
  have e : a.1 = k := eq_of_beq he
  simp only [kindsL, List.mem_cons, List.not_mem_nil, or_false] at ha
  rcases ha with rfl | rfl | rfl | rfl | rfl | rfl | rfl | rfl | rfl | rfl | rfl | rfl | rfl | rfl | rfl | rfl <;> simp only at e <;> simp [← e]
theorem stmt_of {f : Nat} (hB : BlockC f) (hI : IfsC (f + 1)) : StmC (f + 1) := by
  intro s deep w x st p v l vp vl vb ve hf H
  rcases hr : (st.right s).ok with _ | _
  · exact stmt_not H hr
  have hform := (right_ok hr).1
  have hs : (kindF s.kind).isSome := by
    unfold formOk at hform
    rcases hk : kindF s.kind with _ | _
    · rw [hk] at hform; exact Bool.noConfusion hform
    · rfl
  rcases kinds_all hs with h | h | h | h | h | h | h | h | h | h | h | h | h | h | h | h
  · exact stmt_expr H hr h
  · exact stmt_set H hr h
  · exact stmt_put H hr h
  · exact stmt_del H hr h
  · exact stmt_if hI hf H hr h
  · exact stmt_while hB hf H hr h
  · exact stmt_for hB hf H hr h
  · exact stmt_def hB hf H hr h
  · have hl := (form_parts (f := ⟨false, false, -1, false, false⟩) (by rw [h]; rfl) hform).2.2.2.2
    dsimp only at hl
    by_cases h0 : s.l.length = 0
    · exact stmt_return0 H hr h h0
    · exact stmt_return1 H hr h (by omega)
  · exact stmt_raise H hr h
  · exact stmt_try hB hf H hr h
  · exact stmt_break H hr h
  · exact stmt_continue H hr h
  · exact stmt_pass H hr h
  · exact stmt_global H hr h
  · exact stmt_nonlocal H hr h
/-- Every statement, every branch, every block. -/
theorem stmts_all : ∀ f : Nat, StmC f ∧ IfsC f ∧ BlockC f
  | 0 => by
    have hs : StmC 0 := by
      intro s deep w x st p v l vp vl vb ve hf H
      have := Stm.nodes_eq s
      omega
    refine ⟨hs, ?_, block_of hs⟩
    intro s word deep w x st p v l vp vl vb ve hf h1 hw H
    have := Stm.nodes_eq s
    omega
  | f + 1 => by
    obtain ⟨h1, h2, h3⟩ := stmts_all f
    have hi := ifs_of h3 h2
    have hs := stmt_of h3 hi
    exact ⟨hs, hi, block_of hs⟩
end Go.Proofs.YtdoaeapahgmfoaaGreatDoor
namespace Go.Proofs.YtdoaeapahgmfoaaGreatDoor
open Go.RowKit
theorem stmsNodes_bulk_of {k : Nat} (h : ∀ s : Stm, s.nodes ≤ k → s.nodes ≤ s.bulk) : ∀ l : List Stm, stmsNodes l ≤ k → stmsNodes l ≤ stmsBulk l
  | [], _ => Nat.le_refl _
  | e :: r, hk => by
    simp only [stmsNodes, stmsBulk] at hk ⊢
    have := stmsNodes_bulk_of h r (by omega)
    have := h e (by omega)
    omega
theorem Stm.nodes_bulk : ∀ (k : Nat) (s : Stm), s.nodes ≤ k → s.nodes ≤ s.bulk
  | 0, s, h => by have := Stm.nodes_eq s; omega
  | k + 1, s, h => by
    have h1 := Stm.nodes_eq s
    have h2 := Stm.bulk_eq s
    have h3 := exsNodes_bulk s.l
    have h4 := stmsNodes_bulk_of (Stm.nodes_bulk k) s.body (by omega)
    have h5 := stmsNodes_bulk_of (Stm.nodes_bulk k) s.els (by omega)
    omega
theorem stmsNodes_bulk (l : List Stm) : stmsNodes l ≤ stmsBulk l := stmsNodes_bulk_of (Stm.nodes_bulk (stmsNodes l)) l (Nat.le_refl _)
/-- What tree.Text of statements hands back. -/
def TreeText (w : World) (ss : List Stm) (e : Ending) (w' : World) : Prop :=
  ∃ (r : ByteArray) (err : Value), e = .returned (.tuple #[.string r, err]) ∧ (err = .nilIface ∧ stmsNamed ss ∨ w.cell? ⟨0, 0, none⟩ = some err ∧ ∃ te pe, err = .iface te pe) ∧ Below w.heap.size w w'
set_option maxRecDepth 100000 in
set_option maxHeartbeats 20000000 in
theorem ttext_any {w : World} {ss : List Stm} {vs : Value} (hg : GlobT w.heap.size w) (hss : StmsAt w (Lo w.heap.size) vs ss) (hft : stmsFit ss) (hbk : stmsBulk ss ≤ 1100000) (hwt : stmsW ss ≤ 6000) :
    Calls Tryz.prog 11 #[vs] w (TreeText w ss) := by
  have hnb := stmsNodes_bulk ss
  obtain ⟨te, pe, hsh⟩ := hg.shape
  have hba : Below w.heap.size w (w.alloc (.cells #[.pointer none, .slice none 0 0, .int .i64 0, .int .i64 0, .bool true] 79)) := (Below.refl _ _).alloc (Nat.le_refl _) _
  have hw0 : WrC (w.alloc (.cells #[.pointer none, .slice none 0 0, .int .i64 0, .int .i64 0, .bool true] 79)) w.heap.size ⟨0, true, 0, 0⟩ (.pointer none) (.slice none 0 0) [] :=
    ⟨heap_alloc_new w _, .inl rfl, World.ownsRow_nil _ _ _ _, rfl, by simp [Value.ownBlock]⟩
  obtain ⟨stI, hstI⟩ : ∃ q : WS, q = ⟨0, true, 0, 0⟩ := ⟨_, rfl⟩
  have n1 : stI.n = 0 := by rw [hstI]
  have n2 : stI.inn = 0 := by rw [hstI]
  have n3 : stI.len = 0 := by rw [hstI]
  rw [← hstI] at hw0
  clear hstI
  obtain ⟨a, c, rfl, hr⟩ := hss.below hba
  have hgl := hg.below hba
  have Hba := Lib.hid hba; have HH := Lib.hid hw0; have Hr := Lib.hid hr; have Hft := Lib.hid hft; have Hg := Lib.hid hgl; have Hsh := Lib.hid hsh
  have Hs := Lib.hid ((stmts_all (stmsNodes ss)).1)
  have hsl := stmsBulk_len ss
  have hglob : 0 < w.heap.size := by have := hg.hB2; omega
  have hf : stmsNodes ss ≤ stmsNodes ss := Nat.le_refl _
  clear hba hw0 hr hft hgl hss hg hsh
  go_enter Tryz.func11, Tryz.ntmps11
  go_wp2_with fail
  generalize w.alloc (.cells #[.pointer none, .slice none 0 0, .int .i64 0, .int .i64 0, .bool true] 79) = wA at Hba HH Hr Hg ⊢
  generalize hx : w.heap.size = x at Hba HH Hr Hg hglob ⊢
  go_loopw [11] (fun i wr => ∃ (j : Nat) (st1 : WS) (p1 v1 : Value) (l1 : List UInt8), j ≤ ss.length ∧ i = .int .i64 j ∧ LoopW x wA wr stI st1 (8 * stmsNodes (ss.take j)) (20000000 * stmsBulk (ss.take j)) p1 v1 l1 ∧ (st1.ok = true → stmsNamed (ss.take j))) (fun i _ => ss.length - (intOf i).toNat)
  case atStart => exact ⟨0, _, _, _, _, by omega, rfl, ⟨Nx.refl _ _ _, HH.out, WStp.refl _ _⟩, fun _ => by simp [stmsNamed]⟩
  case round =>
    obtain ⟨j, st1, p1, v1, l1, hj, rfl, hL, hnamed⟩ := hrel
    have hbel := WStp.below HH.out hL.stp
    by_cases hjl : j < ss.length
    · have t1 : decide ((j : Int) < (ss.length : Int)) = true := by simp; omega
      obtain ⟨b, o, rfl, hbx, hrow⟩ := Hr.out (by omega)
      obtain ⟨vp, vl, vb, ve, q0, q1, q2, q3, q4, q5, hp, hx, hbd, hel⟩ := (hrow.at_ _ _ _ j hjl).open_
      have hbx' : b < x := hbx
      have q0 := (hbel.cell (p := ⟨b, _, none⟩) hbx').trans q0
      have q1 := (hbel.cell (p := ⟨b, _, none⟩) hbx').trans q1
      have q2 := (hbel.cell (p := ⟨b, _, none⟩) hbx').trans q2
      have q3 := (hbel.cell (p := ⟨b, _, none⟩) hbx').trans q3
      have q4 := (hbel.cell (p := ⟨b, _, none⟩) hbx').trans q4
      have q5 := (hbel.cell (p := ⟨b, _, none⟩) hbx').trans q5
      have Hp := Lib.hid hp; have Hx := Lib.hid hx; have Hbd := Lib.hid hbd; have Hel := Lib.hid hel
      obtain ⟨ap, cp, rfl, _⟩ := hp
      obtain ⟨al, cl, rfl, _⟩ := hx
      obtain ⟨ab, cb, rfl, _⟩ := hbd
      obtain ⟨ae, ce, rfl, _⟩ := hel
      have hm := stms_mem (List.getElem_mem hjl)
      have hnt := stmsNodes_take ss j hjl
      have hbt := stmsBulk_take ss j hjl
      have hnl := stmsNodes_le ss (j + 1)
      have hbl := stmsBulk_le ss (j + 1)
      obtain ⟨ha, sa, sfa⟩ := hL.wc.alloc (.cells #[.string (toBA ss[j].kind), .string (toBA ss[j].name), .slice ap ss[j].p.length cp, .slice al ss[j].l.length cl, .slice ab ss[j].body.length cb, .slice ae ss[j].els.length ce] 82)
      have hbox : BoxS (wr.alloc (.cells #[.string (toBA ss[j].kind), .string (toBA ss[j].name), .slice ap ss[j].p.length cp, .slice al ss[j].l.length cl, .slice ab ss[j].body.length cb, .slice ae ss[j].els.length ce] 82)) x wr.heap.size ss[j] ap cp al cl ab cb ae ce := ⟨heap_alloc_new wr _, sfa⟩
      have hnx := hL.nx
      have hnn := hnx.n
      have hlk := look_any ha (show st1.n ≤ 100000000 by omega)
      have hsa := hL.stp.trans sa
      have hjn : 1 ≤ ss[j].nodes := by rw [Stm.nodes_eq]; omega
      have Hm := Lib.hid hm; have Hnt := Lib.hid hnt; have Hbt := Lib.hid hbt; have Hbox := Lib.hid hbox; have Hsa := Lib.hid hsa; have Hnx := Lib.hid hnx; have Hnl := Lib.hid hnl; have Hbl := Lib.hid hbl; have Hnm := Lib.hid hnamed; have Hjn := Lib.hid hjn
      clear hrow ha sa sfa hbox hL hnx hsa hm hnt hbt hnl hbl hnn hnamed
      cases hok : st1.look.ok with
      | false =>
        rw [hok] at hlk
        have Hlk := Lib.hid hlk; have Hok := Lib.hid hok
        clear hlk hok
        go_wp2_with fail
        refine Hlk.out.mono ?_
        rintro _ w2 ⟨rfl, h2, s2⟩
        have hst := Hsa.out.trans s2
        clear Hlk q0 q1 q2 q3 q4 q5
        go_wp2_with fail
        go_roundw
        case rel => exact ⟨j + 1, st1.look, p1, v1, l1, by omega, by go_num, ⟨Hnx.out.trans (Nx.look st1 0 0) (by have := Hnt.out; have := Hjn.out; omega) (by have := Hbt.out; omega), h2, hst⟩, fun h => by rw [Hok.out] at h; cases h⟩
        case measure => simp [intOf]; omega
      | true =>
        rw [hok] at hlk
        have Hlk := Lib.hid hlk; have Hok := Lib.hid hok
        clear hlk hok
        go_wp2_with fail
        refine Hlk.out.mono ?_
        rintro _ w2 ⟨rfl, h2, s2⟩
        have hst := Hsa.out.trans s2
        have hb2 := Hbox.out.step s2
        have k0 := hb2.c0
        have k1 := hb2.c1
        have k2 := hb2.c2
        have k3 := hb2.c3
        have k4 := hb2.c4
        have k5 := hb2.c5
        have hbel2 := WStp.below HH.out hst
        have hcall := Hs.out ss[j] 1 w2 x st1.look p1 v1 l1 _ _ _ _ (by have := Hm.out; omega) (show StmIn ss[j] 1 w2 x st1.look p1 v1 l1 (.slice ap ss[j].p.length cp) (.slice al ss[j].l.length cl) (.slice ab ss[j].body.length cb) (.slice ae ss[j].els.length ce) from ⟨stmsFit_mem Hft.out (List.getElem_mem hjl), by have := Hm.out; omega, by have := Hm.out; omega, by have := Hm.out; omega, by
          show st1.n + 1 + _ ≤ _
          have := Hnx.out.n; have := Hnt.out; have := Hnl.out; omega, by
          show st1.inn + _ ≤ _
          have := Hnx.out.inn; have := Hm.out; omega, by
          show st1.len + _ ≤ _
          have := Hnx.out.len; have := Hbt.out; have := Hbl.out; omega, h2, Hg.out.below hbel2, Hp.out.below hbel2, Hx.out.below hbel2, Hbd.out.below hbel2, Hel.out.below hbel2⟩)
        have Hcall := Lib.hid hcall; have Hst := Lib.hid hst
        clear Hlk q0 q1 q2 q3 q4 q5 hcall hst hb2 h2 s2
        go_wp2_with fail
        refine Hcall.out.mono ?_
        rintro _ w3 ⟨st3, p3, v3, l3, rfl, hn3, hq3, h3, s3⟩
        have hst3 := Hst.out.trans s3
        clear Hcall k0 k1 k2 k3 k4 k5
        go_wp2_with fail
        go_roundw
        case rel => exact ⟨j + 1, st3, p3, v3, l3, by omega, by go_num, ⟨(Hnx.out.trans (Nx.look st1 0 0) (Nat.le_refl _) (Nat.le_refl _)).trans hn3 (by have := Hnt.out; have := Hjn.out; omega) (by have := Hbt.out; omega), h3, hst3⟩, fun h => stmsNamed_take ss j hjl (Hnm.out ((Nx.look st1 0 0).ok (hn3.ok h))) (hq3 h)⟩
        case measure => simp [intOf]; omega
    · have t1 : decide ((j : Int) < (ss.length : Int)) = false := by simp; omega
      obtain rfl : j = ss.length := by omega
      rw [List.take_of_length_le (Nat.le_refl _)] at hL hnamed
      have hcg : wr.cell? ⟨0, 0, none⟩ = some (.iface te pe) := (hbel.cell (p := ⟨0, 0, none⟩) hglob).trans ((Hba.out.cell (p := ⟨0, 0, none⟩) hglob).trans Hsh.out)
      have c4 := hL.wc.c4
      have hlen := bldLen_any hL.wc
      have Hlen := Lib.hid hlen; have HW := Lib.hid hL.wc; have Hnm := Lib.hid hnamed; have Hbel := Lib.hid (Hba.out.trans hbel)
      clear hlen hL hnamed hbel
      cases hok : st1.ok with
      | false =>
        rw [hok] at c4
        skip
        go_upto_region 9 with fail
        go_quiet (fail)
        go_wp2_with fail
        refine bodyPost_ret (results_tmp2 rfl _ _ _) rfl ?_
        exact ⟨_, _, rfl, .inr ⟨Hsh.out, te, pe, rfl⟩, by rw [hx]; exact m_drewN Hbel.out _⟩
      | true =>
        rw [hok] at c4
        go_wp2_with fail
        refine Hlen.out.mono ?_
        rintro _ w2 ⟨rfl, rfl⟩
        by_cases h6 : st1.len ≤ 6000
        · have g1 : decide ((6000 : Int) < (st1.len : Int)) = false := by rw [decide_eq_false_iff_not]; omega
          have g2 : decide (6000 < st1.len) = false := by rw [decide_eq_false_iff_not]; omega
          have Hstr := Lib.hid (bldString_any HW.out h6)
          clear Hlen
          go_wp2_with fail
          refine Hstr.out.mono ?_
          rintro _ w3 ⟨r, rfl, hb3⟩
          have Hb3 := Lib.hid (Hbel.out.trans hb3)
          clear hb3 Hstr
          go_wp2_with fail
          refine bodyPost_ret (results_tmp2 rfl _ _ _) rfl ?_
          exact ⟨r, .nilIface, rfl, .inl ⟨rfl, Hnm.out hok⟩, by rw [hx]; exact Hb3.out⟩
        · have g1 : decide ((6000 : Int) < (st1.len : Int)) = true := by rw [decide_eq_true_iff]; omega
          have g2 : decide (6000 < st1.len) = true := by rw [decide_eq_true_iff]; omega
          clear Hlen
          skip
          go_upto_region 9 with fail
          go_quiet (fail)
          go_wp2_with fail
          refine bodyPost_ret (results_tmp2 rfl _ _ _) rfl ?_
          exact ⟨_, _, rfl, .inr ⟨Hsh.out, te, pe, rfl⟩, by rw [hx]; exact m_drewN Hbel.out _⟩
end Go.Proofs.YtdoaeapahgmfoaaGreatDoor
namespace Go.Proofs.YtdoaeapahgmfoaaGreatDoor
open Go.RowKit
/-- What tree.Text hands back: no error, or ErrShape, and then T. -/
def TreeTextT (T : Prop) (w : World) (ss : List Stm) (e : Ending) (w' : World) : Prop :=
  ∃ (r : ByteArray) (err : Value), e = .returned (.tuple #[.string r, err]) ∧ (err = .nilIface ∧ stmsNamed ss ∨ T ∧ w.cell? ⟨0, 0, none⟩ = some err ∧ ∃ te pe, err = .iface te pe) ∧ Below w.heap.size w w'
theorem ttext_true {w : World} {ss : List Stm} {vs : Value} (hg : GlobT w.heap.size w) (hss : StmsAt w (Lo w.heap.size) vs ss) (hft : stmsFit ss) (hbk : stmsBulk ss ≤ 1100000) (hwt : stmsW ss ≤ 6000) :
    Calls Tryz.prog 11 #[vs] w (TreeTextT True w ss) := by
  refine (ttext_any hg hss hft hbk hwt).mono ?_
  rintro e w' ⟨r, err, h1, h2, h3⟩
  exact ⟨r, err, h1, h2.imp id fun h => ⟨trivial, h⟩, h3⟩
set_option maxRecDepth 100000 in
set_option maxHeartbeats 20000000 in
theorem ttext_nil (w : World) : Calls Tryz.prog 11 #[.slice none 0 0] w (TreeTextT False w []) := by
  have hba : Below w.heap.size w (w.alloc (.cells #[.pointer none, .slice none 0 0, .int .i64 0, .int .i64 0, .bool true] 79)) := (Below.refl _ _).alloc (Nat.le_refl _) _
  have hw0 : WrC (w.alloc (.cells #[.pointer none, .slice none 0 0, .int .i64 0, .int .i64 0, .bool true] 79)) w.heap.size ⟨0, true, 0, 0⟩ (.pointer none) (.slice none 0 0) [] :=
    ⟨heap_alloc_new w _, .inl rfl, World.ownsRow_nil _ _ _ _, rfl, by simp [Value.ownBlock]⟩
  have c4 := hw0.c4
  have Hlen := Lib.hid (bldLen_any hw0)
  have Hstr := Lib.hid (bldString_any hw0 (by decide))
  have Hba := Lib.hid hba
  clear hba hw0
  go_enter Tryz.func11, Tryz.ntmps11
  go_wp2_with fail
  generalize w.alloc (.cells #[.pointer none, .slice none 0 0, .int .i64 0, .int .i64 0, .bool true] 79) = wA at *
  go_loopw [11] (fun i wr => i = .int .i64 0 ∧ wr = wA) (fun _ _ => 0)
  case atStart => exact ⟨rfl, rfl⟩
  case round =>
    obtain ⟨rfl, rfl⟩ := hrel
    go_wp2_with fail
    refine Hlen.out.mono ?_
    rintro _ w2 ⟨rfl, rfl⟩
    go_wp2_with fail
    refine Hstr.out.mono ?_
    rintro _ w3 ⟨r, rfl, hb3⟩
    have Hb3 := Lib.hid (Hba.out.trans hb3)
    clear hb3 Hstr
    go_wp2_with fail
    refine bodyPost_ret (results_tmp2 rfl _ _ _) rfl ?_
    exact ⟨r, .nilIface, rfl, .inl ⟨rfl, trivial⟩, Hb3.out⟩
end Go.Proofs.YtdoaeapahgmfoaaGreatDoor
