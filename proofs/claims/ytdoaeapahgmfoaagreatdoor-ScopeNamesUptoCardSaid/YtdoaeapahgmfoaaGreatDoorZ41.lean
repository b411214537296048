/- The writer's statement: the arms of names. -/
import Derived.Test.YtdoaeapahgmfoaaGreatDoorZ40
namespace Go.Proofs.YtdoaeapahgmfoaaGreatDoor
open Go.RowKit
set_option maxRecDepth 100000 in
set_option maxHeartbeats 20000000 in
theorem stmt_def {s:Stm} {deep:Nat} {w:World} {x:Nat} {st:WS} {p v:Value} {l:List UInt8} {vp vl vb ve:Value} {f:Nat} (hB:BlockC f) (hf:s.nodes≤f+1) (H:StmIn s deep w x st p v l vp vl vb ve) (hr:(st.right s).ok=true) (hk:s.kind=sDef):
 Calls Tryz.prog 33 #[.pointer (some ⟨x,0,none⟩),.agg #[.string (toBA s.kind),.string (toBA s.name),vp,vl,vb,ve],.int .i64 (deep:Int)] w (WrPost x w st (8 * s.nodes - 1) (20000000 * s.bulk) fun st'=>(st'.ok=true→s.named)∧SW s deep st st'):=by
 have hform:=form_parts (f:=⟨true,true,0,true,false⟩) (by rw [hk];rfl) (right_ok hr).1
 have u1:=op_is hk [101,120,112,114] (b:=false) rfl
 have u2:=op_is hk [115,101,116] (b:=false) rfl
 have u3:=op_is hk [112,117,116] (b:=false) rfl
 have u4:=op_is hk [100,101,108] (b:=false) rfl
 have u5:=op_is hk [105,102] (b:=false) rfl
 have u6:=op_is hk [119,104,105,108,101] (b:=false) rfl
 have u7:=op_is hk [102,111,114] (b:=false) rfl
 have u8:=op_is hk [100,101,102] (b:=true) rfl
 have hkz:(toBA s.kind).size≤8:=by rw [toBA_len,hk];decide
 have hkz2:s.kind.length≤8:=by rw [hk];decide
 have hnm:=fun h=>named_of hr h (nil_named (hform.2.2.2.1 rfl))
 have Hbody:=Lib.hid (sbody_of hB H hf ((deep:Int)+1) rfl)
 have hdd:=H.deepB
 have Hnm:=Lib.hid hnm;have Hps:=Lib.hid H.ps
 have hpb:strsBulk s.p≤1100000:=by have:=Stm.bulk_eq s;have:=H.bulk;omega
 have KO:=Lib.hid hk
 clear hk hform hnm
 have hkl:s.kind.length≤2000000:=by have:=Stm.bulk_eq s;have:=H.bulk;omega
 have hnl:s.name.length≤1100000:=by have:=Stm.bulk_eq s;have:=H.bulk;omega
 obtain ⟨ap,cp,rfl,hpcap,hpr⟩:=H.ps
 obtain ⟨al,cl,rfl,hlcap,hlr⟩:=H.ls
 obtain ⟨ab,cb,rfl,hbr⟩:=H.bs
 obtain ⟨ae,ce,rfl,her⟩:=H.es
 obtain ⟨ha,sa,sfa⟩:=H.wr.alloc (.cells #[.pointer (some ⟨x,0,none⟩)] 73)
 obtain ⟨hb,sb,sfb⟩:=ha.alloc (.cells #[.string (toBA s.kind),.string (toBA s.name),.slice ap s.p.length cp,.slice al s.l.length cl,.slice ab s.body.length cb,.slice ae s.els.length ce] 82)
 have hbp0:BoxP (w.alloc (.cells #[.pointer (some ⟨x,0,none⟩)] 73)) x w.heap.size:=⟨heap_alloc_new w _,sfa⟩
 have hbp:=hbp0.step sb
 have hbx:BoxS _ x (w.alloc (.cells #[.pointer (some ⟨x,0,none⟩)] 73)).heap.size s ap cp al cl ab cb ae ce:=⟨heap_alloc_new _ _,sfb⟩
 have hsab:=sa.trans sb
 have hR:=right_any hb s ap al ab ae cp cl cb ce hkl hnl (H.glob.below (WStp.below H.wr hsab))
 have hhp:(w.alloc (.cells #[.pointer (some ⟨x,0,none⟩)] 73)).heap.size=w.heap.size+1:=by simp
 rw [hhp] at hbx
 have k0:=hbx.c0
 have k1:=hbx.c1
 have k2:=hbx.c2
 have k3:=hbx.c3
 have k4:=hbx.c4
 have k5:=hbx.c5
 have kp:=hbp.c0
 rw [hr] at hR
 have Hbp:=Lib.hid hbp;have Hbx:=Lib.hid hbx;have Sab:=Lib.hid hsab;have HR:=Lib.hid hR;have Hr:=Lib.hid hr;have HH:=Lib.hid H;have Hpr:=Lib.hid hpr;have Hlr:=Lib.hid hlr
 clear ha sa sfa hb sb sfb hbp0 hbp hbx hsab hR hhp hr H hpr hlr hbr her
 go_enter Tryz.func33,Tryz.ntmps33
 go_wp2_with fail
 generalize (w.alloc (.cells #[.pointer (some ⟨x,0,none⟩)] 73)).alloc (.cells #[.string (toBA s.kind),.string (toBA s.name),.slice ap s.p.length cp,.slice al s.l.length cl,.slice ab s.body.length cb,.slice ae s.els.length ce] 82)=wA at HR Hbp Hbx Sab k0 k1 k2 k3 k4 k5 kp ⊢
 generalize hbpn:w.heap.size=bp at Hbp Hbx k0 k1 k2 k3 k4 k5 kp ⊢
 clear hbpn
 refine HR.out.mono ?_
 rintro _ w2 ⟨rfl,h2,s2⟩
 clear k0 k1 k2 k3 k4 k5 kp HR
 have hb2:=Hbx.out.step s2
 have hp2:=Hbp.out.step s2
 have k0:=hb2.c0
 have k1:=hb2.c1
 have k2:=hb2.c2
 have k3:=hb2.c3
 have k4:=hb2.c4
 have k5:=hb2.c5
 have kp:=hp2.c0
 have hx2:=Nx.right st s 0 0
 have B2:=Lib.hid hb2;have P2:=Lib.hid hp2;have S2:=Lib.hid (Sab.out.trans s2);have N2:=Lib.hid hx2;have H2:=Lib.hid h2
 have Bel2:=Lib.hid (WStp.below HH.out.wr S2.out)
 clear h2 s2 hb2 hp2 hx2 Hbx Hbp Sab
 have Hr2:Hid ((st.right s).ok=true):=Hr
 generalize hst2:st.right s=st2 at N2 H2 Hr2
 have KS:=Lib.hid hst2
 clear hst2
 have hns:(toBA s.name).size≤1100000:=by rw [toBA_len];exact hnl
 have H2d:=Lib.hid H2.out.drew;have S2d:=Lib.hid S2.out.drew;have B2d:=Lib.hid B2.out.drew;have P2d:=Lib.hid P2.out.drew
 have Hcall:=Lib.hid (names_any H2d.out s.p _ (Hps.out.below (WStp.below HH.out.wr S2d.out)) hpb (HH.out.glob.below (WStp.below HH.out.wr S2d.out)))
 go_upto_region 23 with fail
 have f1:∀ w,(Op.stringOp .add (⟨#[100,101,102,32]⟩) (toBA s.name)).run Tryz.prog w= .ok (.string (⟨#[100,101,102,32]⟩ ++ toBA s.name)) w:=fun w=>run_string_add_sum w _ _ (by ((repeat (first | rw [ByteArray.size_append] | rw [size_lit1] | rw [size_lit2] | rw [size_lit3] | rw [size_lit4] | rw [size_lit5] | rw [size_lit6] | rw [size_lit7] | rw [size_lit8]));(first | done | omega)))
 have f2:∀ w,(Op.stringOp .add (⟨#[100,101,102,32]⟩ ++ toBA s.name) (⟨#[40]⟩)).run Tryz.prog w= .ok (.string (⟨#[100,101,102,32]⟩ ++ toBA s.name ++ ⟨#[40]⟩)) w:=fun w=>run_string_add_sum w _ _ (by ((repeat (first | rw [ByteArray.size_append] | rw [size_lit1] | rw [size_lit2] | rw [size_lit3] | rw [size_lit4] | rw [size_lit5] | rw [size_lit6] | rw [size_lit7] | rw [size_lit8]));(first | done | omega)))
 have F3:=Lib.hid (show ∀ r:ByteArray,r.size≤71000000→∀ w,(Op.stringOp .add (⟨#[100,101,102,32]⟩ ++ toBA s.name ++ ⟨#[40]⟩) (r)).run Tryz.prog w= .ok (.string (⟨#[100,101,102,32]⟩ ++ toBA s.name ++ ⟨#[40]⟩ ++ r)) w from fun r hr w=>run_string_add_sum w _ _ (by ((repeat (first | rw [ByteArray.size_append] | rw [size_lit1] | rw [size_lit2] | rw [size_lit3] | rw [size_lit4] | rw [size_lit5] | rw [size_lit6] | rw [size_lit7] | rw [size_lit8]));(first | done | omega))))
 have F4:=Lib.hid (show ∀ r:ByteArray,r.size≤71000000→∀ w,(Op.stringOp .add (⟨#[100,101,102,32]⟩ ++ toBA s.name ++ ⟨#[40]⟩ ++ r) (⟨#[41,58]⟩)).run Tryz.prog w= .ok (.string (⟨#[100,101,102,32]⟩ ++ toBA s.name ++ ⟨#[40]⟩ ++ r ++ ⟨#[41,58]⟩)) w from fun r hr w=>run_string_add_sum w _ _ (by ((repeat (first | rw [ByteArray.size_append] | rw [size_lit1] | rw [size_lit2] | rw [size_lit3] | rw [size_lit4] | rw [size_lit5] | rw [size_lit6] | rw [size_lit7] | rw [size_lit8]));(first | done | omega))))
 go_region_held3 (fun w'=>w'.cell? ⟨bp+1,1,none⟩=some (.string (toBA s.name))∧w'.cell? ⟨bp,0,none⟩=some (.pointer (some ⟨x,0,none⟩))∧w'.cell? ⟨bp+1,2,none⟩=some (.slice ap s.p.length cp)) (go_keep)
  ((first
    | (go_at_call 71;(with_reducible refine Hcall.out.mono ?_);rintro _ w8 ⟨r8,st8,rfl,hr,hn,h,s8,hnl8,hst8⟩;have TN:=Lib.hid hnl8;have TS:=Lib.hid hst8;clear hnl8 hst8;have hrb8:r8.size≤71000000:=(by omega);have Hr8:=Lib.hid hr;have Hn8:=Lib.hid (N2.out.trans hn (Nat.le_refl _) (Nat.le_refl _));have H8:=Lib.hid h;have S8:=Lib.hid (S2d.out.trans s8);have B8:=Lib.hid (B2d.out.step s8);have P8:=Lib.hid (P2d.out.step s8);have f3:=F3.out r8 hrb8;have f4:=F4.out r8 hrb8;have kp:=P8.out.c0;have k2:=B8.out.c2;have k1:=B8.out.c1;clear hr hn h s8)
    | (go_at_call 68;(with_reducible refine (wline_any H8.out (⟨#[100,101,102,32]⟩ ++ toBA s.name ++ ⟨#[40]⟩ ++ r8 ++ ⟨#[41,58]⟩) (by have:=Hn8.out.inn;have:=HH.out.inn;omega) (by ((repeat (first | rw [ByteArray.size_append] | rw [size_lit1] | rw [size_lit2] | rw [size_lit3] | rw [size_lit4] | rw [size_lit5] | rw [size_lit6] | rw [size_lit7] | rw [size_lit8]));(first | done | omega))) (by have:=Hn8.out.len;have:=HH.out.len;omega)).mono ?_);rintro _ w9 ⟨p9,v9,l9,rfl,h9,s9⟩;have H9:=Lib.hid h9;have S9:=Lib.hid (S8.out.trans s9);have B9:=Lib.hid (B8.out.step s9);have P9:=Lib.hid (P8.out.step s9);have kp:=P9.out.c0;have k2:=B9.out.c2;have k1:=B9.out.c1;clear h9 s9)))
 all_goals
  have hm9:4 * st8.inn+(⟨#[100,101,102,32]⟩ ++ toBA s.name ++ ⟨#[40]⟩ ++ r8 ++ ⟨#[41,58]⟩).size+1≤9600000:=by
   have:=Hn8.out.inn;have:=HH.out.inn;have:=Hr8.out
   ((repeat (first | rw [ByteArray.size_append] | rw [size_lit1] | rw [size_lit2] | rw [size_lit3] | rw [size_lit4] | rw [size_lit5] | rw [size_lit6] | rw [size_lit7] | rw [size_lit8]));(first | done | omega))
  have hn9:=(Hn8.out.trans (nx_line (st:=st8) (4 * st8.inn+(⟨#[100,101,102,32]⟩ ++ toBA s.name ++ ⟨#[40]⟩ ++ r8 ++ ⟨#[41,58]⟩).size+1)) (Nat.le_refl _) (Nat.le_refl _)).mono (Nat.le_refl _) (show 0+0+(4 * st8.inn+(⟨#[100,101,102,32]⟩ ++ toBA s.name ++ ⟨#[40]⟩ ++ r8 ++ ⟨#[41,58]⟩).size+1)≤9600000 by omega)
  have h9:=H9.out
  have hsl9:=line_eq (st:=st8) (m:=(⟨#[100,101,102,32]⟩ ++ toBA s.name ++ ⟨#[40]⟩ ++ r8 ++ ⟨#[41,58]⟩).size) (n:=4+s.name.length+1+namesLen s.p+2) (by rw [← TN.out];simp only [ByteArray.size_append,toBA_len];rfl)
  generalize ({ st8 with len:=st8.len+(4 * st8.inn+(⟨#[100,101,102,32]⟩ ++ toBA s.name ++ ⟨#[40]⟩ ++ r8 ++ ⟨#[41,58]⟩).size+1) }:WS)=st9 at h9 hn9 hsl9
  have KS9:=Lib.hid hsl9
  clear hsl9
  have hbd:=Hbody.out _ st9 p9 v9 l9 h9 (WStp.below HH.out.wr S9.out) (by have:=hn9.n;have:=HH.out.n;have:=Stm.nodes_eq s;omega) (by have:=hn9.inn;omega) (by have:=hn9.len;have:=HH.out.len;have:=Stm.bulk_eq s;omega)
  have Hbd:=Lib.hid hbd;have Hn9:=Lib.hid hn9
  have k4:=B9.out.c4
  clear hbd hn9 hm9 h9
  go_wp2_with fail
  refine Hbd.out.mono ?_
  rintro _ w7 ⟨st7,p7,v7,l7,rfl,hn7,⟨hq7,hbw7⟩,h7,s7⟩
  have W7:=Lib.hid hbw7
  clear hbw7
  have Hn7:=Lib.hid hn7;have Hq7:=Lib.hid hq7;have H7:=Lib.hid h7;have S7:=Lib.hid (S9.out.trans s7)
  clear hn7 hq7 h7 s7 Hbd
  go_wp2_with fail
  go_end0
  refine ⟨st7,p7,v7,l7,rfl,Hn9.out.trans Hn7.out ?_ ?_,⟨fun h=>Hnm.out (Hq7.out h),SW.def Hr.out KO.out (by rw [KS.out,← TS.out,← KS9.out];exact W7.out)⟩,H7.out,S7.out⟩
  · have:=Stm.nodes_eq s;omega
  · have:=Stm.bulk_eq s;omega
set_option maxRecDepth 100000 in
set_option maxHeartbeats 20000000 in
theorem stmt_global {s:Stm} {deep:Nat} {w:World} {x:Nat} {st:WS} {p v:Value} {l:List UInt8} {vp vl vb ve:Value} (H:StmIn s deep w x st p v l vp vl vb ve) (hr:(st.right s).ok=true) (hk:s.kind=sGlobal):
 Calls Tryz.prog 33 #[.pointer (some ⟨x,0,none⟩),.agg #[.string (toBA s.kind),.string (toBA s.name),vp,vl,vb,ve],.int .i64 (deep:Int)] w (WrPost x w st (8 * s.nodes - 1) (20000000 * s.bulk) fun st'=>(st'.ok=true→s.named)∧SW s deep st st'):=by
 have hform:=form_parts (f:=⟨false,true,0,false,false⟩) (by rw [hk];rfl) (right_ok hr).1
 have u1:=op_is hk [101,120,112,114] (b:=false) rfl
 have u2:=op_is hk [115,101,116] (b:=false) rfl
 have u3:=op_is hk [112,117,116] (b:=false) rfl
 have u4:=op_is hk [100,101,108] (b:=false) rfl
 have u5:=op_is hk [105,102] (b:=false) rfl
 have u6:=op_is hk [119,104,105,108,101] (b:=false) rfl
 have u7:=op_is hk [102,111,114] (b:=false) rfl
 have u8:=op_is hk [100,101,102] (b:=false) rfl
 have u9:=op_is hk [116,114,121] (b:=false) rfl
 have u10:=op_is hk [114,101,116,117,114,110] (b:=false) rfl
 have u11:=op_is hk [114,97,105,115,101] (b:=false) rfl
 have u12:=op_is hk [103,108,111,98,97,108] (b:=true) rfl
 have hkz:(toBA s.kind).size≤8:=by rw [toBA_len,hk];decide
 have hkz2:s.kind.length≤8:=by rw [hk];decide
 have hnm:=named_of hr (nil_named (hform.2.2.1 rfl)) (nil_named (hform.2.2.2.1 rfl))
 have Hnm:=Lib.hid hnm;have Hps:=Lib.hid H.ps
 have hpb:strsBulk s.p≤1100000:=by have:=Stm.bulk_eq s;have:=H.bulk;omega
 have KO:=Lib.hid hk
 clear hk hform hnm
 have hkl:s.kind.length≤2000000:=by have:=Stm.bulk_eq s;have:=H.bulk;omega
 have hnl:s.name.length≤1100000:=by have:=Stm.bulk_eq s;have:=H.bulk;omega
 obtain ⟨ap,cp,rfl,hpcap,hpr⟩:=H.ps
 obtain ⟨al,cl,rfl,hlcap,hlr⟩:=H.ls
 obtain ⟨ab,cb,rfl,hbr⟩:=H.bs
 obtain ⟨ae,ce,rfl,her⟩:=H.es
 obtain ⟨ha,sa,sfa⟩:=H.wr.alloc (.cells #[.pointer (some ⟨x,0,none⟩)] 73)
 obtain ⟨hb,sb,sfb⟩:=ha.alloc (.cells #[.string (toBA s.kind),.string (toBA s.name),.slice ap s.p.length cp,.slice al s.l.length cl,.slice ab s.body.length cb,.slice ae s.els.length ce] 82)
 have hbp0:BoxP (w.alloc (.cells #[.pointer (some ⟨x,0,none⟩)] 73)) x w.heap.size:=⟨heap_alloc_new w _,sfa⟩
 have hbp:=hbp0.step sb
 have hbx:BoxS _ x (w.alloc (.cells #[.pointer (some ⟨x,0,none⟩)] 73)).heap.size s ap cp al cl ab cb ae ce:=⟨heap_alloc_new _ _,sfb⟩
 have hsab:=sa.trans sb
 have hR:=right_any hb s ap al ab ae cp cl cb ce hkl hnl (H.glob.below (WStp.below H.wr hsab))
 have hhp:(w.alloc (.cells #[.pointer (some ⟨x,0,none⟩)] 73)).heap.size=w.heap.size+1:=by simp
 rw [hhp] at hbx
 have k0:=hbx.c0
 have k1:=hbx.c1
 have k2:=hbx.c2
 have k3:=hbx.c3
 have k4:=hbx.c4
 have k5:=hbx.c5
 have kp:=hbp.c0
 rw [hr] at hR
 have Hbp:=Lib.hid hbp;have Hbx:=Lib.hid hbx;have Sab:=Lib.hid hsab;have HR:=Lib.hid hR;have Hr:=Lib.hid hr;have HH:=Lib.hid H;have Hpr:=Lib.hid hpr;have Hlr:=Lib.hid hlr
 clear ha sa sfa hb sb sfb hbp0 hbp hbx hsab hR hhp hr H hpr hlr hbr her
 go_enter Tryz.func33,Tryz.ntmps33
 go_wp2_with fail
 generalize (w.alloc (.cells #[.pointer (some ⟨x,0,none⟩)] 73)).alloc (.cells #[.string (toBA s.kind),.string (toBA s.name),.slice ap s.p.length cp,.slice al s.l.length cl,.slice ab s.body.length cb,.slice ae s.els.length ce] 82)=wA at HR Hbp Hbx Sab k0 k1 k2 k3 k4 k5 kp ⊢
 generalize hbpn:w.heap.size=bp at Hbp Hbx k0 k1 k2 k3 k4 k5 kp ⊢
 clear hbpn
 refine HR.out.mono ?_
 rintro _ w2 ⟨rfl,h2,s2⟩
 clear k0 k1 k2 k3 k4 k5 kp HR
 have hb2:=Hbx.out.step s2
 have hp2:=Hbp.out.step s2
 have k0:=hb2.c0
 have k1:=hb2.c1
 have k2:=hb2.c2
 have k3:=hb2.c3
 have k4:=hb2.c4
 have k5:=hb2.c5
 have kp:=hp2.c0
 have hx2:=Nx.right st s 0 0
 have B2:=Lib.hid hb2;have P2:=Lib.hid hp2;have S2:=Lib.hid (Sab.out.trans s2);have N2:=Lib.hid hx2;have H2:=Lib.hid h2
 have Bel2:=Lib.hid (WStp.below HH.out.wr S2.out)
 clear h2 s2 hb2 hp2 hx2 Hbx Hbp Sab
 have Hr2:Hid ((st.right s).ok=true):=Hr
 generalize hst2:st.right s=st2 at N2 H2 Hr2
 have KS:=Lib.hid hst2
 clear hst2
 have hns:(toBA s.name).size≤1100000:=by rw [toBA_len];exact hnl
 obtain ⟨bb,g1,g2,g3⟩:∃ bb,decide (0 < s.p.length)=bb∧decide ((0:Int) < (s.p.length:Int))=bb∧decide ((s.p.length:Int) > 0)=bb:=⟨_,rfl,by apply decide_eq_decide.2;omega,by apply decide_eq_decide.2;omega⟩
 have KG1:=Lib.hid g1
 have hmust:=must_any H2.out bb
 have Hmust:=Lib.hid hmust
 clear hmust
 go_wp2_with fail
 refine Hmust.out.mono ?_
 rintro _ w3 ⟨rfl,h3,s3⟩
 have hb3:=B2.out.step s3
 have hp3:=P2.out.step s3
 have hn3:=N2.out.trans (Nx.must st2 bb 0 0) (Nat.le_refl _) (Nat.le_refl _)
 clear k0 k1 k2 k3 k4 k5 kp Hmust H2 B2 P2 N2 Bel2 g1 g2 g3
 have k0:=hb3.c0
 have k1:=hb3.c1
 have k2:=hb3.c2
 have k3:=hb3.c3
 have k4:=hb3.c4
 have k5:=hb3.c5
 have kp:=hp3.c0
 have hs3:=S2.out.trans s3
 have H2:=Lib.hid h3;have B2:=Lib.hid hb3;have P2:=Lib.hid hp3;have N2:=Lib.hid hn3
 clear S2
 have S2:=Lib.hid hs3;have Bel2:=Lib.hid (WStp.below HH.out.wr hs3)
 clear h3 hb3 hp3 hn3 hs3 s3
 generalize hst3:st2.must bb=st3 at H2 N2
 have KM:=Lib.hid hst3
 clear hst3
 have H2d:=Lib.hid H2.out.drew;have S2d:=Lib.hid S2.out.drew;have B2d:=Lib.hid B2.out.drew;have P2d:=Lib.hid P2.out.drew
 have Hcall:=Lib.hid (names_any H2d.out s.p _ (Hps.out.below (WStp.below HH.out.wr S2d.out)) hpb (HH.out.glob.below (WStp.below HH.out.wr S2d.out)))
 go_upto_region 39 with fail
 have f1:∀ w,(Op.stringOp .add (toBA s.kind) (⟨#[32]⟩)).run Tryz.prog w= .ok (.string (toBA s.kind ++ ⟨#[32]⟩)) w:=fun w=>run_string_add_sum w _ _ (by ((repeat (first | rw [ByteArray.size_append] | rw [size_lit1] | rw [size_lit2] | rw [size_lit3] | rw [size_lit4] | rw [size_lit5] | rw [size_lit6] | rw [size_lit7] | rw [size_lit8]));(first | done | omega)))
 have F2:=Lib.hid (show ∀ r:ByteArray,r.size≤71000000→∀ w,(Op.stringOp .add (toBA s.kind ++ ⟨#[32]⟩) (r)).run Tryz.prog w= .ok (.string (toBA s.kind ++ ⟨#[32]⟩ ++ r)) w from fun r hr w=>run_string_add_sum w _ _ (by ((repeat (first | rw [ByteArray.size_append] | rw [size_lit1] | rw [size_lit2] | rw [size_lit3] | rw [size_lit4] | rw [size_lit5] | rw [size_lit6] | rw [size_lit7] | rw [size_lit8]));(first | done | omega))))
 go_region_held3 (fun w'=>w'.cell? ⟨bp+1,0,none⟩=some (.string (toBA s.kind))∧w'.cell? ⟨bp,0,none⟩=some (.pointer (some ⟨x,0,none⟩))∧w'.cell? ⟨bp+1,2,none⟩=some (.slice ap s.p.length cp)) (go_keep)
  ((first
    | (go_at_call 71;(with_reducible refine Hcall.out.mono ?_);rintro _ w8 ⟨r8,st8,rfl,hr,hn,h,s8,hnl8,hst8⟩;have TN:=Lib.hid hnl8;have TS:=Lib.hid hst8;clear hnl8 hst8;have hrb8:r8.size≤71000000:=(by omega);have Hr8:=Lib.hid hr;have Hn8:=Lib.hid (N2.out.trans hn (Nat.le_refl _) (Nat.le_refl _));have H8:=Lib.hid h;have S8:=Lib.hid (S2d.out.trans s8);have B8:=Lib.hid (B2d.out.step s8);have P8:=Lib.hid (P2d.out.step s8);have f2:=F2.out r8 hrb8;have kp:=P8.out.c0;have k2:=B8.out.c2;have k0:=B8.out.c0;clear hr hn h s8)
    | (go_at_call 68;(with_reducible refine (wline_any H8.out (toBA s.kind ++ ⟨#[32]⟩ ++ r8) (by have:=Hn8.out.inn;have:=HH.out.inn;omega) (by ((repeat (first | rw [ByteArray.size_append] | rw [size_lit1] | rw [size_lit2] | rw [size_lit3] | rw [size_lit4] | rw [size_lit5] | rw [size_lit6] | rw [size_lit7] | rw [size_lit8]));(first | done | omega))) (by have:=Hn8.out.len;have:=HH.out.len;omega)).mono ?_);rintro _ w9 ⟨p9,v9,l9,rfl,h9,s9⟩;have H9:=Lib.hid h9;have S9:=Lib.hid (S8.out.trans s9);have B9:=Lib.hid (B8.out.step s9);have P9:=Lib.hid (P8.out.step s9);have kp:=P9.out.c0;have k2:=B9.out.c2;have k0:=B9.out.c0;clear h9 s9)))
 all_goals
  go_wp2_with fail
  go_end0
  refine ⟨_,p9,v9,l9,rfl,Hn8.out.trans (nx_line (st:=st8) (4 * st8.inn+(toBA s.kind ++ ⟨#[32]⟩ ++ r8).size+1)) ?_ ?_,⟨fun _=>Hnm.out,?_⟩,H9.out,S9.out⟩
  · have:=Stm.nodes_eq s;omega
  · have:=Stm.bulk_eq s;have:=Hn8.out.inn;have:=HH.out.inn;have:=Hr8.out;((repeat (first | rw [ByteArray.size_append] | rw [size_lit1] | rw [size_lit2] | rw [size_lit3] | rw [size_lit4] | rw [size_lit5] | rw [size_lit6] | rw [size_lit7] | rw [size_lit8]));(first | done | omega))
  · have h9:=line_eq (st:=st8) (m:=(toBA s.kind ++ ⟨#[32]⟩ ++ r8).size) (n:=s.kind.length+1+namesLen s.p) (by rw [← TN.out];simp only [ByteArray.size_append,toBA_len];rfl)
    rw [h9,TS.out,← KM.out,← KS.out]
    exact SW.names Hr.out (.inl KO.out) KG1.out
set_option maxRecDepth 100000 in
set_option maxHeartbeats 20000000 in
theorem stmt_nonlocal {s:Stm} {deep:Nat} {w:World} {x:Nat} {st:WS} {p v:Value} {l:List UInt8} {vp vl vb ve:Value} (H:StmIn s deep w x st p v l vp vl vb ve) (hr:(st.right s).ok=true) (hk:s.kind=sNonlocal):
 Calls Tryz.prog 33 #[.pointer (some ⟨x,0,none⟩),.agg #[.string (toBA s.kind),.string (toBA s.name),vp,vl,vb,ve],.int .i64 (deep:Int)] w (WrPost x w st (8 * s.nodes - 1) (20000000 * s.bulk) fun st'=>(st'.ok=true→s.named)∧SW s deep st st'):=by
 have hform:=form_parts (f:=⟨false,true,0,false,false⟩) (by rw [hk];rfl) (right_ok hr).1
 have u1:=op_is hk [101,120,112,114] (b:=false) rfl
 have u2:=op_is hk [115,101,116] (b:=false) rfl
 have u3:=op_is hk [112,117,116] (b:=false) rfl
 have u4:=op_is hk [100,101,108] (b:=false) rfl
 have u5:=op_is hk [105,102] (b:=false) rfl
 have u6:=op_is hk [119,104,105,108,101] (b:=false) rfl
 have u7:=op_is hk [102,111,114] (b:=false) rfl
 have u8:=op_is hk [100,101,102] (b:=false) rfl
 have u9:=op_is hk [116,114,121] (b:=false) rfl
 have u10:=op_is hk [114,101,116,117,114,110] (b:=false) rfl
 have u11:=op_is hk [114,97,105,115,101] (b:=false) rfl
 have u12:=op_is hk [103,108,111,98,97,108] (b:=false) rfl
 have u13:=op_is hk [110,111,110,108,111,99,97,108] (b:=true) rfl
 have hkz:(toBA s.kind).size≤8:=by rw [toBA_len,hk];decide
 have hkz2:s.kind.length≤8:=by rw [hk];decide
 have hnm:=named_of hr (nil_named (hform.2.2.1 rfl)) (nil_named (hform.2.2.2.1 rfl))
 have Hnm:=Lib.hid hnm;have Hps:=Lib.hid H.ps
 have hpb:strsBulk s.p≤1100000:=by have:=Stm.bulk_eq s;have:=H.bulk;omega
 have KO:=Lib.hid hk
 clear hk hform hnm
 have hkl:s.kind.length≤2000000:=by have:=Stm.bulk_eq s;have:=H.bulk;omega
 have hnl:s.name.length≤1100000:=by have:=Stm.bulk_eq s;have:=H.bulk;omega
 obtain ⟨ap,cp,rfl,hpcap,hpr⟩:=H.ps
 obtain ⟨al,cl,rfl,hlcap,hlr⟩:=H.ls
 obtain ⟨ab,cb,rfl,hbr⟩:=H.bs
 obtain ⟨ae,ce,rfl,her⟩:=H.es
 obtain ⟨ha,sa,sfa⟩:=H.wr.alloc (.cells #[.pointer (some ⟨x,0,none⟩)] 73)
 obtain ⟨hb,sb,sfb⟩:=ha.alloc (.cells #[.string (toBA s.kind),.string (toBA s.name),.slice ap s.p.length cp,.slice al s.l.length cl,.slice ab s.body.length cb,.slice ae s.els.length ce] 82)
 have hbp0:BoxP (w.alloc (.cells #[.pointer (some ⟨x,0,none⟩)] 73)) x w.heap.size:=⟨heap_alloc_new w _,sfa⟩
 have hbp:=hbp0.step sb
 have hbx:BoxS _ x (w.alloc (.cells #[.pointer (some ⟨x,0,none⟩)] 73)).heap.size s ap cp al cl ab cb ae ce:=⟨heap_alloc_new _ _,sfb⟩
 have hsab:=sa.trans sb
 have hR:=right_any hb s ap al ab ae cp cl cb ce hkl hnl (H.glob.below (WStp.below H.wr hsab))
 have hhp:(w.alloc (.cells #[.pointer (some ⟨x,0,none⟩)] 73)).heap.size=w.heap.size+1:=by simp
 rw [hhp] at hbx
 have k0:=hbx.c0
 have k1:=hbx.c1
 have k2:=hbx.c2
 have k3:=hbx.c3
 have k4:=hbx.c4
 have k5:=hbx.c5
 have kp:=hbp.c0
 rw [hr] at hR
 have Hbp:=Lib.hid hbp;have Hbx:=Lib.hid hbx;have Sab:=Lib.hid hsab;have HR:=Lib.hid hR;have Hr:=Lib.hid hr;have HH:=Lib.hid H;have Hpr:=Lib.hid hpr;have Hlr:=Lib.hid hlr
 clear ha sa sfa hb sb sfb hbp0 hbp hbx hsab hR hhp hr H hpr hlr hbr her
 go_enter Tryz.func33,Tryz.ntmps33
 go_wp2_with fail
 generalize (w.alloc (.cells #[.pointer (some ⟨x,0,none⟩)] 73)).alloc (.cells #[.string (toBA s.kind),.string (toBA s.name),.slice ap s.p.length cp,.slice al s.l.length cl,.slice ab s.body.length cb,.slice ae s.els.length ce] 82)=wA at HR Hbp Hbx Sab k0 k1 k2 k3 k4 k5 kp ⊢
 generalize hbpn:w.heap.size=bp at Hbp Hbx k0 k1 k2 k3 k4 k5 kp ⊢
 clear hbpn
 refine HR.out.mono ?_
 rintro _ w2 ⟨rfl,h2,s2⟩
 clear k0 k1 k2 k3 k4 k5 kp HR
 have hb2:=Hbx.out.step s2
 have hp2:=Hbp.out.step s2
 have k0:=hb2.c0
 have k1:=hb2.c1
 have k2:=hb2.c2
 have k3:=hb2.c3
 have k4:=hb2.c4
 have k5:=hb2.c5
 have kp:=hp2.c0
 have hx2:=Nx.right st s 0 0
 have B2:=Lib.hid hb2;have P2:=Lib.hid hp2;have S2:=Lib.hid (Sab.out.trans s2);have N2:=Lib.hid hx2;have H2:=Lib.hid h2
 have Bel2:=Lib.hid (WStp.below HH.out.wr S2.out)
 clear h2 s2 hb2 hp2 hx2 Hbx Hbp Sab
 have Hr2:Hid ((st.right s).ok=true):=Hr
 generalize hst2:st.right s=st2 at N2 H2 Hr2
 have KS:=Lib.hid hst2
 clear hst2
 have hns:(toBA s.name).size≤1100000:=by rw [toBA_len];exact hnl
 obtain ⟨bb,g1,g2,g3⟩:∃ bb,decide (0 < s.p.length)=bb∧decide ((0:Int) < (s.p.length:Int))=bb∧decide ((s.p.length:Int) > 0)=bb:=⟨_,rfl,by apply decide_eq_decide.2;omega,by apply decide_eq_decide.2;omega⟩
 have KG1:=Lib.hid g1
 have hmust:=must_any H2.out bb
 have Hmust:=Lib.hid hmust
 clear hmust
 go_wp2_with fail
 refine Hmust.out.mono ?_
 rintro _ w3 ⟨rfl,h3,s3⟩
 have hb3:=B2.out.step s3
 have hp3:=P2.out.step s3
 have hn3:=N2.out.trans (Nx.must st2 bb 0 0) (Nat.le_refl _) (Nat.le_refl _)
 clear k0 k1 k2 k3 k4 k5 kp Hmust H2 B2 P2 N2 Bel2 g1 g2 g3
 have k0:=hb3.c0
 have k1:=hb3.c1
 have k2:=hb3.c2
 have k3:=hb3.c3
 have k4:=hb3.c4
 have k5:=hb3.c5
 have kp:=hp3.c0
 have hs3:=S2.out.trans s3
 have H2:=Lib.hid h3;have B2:=Lib.hid hb3;have P2:=Lib.hid hp3;have N2:=Lib.hid hn3
 clear S2
 have S2:=Lib.hid hs3;have Bel2:=Lib.hid (WStp.below HH.out.wr hs3)
 clear h3 hb3 hp3 hn3 hs3 s3
 generalize hst3:st2.must bb=st3 at H2 N2
 have KM:=Lib.hid hst3
 clear hst3
 have H2d:=Lib.hid H2.out.drew;have S2d:=Lib.hid S2.out.drew;have B2d:=Lib.hid B2.out.drew;have P2d:=Lib.hid P2.out.drew
 have Hcall:=Lib.hid (names_any H2d.out s.p _ (Hps.out.below (WStp.below HH.out.wr S2d.out)) hpb (HH.out.glob.below (WStp.below HH.out.wr S2d.out)))
 go_upto_region 39 with fail
 have f1:∀ w,(Op.stringOp .add (toBA s.kind) (⟨#[32]⟩)).run Tryz.prog w= .ok (.string (toBA s.kind ++ ⟨#[32]⟩)) w:=fun w=>run_string_add_sum w _ _ (by ((repeat (first | rw [ByteArray.size_append] | rw [size_lit1] | rw [size_lit2] | rw [size_lit3] | rw [size_lit4] | rw [size_lit5] | rw [size_lit6] | rw [size_lit7] | rw [size_lit8]));(first | done | omega)))
 have F2:=Lib.hid (show ∀ r:ByteArray,r.size≤71000000→∀ w,(Op.stringOp .add (toBA s.kind ++ ⟨#[32]⟩) (r)).run Tryz.prog w= .ok (.string (toBA s.kind ++ ⟨#[32]⟩ ++ r)) w from fun r hr w=>run_string_add_sum w _ _ (by ((repeat (first | rw [ByteArray.size_append] | rw [size_lit1] | rw [size_lit2] | rw [size_lit3] | rw [size_lit4] | rw [size_lit5] | rw [size_lit6] | rw [size_lit7] | rw [size_lit8]));(first | done | omega))))
 go_region_held3 (fun w'=>w'.cell? ⟨bp+1,0,none⟩=some (.string (toBA s.kind))∧w'.cell? ⟨bp,0,none⟩=some (.pointer (some ⟨x,0,none⟩))∧w'.cell? ⟨bp+1,2,none⟩=some (.slice ap s.p.length cp)) (go_keep)
  ((first
    | (go_at_call 71;(with_reducible refine Hcall.out.mono ?_);rintro _ w8 ⟨r8,st8,rfl,hr,hn,h,s8,hnl8,hst8⟩;have TN:=Lib.hid hnl8;have TS:=Lib.hid hst8;clear hnl8 hst8;have hrb8:r8.size≤71000000:=(by omega);have Hr8:=Lib.hid hr;have Hn8:=Lib.hid (N2.out.trans hn (Nat.le_refl _) (Nat.le_refl _));have H8:=Lib.hid h;have S8:=Lib.hid (S2d.out.trans s8);have B8:=Lib.hid (B2d.out.step s8);have P8:=Lib.hid (P2d.out.step s8);have f2:=F2.out r8 hrb8;have kp:=P8.out.c0;have k2:=B8.out.c2;have k0:=B8.out.c0;clear hr hn h s8)
    | (go_at_call 68;(with_reducible refine (wline_any H8.out (toBA s.kind ++ ⟨#[32]⟩ ++ r8) (by have:=Hn8.out.inn;have:=HH.out.inn;omega) (by ((repeat (first | rw [ByteArray.size_append] | rw [size_lit1] | rw [size_lit2] | rw [size_lit3] | rw [size_lit4] | rw [size_lit5] | rw [size_lit6] | rw [size_lit7] | rw [size_lit8]));(first | done | omega))) (by have:=Hn8.out.len;have:=HH.out.len;omega)).mono ?_);rintro _ w9 ⟨p9,v9,l9,rfl,h9,s9⟩;have H9:=Lib.hid h9;have S9:=Lib.hid (S8.out.trans s9);have B9:=Lib.hid (B8.out.step s9);have P9:=Lib.hid (P8.out.step s9);have kp:=P9.out.c0;have k2:=B9.out.c2;have k0:=B9.out.c0;clear h9 s9)))
 all_goals
  go_wp2_with fail
  go_end0
  refine ⟨_,p9,v9,l9,rfl,Hn8.out.trans (nx_line (st:=st8) (4 * st8.inn+(toBA s.kind ++ ⟨#[32]⟩ ++ r8).size+1)) ?_ ?_,⟨fun _=>Hnm.out,?_⟩,H9.out,S9.out⟩
  · have:=Stm.nodes_eq s;omega
  · have:=Stm.bulk_eq s;have:=Hn8.out.inn;have:=HH.out.inn;have:=Hr8.out;((repeat (first | rw [ByteArray.size_append] | rw [size_lit1] | rw [size_lit2] | rw [size_lit3] | rw [size_lit4] | rw [size_lit5] | rw [size_lit6] | rw [size_lit7] | rw [size_lit8]));(first | done | omega))
  · have h9:=line_eq (st:=st8) (m:=(toBA s.kind ++ ⟨#[32]⟩ ++ r8).size) (n:=s.kind.length+1+namesLen s.p) (by rw [← TN.out];simp only [ByteArray.size_append,toBA_len];rfl)
    rw [h9,TS.out,← KM.out,← KS.out]
    exact SW.names Hr.out (.inr KO.out) KG1.out
end Go.Proofs.YtdoaeapahgmfoaaGreatDoor
