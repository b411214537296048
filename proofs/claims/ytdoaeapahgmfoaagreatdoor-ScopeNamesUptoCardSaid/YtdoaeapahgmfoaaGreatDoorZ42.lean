/- The writer's statement: words alone. The writer's statement: try, if. -/
import Derived.Test.YtdoaeapahgmfoaaGreatDoorZ41
namespace Go.Proofs.YtdoaeapahgmfoaaGreatDoor
open Go.RowKit
set_option maxRecDepth 100000 in
set_option maxHeartbeats 20000000 in
theorem stmt_break {s:Stm} {deep:Nat} {w:World} {x:Nat} {st:WS} {p v:Value} {l:List UInt8} {vp vl vb ve:Value} (H:StmIn s deep w x st p v l vp vl vb ve) (hr:(st.right s).ok=true) (hk:s.kind=sBreak):
 Calls Tryz.prog 33 #[.pointer (some ⟨x,0,none⟩),.agg #[.string (toBA s.kind),.string (toBA s.name),vp,vl,vb,ve],.int .i64 (deep:Int)] w (WrPost x w st (8 * s.nodes - 1) (20000000 * s.bulk) fun st'=>(st'.ok=true→s.named)∧SW s deep st st'):=by
 have hform:=form_parts (f:=⟨false,false,0,false,false⟩) (by rw [hk];rfl) (right_ok hr).1
 have u1:=op_is hk [101,120,112,114] (b:=false) rfl
 have u2:=op_is hk [115,101,116] (b:=false) rfl
 have u3:=op_is hk [112,117,116] (b:=false) rfl
 have u4:=op_is hk [100,101,108] (b:=false) rfl
 have u5:=op_is hk [105,102] (b:=false) rfl
 have u6:=op_is hk [119,104,105,108,101] (b:=false) rfl
 have u7:=op_is hk [102,111,114] (b:=false) rfl
 have u8:=op_is hk [100,101,102] (b:=false) rfl
 have u9:=op_is hk [116,114,121] (b:=false) rfl
 have u10:=op_is hk [114,101,116,117,114,110] (b:=false) rfl
 have u11:=op_is hk [114,97,105,115,101] (b:=false) rfl
 have u12:=op_is hk [103,108,111,98,97,108] (b:=false) rfl
 have u13:=op_is hk [110,111,110,108,111,99,97,108] (b:=false) rfl
 have hkz:(toBA s.kind).size≤8:=by rw [toBA_len,hk];decide
 have hkz2:s.kind.length≤8:=by rw [hk];decide
 have hnm:=named_of hr (nil_named (hform.2.2.1 rfl)) (nil_named (hform.2.2.2.1 rfl))
 have Hnm:=Lib.hid hnm;have Hps:=Lib.hid H.ps
 have hpb:strsBulk s.p≤1100000:=by have:=Stm.bulk_eq s;have:=H.bulk;omega
 have KO:=Lib.hid hk
 clear hk hform hnm
 have hkl:s.kind.length≤2000000:=by have:=Stm.bulk_eq s;have:=H.bulk;omega
 have hnl:s.name.length≤1100000:=by have:=Stm.bulk_eq s;have:=H.bulk;omega
 obtain ⟨ap,cp,rfl,hpcap,hpr⟩:=H.ps
 obtain ⟨al,cl,rfl,hlcap,hlr⟩:=H.ls
 obtain ⟨ab,cb,rfl,hbr⟩:=H.bs
 obtain ⟨ae,ce,rfl,her⟩:=H.es
 obtain ⟨ha,sa,sfa⟩:=H.wr.alloc (.cells #[.pointer (some ⟨x,0,none⟩)] 73)
 obtain ⟨hb,sb,sfb⟩:=ha.alloc (.cells #[.string (toBA s.kind),.string (toBA s.name),.slice ap s.p.length cp,.slice al s.l.length cl,.slice ab s.body.length cb,.slice ae s.els.length ce] 82)
 have hbp0:BoxP (w.alloc (.cells #[.pointer (some ⟨x,0,none⟩)] 73)) x w.heap.size:=⟨heap_alloc_new w _,sfa⟩
 have hbp:=hbp0.step sb
 have hbx:BoxS _ x (w.alloc (.cells #[.pointer (some ⟨x,0,none⟩)] 73)).heap.size s ap cp al cl ab cb ae ce:=⟨heap_alloc_new _ _,sfb⟩
 have hsab:=sa.trans sb
 have hR:=right_any hb s ap al ab ae cp cl cb ce hkl hnl (H.glob.below (WStp.below H.wr hsab))
 have hhp:(w.alloc (.cells #[.pointer (some ⟨x,0,none⟩)] 73)).heap.size=w.heap.size+1:=by simp
 rw [hhp] at hbx
 have k0:=hbx.c0
 have k1:=hbx.c1
 have k2:=hbx.c2
 have k3:=hbx.c3
 have k4:=hbx.c4
 have k5:=hbx.c5
 have kp:=hbp.c0
 rw [hr] at hR
 have Hbp:=Lib.hid hbp;have Hbx:=Lib.hid hbx;have Sab:=Lib.hid hsab;have HR:=Lib.hid hR;have Hr:=Lib.hid hr;have HH:=Lib.hid H;have Hpr:=Lib.hid hpr;have Hlr:=Lib.hid hlr
 clear ha sa sfa hb sb sfb hbp0 hbp hbx hsab hR hhp hr H hpr hlr hbr her
 go_enter Tryz.func33,Tryz.ntmps33
 go_wp2_with fail
 generalize (w.alloc (.cells #[.pointer (some ⟨x,0,none⟩)] 73)).alloc (.cells #[.string (toBA s.kind),.string (toBA s.name),.slice ap s.p.length cp,.slice al s.l.length cl,.slice ab s.body.length cb,.slice ae s.els.length ce] 82)=wA at HR Hbp Hbx Sab k0 k1 k2 k3 k4 k5 kp ⊢
 generalize hbpn:w.heap.size=bp at Hbp Hbx k0 k1 k2 k3 k4 k5 kp ⊢
 clear hbpn
 refine HR.out.mono ?_
 rintro _ w2 ⟨rfl,h2,s2⟩
 clear k0 k1 k2 k3 k4 k5 kp HR
 have hb2:=Hbx.out.step s2
 have hp2:=Hbp.out.step s2
 have k0:=hb2.c0
 have k1:=hb2.c1
 have k2:=hb2.c2
 have k3:=hb2.c3
 have k4:=hb2.c4
 have k5:=hb2.c5
 have kp:=hp2.c0
 have hx2:=Nx.right st s 0 0
 have B2:=Lib.hid hb2;have P2:=Lib.hid hp2;have S2:=Lib.hid (Sab.out.trans s2);have N2:=Lib.hid hx2;have H2:=Lib.hid h2
 have Bel2:=Lib.hid (WStp.below HH.out.wr S2.out)
 clear h2 s2 hb2 hp2 hx2 Hbx Hbp Sab
 have Hr2:Hid ((st.right s).ok=true):=Hr
 generalize hst2:st.right s=st2 at N2 H2 Hr2
 have KS:=Lib.hid hst2
 clear hst2
 have hns:(toBA s.name).size≤1100000:=by rw [toBA_len];exact hnl
 have hin2:=N2.out.inn
 have hln2:=N2.out.len
 have hii:=HH.out.inn
 have hll:=HH.out.len
 have Hwl:=Lib.hid (wline_any H2.out (toBA s.kind) (by omega) (by ((repeat (first | rw [ByteArray.size_append] | rw [size_lit1] | rw [size_lit2] | rw [size_lit3] | rw [size_lit4] | rw [size_lit5] | rw [size_lit6] | rw [size_lit7] | rw [size_lit8]));(first | done | omega))) (by omega))
 go_wp2_with fail
 refine Hwl.out.mono ?_
 rintro _ w9 ⟨p9,v9,l9,rfl,h9,s9⟩
 have H9:=Lib.hid h9;have S9:=Lib.hid (S2.out.trans s9)
 clear h9 s9 Hwl
 go_wp2_with fail
 go_end0
 refine ⟨_,p9,v9,l9,rfl,N2.out.trans (nx_line (st:=st2) (4 * st2.inn+(toBA s.kind).size+1)) ?_ ?_,⟨fun _=>Hnm.out,?_⟩,H9.out,S9.out⟩
 · have:=Stm.nodes_eq s;omega
 · have:=Stm.bulk_eq s;((repeat (first | rw [ByteArray.size_append] | rw [size_lit1] | rw [size_lit2] | rw [size_lit3] | rw [size_lit4] | rw [size_lit5] | rw [size_lit6] | rw [size_lit7] | rw [size_lit8]));(first | done | omega))
 · have h9:=line_eq (st:=st2) (m:=(toBA s.kind).size) (n:=s.kind.length) (by first | exact toBA_len _ | rfl)
   rw [h9,← KS.out]
   exact SW.word Hr.out (.inl KO.out)
set_option maxRecDepth 100000 in
set_option maxHeartbeats 20000000 in
theorem stmt_continue {s:Stm} {deep:Nat} {w:World} {x:Nat} {st:WS} {p v:Value} {l:List UInt8} {vp vl vb ve:Value} (H:StmIn s deep w x st p v l vp vl vb ve) (hr:(st.right s).ok=true) (hk:s.kind=sContinue):
 Calls Tryz.prog 33 #[.pointer (some ⟨x,0,none⟩),.agg #[.string (toBA s.kind),.string (toBA s.name),vp,vl,vb,ve],.int .i64 (deep:Int)] w (WrPost x w st (8 * s.nodes - 1) (20000000 * s.bulk) fun st'=>(st'.ok=true→s.named)∧SW s deep st st'):=by
 have hform:=form_parts (f:=⟨false,false,0,false,false⟩) (by rw [hk];rfl) (right_ok hr).1
 have u1:=op_is hk [101,120,112,114] (b:=false) rfl
 have u2:=op_is hk [115,101,116] (b:=false) rfl
 have u3:=op_is hk [112,117,116] (b:=false) rfl
 have u4:=op_is hk [100,101,108] (b:=false) rfl
 have u5:=op_is hk [105,102] (b:=false) rfl
 have u6:=op_is hk [119,104,105,108,101] (b:=false) rfl
 have u7:=op_is hk [102,111,114] (b:=false) rfl
 have u8:=op_is hk [100,101,102] (b:=false) rfl
 have u9:=op_is hk [116,114,121] (b:=false) rfl
 have u10:=op_is hk [114,101,116,117,114,110] (b:=false) rfl
 have u11:=op_is hk [114,97,105,115,101] (b:=false) rfl
 have u12:=op_is hk [103,108,111,98,97,108] (b:=false) rfl
 have u13:=op_is hk [110,111,110,108,111,99,97,108] (b:=false) rfl
 have hkz:(toBA s.kind).size≤8:=by rw [toBA_len,hk];decide
 have hkz2:s.kind.length≤8:=by rw [hk];decide
 have hnm:=named_of hr (nil_named (hform.2.2.1 rfl)) (nil_named (hform.2.2.2.1 rfl))
 have Hnm:=Lib.hid hnm;have Hps:=Lib.hid H.ps
 have hpb:strsBulk s.p≤1100000:=by have:=Stm.bulk_eq s;have:=H.bulk;omega
 have KO:=Lib.hid hk
 clear hk hform hnm
 have hkl:s.kind.length≤2000000:=by have:=Stm.bulk_eq s;have:=H.bulk;omega
 have hnl:s.name.length≤1100000:=by have:=Stm.bulk_eq s;have:=H.bulk;omega
 obtain ⟨ap,cp,rfl,hpcap,hpr⟩:=H.ps
 obtain ⟨al,cl,rfl,hlcap,hlr⟩:=H.ls
 obtain ⟨ab,cb,rfl,hbr⟩:=H.bs
 obtain ⟨ae,ce,rfl,her⟩:=H.es
 obtain ⟨ha,sa,sfa⟩:=H.wr.alloc (.cells #[.pointer (some ⟨x,0,none⟩)] 73)
 obtain ⟨hb,sb,sfb⟩:=ha.alloc (.cells #[.string (toBA s.kind),.string (toBA s.name),.slice ap s.p.length cp,.slice al s.l.length cl,.slice ab s.body.length cb,.slice ae s.els.length ce] 82)
 have hbp0:BoxP (w.alloc (.cells #[.pointer (some ⟨x,0,none⟩)] 73)) x w.heap.size:=⟨heap_alloc_new w _,sfa⟩
 have hbp:=hbp0.step sb
 have hbx:BoxS _ x (w.alloc (.cells #[.pointer (some ⟨x,0,none⟩)] 73)).heap.size s ap cp al cl ab cb ae ce:=⟨heap_alloc_new _ _,sfb⟩
 have hsab:=sa.trans sb
 have hR:=right_any hb s ap al ab ae cp cl cb ce hkl hnl (H.glob.below (WStp.below H.wr hsab))
 have hhp:(w.alloc (.cells #[.pointer (some ⟨x,0,none⟩)] 73)).heap.size=w.heap.size+1:=by simp
 rw [hhp] at hbx
 have k0:=hbx.c0
 have k1:=hbx.c1
 have k2:=hbx.c2
 have k3:=hbx.c3
 have k4:=hbx.c4
 have k5:=hbx.c5
 have kp:=hbp.c0
 rw [hr] at hR
 have Hbp:=Lib.hid hbp;have Hbx:=Lib.hid hbx;have Sab:=Lib.hid hsab;have HR:=Lib.hid hR;have Hr:=Lib.hid hr;have HH:=Lib.hid H;have Hpr:=Lib.hid hpr;have Hlr:=Lib.hid hlr
 clear ha sa sfa hb sb sfb hbp0 hbp hbx hsab hR hhp hr H hpr hlr hbr her
 go_enter Tryz.func33,Tryz.ntmps33
 go_wp2_with fail
 generalize (w.alloc (.cells #[.pointer (some ⟨x,0,none⟩)] 73)).alloc (.cells #[.string (toBA s.kind),.string (toBA s.name),.slice ap s.p.length cp,.slice al s.l.length cl,.slice ab s.body.length cb,.slice ae s.els.length ce] 82)=wA at HR Hbp Hbx Sab k0 k1 k2 k3 k4 k5 kp ⊢
 generalize hbpn:w.heap.size=bp at Hbp Hbx k0 k1 k2 k3 k4 k5 kp ⊢
 clear hbpn
 refine HR.out.mono ?_
 rintro _ w2 ⟨rfl,h2,s2⟩
 clear k0 k1 k2 k3 k4 k5 kp HR
 have hb2:=Hbx.out.step s2
 have hp2:=Hbp.out.step s2
 have k0:=hb2.c0
 have k1:=hb2.c1
 have k2:=hb2.c2
 have k3:=hb2.c3
 have k4:=hb2.c4
 have k5:=hb2.c5
 have kp:=hp2.c0
 have hx2:=Nx.right st s 0 0
 have B2:=Lib.hid hb2;have P2:=Lib.hid hp2;have S2:=Lib.hid (Sab.out.trans s2);have N2:=Lib.hid hx2;have H2:=Lib.hid h2
 have Bel2:=Lib.hid (WStp.below HH.out.wr S2.out)
 clear h2 s2 hb2 hp2 hx2 Hbx Hbp Sab
 have Hr2:Hid ((st.right s).ok=true):=Hr
 generalize hst2:st.right s=st2 at N2 H2 Hr2
 have KS:=Lib.hid hst2
 clear hst2
 have hns:(toBA s.name).size≤1100000:=by rw [toBA_len];exact hnl
 have hin2:=N2.out.inn
 have hln2:=N2.out.len
 have hii:=HH.out.inn
 have hll:=HH.out.len
 have Hwl:=Lib.hid (wline_any H2.out (toBA s.kind) (by omega) (by ((repeat (first | rw [ByteArray.size_append] | rw [size_lit1] | rw [size_lit2] | rw [size_lit3] | rw [size_lit4] | rw [size_lit5] | rw [size_lit6] | rw [size_lit7] | rw [size_lit8]));(first | done | omega))) (by omega))
 go_wp2_with fail
 refine Hwl.out.mono ?_
 rintro _ w9 ⟨p9,v9,l9,rfl,h9,s9⟩
 have H9:=Lib.hid h9;have S9:=Lib.hid (S2.out.trans s9)
 clear h9 s9 Hwl
 go_wp2_with fail
 go_end0
 refine ⟨_,p9,v9,l9,rfl,N2.out.trans (nx_line (st:=st2) (4 * st2.inn+(toBA s.kind).size+1)) ?_ ?_,⟨fun _=>Hnm.out,?_⟩,H9.out,S9.out⟩
 · have:=Stm.nodes_eq s;omega
 · have:=Stm.bulk_eq s;((repeat (first | rw [ByteArray.size_append] | rw [size_lit1] | rw [size_lit2] | rw [size_lit3] | rw [size_lit4] | rw [size_lit5] | rw [size_lit6] | rw [size_lit7] | rw [size_lit8]));(first | done | omega))
 · have h9:=line_eq (st:=st2) (m:=(toBA s.kind).size) (n:=s.kind.length) (by first | exact toBA_len _ | rfl)
   rw [h9,← KS.out]
   exact SW.word Hr.out (.inr (.inl KO.out))
set_option maxRecDepth 100000 in
set_option maxHeartbeats 20000000 in
theorem stmt_pass {s:Stm} {deep:Nat} {w:World} {x:Nat} {st:WS} {p v:Value} {l:List UInt8} {vp vl vb ve:Value} (H:StmIn s deep w x st p v l vp vl vb ve) (hr:(st.right s).ok=true) (hk:s.kind=sPass):
 Calls Tryz.prog 33 #[.pointer (some ⟨x,0,none⟩),.agg #[.string (toBA s.kind),.string (toBA s.name),vp,vl,vb,ve],.int .i64 (deep:Int)] w (WrPost x w st (8 * s.nodes - 1) (20000000 * s.bulk) fun st'=>(st'.ok=true→s.named)∧SW s deep st st'):=by
 have hform:=form_parts (f:=⟨false,false,0,false,false⟩) (by rw [hk];rfl) (right_ok hr).1
 have u1:=op_is hk [101,120,112,114] (b:=false) rfl
 have u2:=op_is hk [115,101,116] (b:=false) rfl
 have u3:=op_is hk [112,117,116] (b:=false) rfl
 have u4:=op_is hk [100,101,108] (b:=false) rfl
 have u5:=op_is hk [105,102] (b:=false) rfl
 have u6:=op_is hk [119,104,105,108,101] (b:=false) rfl
 have u7:=op_is hk [102,111,114] (b:=false) rfl
 have u8:=op_is hk [100,101,102] (b:=false) rfl
 have u9:=op_is hk [116,114,121] (b:=false) rfl
 have u10:=op_is hk [114,101,116,117,114,110] (b:=false) rfl
 have u11:=op_is hk [114,97,105,115,101] (b:=false) rfl
 have u12:=op_is hk [103,108,111,98,97,108] (b:=false) rfl
 have u13:=op_is hk [110,111,110,108,111,99,97,108] (b:=false) rfl
 have hkz:(toBA s.kind).size≤8:=by rw [toBA_len,hk];decide
 have hkz2:s.kind.length≤8:=by rw [hk];decide
 have hnm:=named_of hr (nil_named (hform.2.2.1 rfl)) (nil_named (hform.2.2.2.1 rfl))
 have Hnm:=Lib.hid hnm;have Hps:=Lib.hid H.ps
 have hpb:strsBulk s.p≤1100000:=by have:=Stm.bulk_eq s;have:=H.bulk;omega
 have KO:=Lib.hid hk
 clear hk hform hnm
 have hkl:s.kind.length≤2000000:=by have:=Stm.bulk_eq s;have:=H.bulk;omega
 have hnl:s.name.length≤1100000:=by have:=Stm.bulk_eq s;have:=H.bulk;omega
 obtain ⟨ap,cp,rfl,hpcap,hpr⟩:=H.ps
 obtain ⟨al,cl,rfl,hlcap,hlr⟩:=H.ls
 obtain ⟨ab,cb,rfl,hbr⟩:=H.bs
 obtain ⟨ae,ce,rfl,her⟩:=H.es
 obtain ⟨ha,sa,sfa⟩:=H.wr.alloc (.cells #[.pointer (some ⟨x,0,none⟩)] 73)
 obtain ⟨hb,sb,sfb⟩:=ha.alloc (.cells #[.string (toBA s.kind),.string (toBA s.name),.slice ap s.p.length cp,.slice al s.l.length cl,.slice ab s.body.length cb,.slice ae s.els.length ce] 82)
 have hbp0:BoxP (w.alloc (.cells #[.pointer (some ⟨x,0,none⟩)] 73)) x w.heap.size:=⟨heap_alloc_new w _,sfa⟩
 have hbp:=hbp0.step sb
 have hbx:BoxS _ x (w.alloc (.cells #[.pointer (some ⟨x,0,none⟩)] 73)).heap.size s ap cp al cl ab cb ae ce:=⟨heap_alloc_new _ _,sfb⟩
 have hsab:=sa.trans sb
 have hR:=right_any hb s ap al ab ae cp cl cb ce hkl hnl (H.glob.below (WStp.below H.wr hsab))
 have hhp:(w.alloc (.cells #[.pointer (some ⟨x,0,none⟩)] 73)).heap.size=w.heap.size+1:=by simp
 rw [hhp] at hbx
 have k0:=hbx.c0
 have k1:=hbx.c1
 have k2:=hbx.c2
 have k3:=hbx.c3
 have k4:=hbx.c4
 have k5:=hbx.c5
 have kp:=hbp.c0
 rw [hr] at hR
 have Hbp:=Lib.hid hbp;have Hbx:=Lib.hid hbx;have Sab:=Lib.hid hsab;have HR:=Lib.hid hR;have Hr:=Lib.hid hr;have HH:=Lib.hid H;have Hpr:=Lib.hid hpr;have Hlr:=Lib.hid hlr
 clear ha sa sfa hb sb sfb hbp0 hbp hbx hsab hR hhp hr H hpr hlr hbr her
 go_enter Tryz.func33,Tryz.ntmps33
 go_wp2_with fail
 generalize (w.alloc (.cells #[.pointer (some ⟨x,0,none⟩)] 73)).alloc (.cells #[.string (toBA s.kind),.string (toBA s.name),.slice ap s.p.length cp,.slice al s.l.length cl,.slice ab s.body.length cb,.slice ae s.els.length ce] 82)=wA at HR Hbp Hbx Sab k0 k1 k2 k3 k4 k5 kp ⊢
 generalize hbpn:w.heap.size=bp at Hbp Hbx k0 k1 k2 k3 k4 k5 kp ⊢
 clear hbpn
 refine HR.out.mono ?_
 rintro _ w2 ⟨rfl,h2,s2⟩
 clear k0 k1 k2 k3 k4 k5 kp HR
 have hb2:=Hbx.out.step s2
 have hp2:=Hbp.out.step s2
 have k0:=hb2.c0
 have k1:=hb2.c1
 have k2:=hb2.c2
 have k3:=hb2.c3
 have k4:=hb2.c4
 have k5:=hb2.c5
 have kp:=hp2.c0
 have hx2:=Nx.right st s 0 0
 have B2:=Lib.hid hb2;have P2:=Lib.hid hp2;have S2:=Lib.hid (Sab.out.trans s2);have N2:=Lib.hid hx2;have H2:=Lib.hid h2
 have Bel2:=Lib.hid (WStp.below HH.out.wr S2.out)
 clear h2 s2 hb2 hp2 hx2 Hbx Hbp Sab
 have Hr2:Hid ((st.right s).ok=true):=Hr
 generalize hst2:st.right s=st2 at N2 H2 Hr2
 have KS:=Lib.hid hst2
 clear hst2
 have hns:(toBA s.name).size≤1100000:=by rw [toBA_len];exact hnl
 have hin2:=N2.out.inn
 have hln2:=N2.out.len
 have hii:=HH.out.inn
 have hll:=HH.out.len
 have Hwl:=Lib.hid (wline_any H2.out (toBA s.kind) (by omega) (by ((repeat (first | rw [ByteArray.size_append] | rw [size_lit1] | rw [size_lit2] | rw [size_lit3] | rw [size_lit4] | rw [size_lit5] | rw [size_lit6] | rw [size_lit7] | rw [size_lit8]));(first | done | omega))) (by omega))
 go_wp2_with fail
 refine Hwl.out.mono ?_
 rintro _ w9 ⟨p9,v9,l9,rfl,h9,s9⟩
 have H9:=Lib.hid h9;have S9:=Lib.hid (S2.out.trans s9)
 clear h9 s9 Hwl
 go_wp2_with fail
 go_end0
 refine ⟨_,p9,v9,l9,rfl,N2.out.trans (nx_line (st:=st2) (4 * st2.inn+(toBA s.kind).size+1)) ?_ ?_,⟨fun _=>Hnm.out,?_⟩,H9.out,S9.out⟩
 · have:=Stm.nodes_eq s;omega
 · have:=Stm.bulk_eq s;((repeat (first | rw [ByteArray.size_append] | rw [size_lit1] | rw [size_lit2] | rw [size_lit3] | rw [size_lit4] | rw [size_lit5] | rw [size_lit6] | rw [size_lit7] | rw [size_lit8]));(first | done | omega))
 · have h9:=line_eq (st:=st2) (m:=(toBA s.kind).size) (n:=s.kind.length) (by first | exact toBA_len _ | rfl)
   rw [h9,← KS.out]
   exact SW.word Hr.out (.inr (.inr KO.out))
set_option maxRecDepth 100000 in
set_option maxHeartbeats 20000000 in
theorem stmt_return0 {s:Stm} {deep:Nat} {w:World} {x:Nat} {st:WS} {p v:Value} {l:List UInt8} {vp vl vb ve:Value} (H:StmIn s deep w x st p v l vp vl vb ve) (hr:(st.right s).ok=true) (hk:s.kind=sReturn) (h1:s.l.length=0):
 Calls Tryz.prog 33 #[.pointer (some ⟨x,0,none⟩),.agg #[.string (toBA s.kind),.string (toBA s.name),vp,vl,vb,ve],.int .i64 (deep:Int)] w (WrPost x w st (8 * s.nodes - 1) (20000000 * s.bulk) fun st'=>(st'.ok=true→s.named)∧SW s deep st st'):=by
 have hform:=form_parts (f:=⟨false,false,-1,false,false⟩) (by rw [hk];rfl) (right_ok hr).1
 have u1:=op_is hk [101,120,112,114] (b:=false) rfl
 have u2:=op_is hk [115,101,116] (b:=false) rfl
 have u3:=op_is hk [112,117,116] (b:=false) rfl
 have u4:=op_is hk [100,101,108] (b:=false) rfl
 have u5:=op_is hk [105,102] (b:=false) rfl
 have u6:=op_is hk [119,104,105,108,101] (b:=false) rfl
 have u7:=op_is hk [102,111,114] (b:=false) rfl
 have u8:=op_is hk [100,101,102] (b:=false) rfl
 have u9:=op_is hk [116,114,121] (b:=false) rfl
 have u10:=op_is hk [114,101,116,117,114,110] (b:=true) rfl
 have t1:((s.l.length:Int) == 0)=true:=by rw [beq_iff_eq];omega
 have KL:=Lib.hid (List.eq_nil_of_length_eq_zero h1)
 clear h1
 have hkz:(toBA s.kind).size≤8:=by rw [toBA_len,hk];decide
 have hkz2:s.kind.length≤8:=by rw [hk];decide
 have hnm:=named_of hr (nil_named (hform.2.2.1 rfl)) (nil_named (hform.2.2.2.1 rfl))
 have Hnm:=Lib.hid hnm;have Hps:=Lib.hid H.ps
 have hpb:strsBulk s.p≤1100000:=by have:=Stm.bulk_eq s;have:=H.bulk;omega
 have KO:=Lib.hid hk
 clear hk hform hnm
 have hkl:s.kind.length≤2000000:=by have:=Stm.bulk_eq s;have:=H.bulk;omega
 have hnl:s.name.length≤1100000:=by have:=Stm.bulk_eq s;have:=H.bulk;omega
 obtain ⟨ap,cp,rfl,hpcap,hpr⟩:=H.ps
 obtain ⟨al,cl,rfl,hlcap,hlr⟩:=H.ls
 obtain ⟨ab,cb,rfl,hbr⟩:=H.bs
 obtain ⟨ae,ce,rfl,her⟩:=H.es
 obtain ⟨ha,sa,sfa⟩:=H.wr.alloc (.cells #[.pointer (some ⟨x,0,none⟩)] 73)
 obtain ⟨hb,sb,sfb⟩:=ha.alloc (.cells #[.string (toBA s.kind),.string (toBA s.name),.slice ap s.p.length cp,.slice al s.l.length cl,.slice ab s.body.length cb,.slice ae s.els.length ce] 82)
 have hbp0:BoxP (w.alloc (.cells #[.pointer (some ⟨x,0,none⟩)] 73)) x w.heap.size:=⟨heap_alloc_new w _,sfa⟩
 have hbp:=hbp0.step sb
 have hbx:BoxS _ x (w.alloc (.cells #[.pointer (some ⟨x,0,none⟩)] 73)).heap.size s ap cp al cl ab cb ae ce:=⟨heap_alloc_new _ _,sfb⟩
 have hsab:=sa.trans sb
 have hR:=right_any hb s ap al ab ae cp cl cb ce hkl hnl (H.glob.below (WStp.below H.wr hsab))
 have hhp:(w.alloc (.cells #[.pointer (some ⟨x,0,none⟩)] 73)).heap.size=w.heap.size+1:=by simp
 rw [hhp] at hbx
 have k0:=hbx.c0
 have k1:=hbx.c1
 have k2:=hbx.c2
 have k3:=hbx.c3
 have k4:=hbx.c4
 have k5:=hbx.c5
 have kp:=hbp.c0
 rw [hr] at hR
 have Hbp:=Lib.hid hbp;have Hbx:=Lib.hid hbx;have Sab:=Lib.hid hsab;have HR:=Lib.hid hR;have Hr:=Lib.hid hr;have HH:=Lib.hid H;have Hpr:=Lib.hid hpr;have Hlr:=Lib.hid hlr
 clear ha sa sfa hb sb sfb hbp0 hbp hbx hsab hR hhp hr H hpr hlr hbr her
 go_enter Tryz.func33,Tryz.ntmps33
 go_wp2_with fail
 generalize (w.alloc (.cells #[.pointer (some ⟨x,0,none⟩)] 73)).alloc (.cells #[.string (toBA s.kind),.string (toBA s.name),.slice ap s.p.length cp,.slice al s.l.length cl,.slice ab s.body.length cb,.slice ae s.els.length ce] 82)=wA at HR Hbp Hbx Sab k0 k1 k2 k3 k4 k5 kp ⊢
 generalize hbpn:w.heap.size=bp at Hbp Hbx k0 k1 k2 k3 k4 k5 kp ⊢
 clear hbpn
 refine HR.out.mono ?_
 rintro _ w2 ⟨rfl,h2,s2⟩
 clear k0 k1 k2 k3 k4 k5 kp HR
 have hb2:=Hbx.out.step s2
 have hp2:=Hbp.out.step s2
 have k0:=hb2.c0
 have k1:=hb2.c1
 have k2:=hb2.c2
 have k3:=hb2.c3
 have k4:=hb2.c4
 have k5:=hb2.c5
 have kp:=hp2.c0
 have hx2:=Nx.right st s 0 0
 have B2:=Lib.hid hb2;have P2:=Lib.hid hp2;have S2:=Lib.hid (Sab.out.trans s2);have N2:=Lib.hid hx2;have H2:=Lib.hid h2
 have Bel2:=Lib.hid (WStp.below HH.out.wr S2.out)
 clear h2 s2 hb2 hp2 hx2 Hbx Hbp Sab
 have Hr2:Hid ((st.right s).ok=true):=Hr
 generalize hst2:st.right s=st2 at N2 H2 Hr2
 have KS:=Lib.hid hst2
 clear hst2
 have hns:(toBA s.name).size≤1100000:=by rw [toBA_len];exact hnl
 have hin2:=N2.out.inn
 have hln2:=N2.out.len
 have hii:=HH.out.inn
 have hll:=HH.out.len
 have Hwl:=Lib.hid (wline_any H2.out ((⟨#[114,101,116,117,114,110]⟩:ByteArray)) (by omega) (by ((repeat (first | rw [ByteArray.size_append] | rw [size_lit1] | rw [size_lit2] | rw [size_lit3] | rw [size_lit4] | rw [size_lit5] | rw [size_lit6] | rw [size_lit7] | rw [size_lit8]));(first | done | omega))) (by omega))
 go_wp2_with fail
 refine Hwl.out.mono ?_
 rintro _ w9 ⟨p9,v9,l9,rfl,h9,s9⟩
 have H9:=Lib.hid h9;have S9:=Lib.hid (S2.out.trans s9)
 clear h9 s9 Hwl
 go_wp2_with fail
 go_end0
 refine ⟨_,p9,v9,l9,rfl,N2.out.trans (nx_line (st:=st2) (4 * st2.inn+((⟨#[114,101,116,117,114,110]⟩:ByteArray)).size+1)) ?_ ?_,⟨fun _=>Hnm.out,?_⟩,H9.out,S9.out⟩
 · have:=Stm.nodes_eq s;omega
 · have:=Stm.bulk_eq s;((repeat (first | rw [ByteArray.size_append] | rw [size_lit1] | rw [size_lit2] | rw [size_lit3] | rw [size_lit4] | rw [size_lit5] | rw [size_lit6] | rw [size_lit7] | rw [size_lit8]));(first | done | omega))
 · have h9:=line_eq (st:=st2) (m:=((⟨#[114,101,116,117,114,110]⟩:ByteArray)).size) (n:=6) (by first | exact toBA_len _ | rfl)
   rw [h9,← KS.out]
   exact SW.return0 Hr.out KO.out KL.out
end Go.Proofs.YtdoaeapahgmfoaaGreatDoor
namespace Go.Proofs.YtdoaeapahgmfoaaGreatDoor
open Go.RowKit
set_option maxRecDepth 100000 in
set_option maxHeartbeats 20000000 in
theorem stmt_try {s:Stm} {deep:Nat} {w:World} {x:Nat} {st:WS} {p v:Value} {l:List UInt8} {vp vl vb ve:Value} {f:Nat} (hB:BlockC f) (hf:s.nodes≤f+1) (H:StmIn s deep w x st p v l vp vl vb ve) (hr:(st.right s).ok=true) (hk:s.kind=sTry):
 Calls Tryz.prog 33 #[.pointer (some ⟨x,0,none⟩),.agg #[.string (toBA s.kind),.string (toBA s.name),vp,vl,vb,ve],.int .i64 (deep:Int)] w (WrPost x w st (8 * s.nodes - 1) (20000000 * s.bulk) fun st'=>(st'.ok=true→s.named)∧SW s deep st st'):=by
 have hform:=form_parts (f:=⟨true,false,0,true,true⟩) (by rw [hk];rfl) (right_ok hr).1
 have u1:=op_is hk [101,120,112,114] (b:=false) rfl
 have u2:=op_is hk [115,101,116] (b:=false) rfl
 have u3:=op_is hk [112,117,116] (b:=false) rfl
 have u4:=op_is hk [100,101,108] (b:=false) rfl
 have u5:=op_is hk [105,102] (b:=false) rfl
 have u6:=op_is hk [119,104,105,108,101] (b:=false) rfl
 have u7:=op_is hk [102,111,114] (b:=false) rfl
 have u8:=op_is hk [100,101,102] (b:=false) rfl
 have u9:=op_is hk [116,114,121] (b:=true) rfl
 have hkz:(toBA s.kind).size≤8:=by rw [toBA_len,hk];decide
 have hkz2:s.kind.length≤8:=by rw [hk];decide
 have hnm:=fun h h'=>named_of hr h h'
 have Hels:=Lib.hid (sels_of hB H hf ((deep:Int)+1) rfl)
 have Hbody:=Lib.hid (sbody_of hB H hf ((deep:Int)+1) rfl)
 have hdd:=H.deepB
 have Hnm:=Lib.hid hnm;have Hps:=Lib.hid H.ps
 have hpb:strsBulk s.p≤1100000:=by have:=Stm.bulk_eq s;have:=H.bulk;omega
 have KO:=Lib.hid hk
 clear hk hform hnm
 have hkl:s.kind.length≤2000000:=by have:=Stm.bulk_eq s;have:=H.bulk;omega
 have hnl:s.name.length≤1100000:=by have:=Stm.bulk_eq s;have:=H.bulk;omega
 obtain ⟨ap,cp,rfl,hpcap,hpr⟩:=H.ps
 obtain ⟨al,cl,rfl,hlcap,hlr⟩:=H.ls
 obtain ⟨ab,cb,rfl,hbr⟩:=H.bs
 obtain ⟨ae,ce,rfl,her⟩:=H.es
 obtain ⟨ha,sa,sfa⟩:=H.wr.alloc (.cells #[.pointer (some ⟨x,0,none⟩)] 73)
 obtain ⟨hb,sb,sfb⟩:=ha.alloc (.cells #[.string (toBA s.kind),.string (toBA s.name),.slice ap s.p.length cp,.slice al s.l.length cl,.slice ab s.body.length cb,.slice ae s.els.length ce] 82)
 have hbp0:BoxP (w.alloc (.cells #[.pointer (some ⟨x,0,none⟩)] 73)) x w.heap.size:=⟨heap_alloc_new w _,sfa⟩
 have hbp:=hbp0.step sb
 have hbx:BoxS _ x (w.alloc (.cells #[.pointer (some ⟨x,0,none⟩)] 73)).heap.size s ap cp al cl ab cb ae ce:=⟨heap_alloc_new _ _,sfb⟩
 have hsab:=sa.trans sb
 have hR:=right_any hb s ap al ab ae cp cl cb ce hkl hnl (H.glob.below (WStp.below H.wr hsab))
 have hhp:(w.alloc (.cells #[.pointer (some ⟨x,0,none⟩)] 73)).heap.size=w.heap.size+1:=by simp
 rw [hhp] at hbx
 have k0:=hbx.c0
 have k1:=hbx.c1
 have k2:=hbx.c2
 have k3:=hbx.c3
 have k4:=hbx.c4
 have k5:=hbx.c5
 have kp:=hbp.c0
 rw [hr] at hR
 have Hbp:=Lib.hid hbp;have Hbx:=Lib.hid hbx;have Sab:=Lib.hid hsab;have HR:=Lib.hid hR;have Hr:=Lib.hid hr;have HH:=Lib.hid H;have Hpr:=Lib.hid hpr;have Hlr:=Lib.hid hlr
 clear ha sa sfa hb sb sfb hbp0 hbp hbx hsab hR hhp hr H hpr hlr hbr her
 go_enter Tryz.func33,Tryz.ntmps33
 go_wp2_with fail
 generalize (w.alloc (.cells #[.pointer (some ⟨x,0,none⟩)] 73)).alloc (.cells #[.string (toBA s.kind),.string (toBA s.name),.slice ap s.p.length cp,.slice al s.l.length cl,.slice ab s.body.length cb,.slice ae s.els.length ce] 82)=wA at HR Hbp Hbx Sab k0 k1 k2 k3 k4 k5 kp ⊢
 generalize hbpn:w.heap.size=bp at Hbp Hbx k0 k1 k2 k3 k4 k5 kp ⊢
 clear hbpn
 refine HR.out.mono ?_
 rintro _ w2 ⟨rfl,h2,s2⟩
 clear k0 k1 k2 k3 k4 k5 kp HR
 have hb2:=Hbx.out.step s2
 have hp2:=Hbp.out.step s2
 have k0:=hb2.c0
 have k1:=hb2.c1
 have k2:=hb2.c2
 have k3:=hb2.c3
 have k4:=hb2.c4
 have k5:=hb2.c5
 have kp:=hp2.c0
 have hx2:=Nx.right st s 0 0
 have B2:=Lib.hid hb2;have P2:=Lib.hid hp2;have S2:=Lib.hid (Sab.out.trans s2);have N2:=Lib.hid hx2;have H2:=Lib.hid h2
 have Bel2:=Lib.hid (WStp.below HH.out.wr S2.out)
 clear h2 s2 hb2 hp2 hx2 Hbx Hbp Sab
 have Hr2:Hid ((st.right s).ok=true):=Hr
 generalize hst2:st.right s=st2 at N2 H2 Hr2
 have KS:=Lib.hid hst2
 clear hst2
 have hns:(toBA s.name).size≤1100000:=by rw [toBA_len];exact hnl
 have hin2:=N2.out.inn
 have hln2:=N2.out.len
 have hii:=HH.out.inn
 have hll:=HH.out.len
 have Hwl:=Lib.hid (wline_any H2.out (⟨#[116,114,121,58]⟩:ByteArray) (by omega) (by ((repeat (first | rw [ByteArray.size_append] | rw [size_lit1] | rw [size_lit2] | rw [size_lit3] | rw [size_lit4] | rw [size_lit5] | rw [size_lit6] | rw [size_lit7] | rw [size_lit8]));(first | done | omega))) (by omega))
 go_wp2_with fail
 refine Hwl.out.mono ?_
 rintro _ w9 ⟨p9,v9,l9,rfl,h9,s9⟩
 have hs9:=S2.out.trans s9
 have hb9:=B2.out.step s9
 have hp9:=P2.out.step s9
 clear k0 k1 k2 k3 k4 k5 kp
 have k0:=hb9.c0
 have k1:=hb9.c1
 have k2:=hb9.c2
 have k3:=hb9.c3
 have k4:=hb9.c4
 have k5:=hb9.c5
 have kp:=hp9.c0
 have hm9:4 * st2.inn+(⟨#[116,114,121,58]⟩:ByteArray).size+1≤6100000:=by ((repeat (first | rw [ByteArray.size_append] | rw [size_lit1] | rw [size_lit2] | rw [size_lit3] | rw [size_lit4] | rw [size_lit5] | rw [size_lit6] | rw [size_lit7] | rw [size_lit8]));(first | done | omega))
 have hn9:=(N2.out.trans (nx_line (st:=st2) (4 * st2.inn+(⟨#[116,114,121,58]⟩:ByteArray).size+1)) (Nat.le_refl _) (Nat.le_refl _)).mono (Nat.le_refl _) (show 0+(4 * st2.inn+(⟨#[116,114,121,58]⟩:ByteArray).size+1)≤6100000 by omega)
 have hsl9:=line_eq (st:=st2) (m:=(⟨#[116,114,121,58]⟩:ByteArray).size) (n:=4) rfl
 generalize ({ st2 with len:=st2.len+(4 * st2.inn+(⟨#[116,114,121,58]⟩:ByteArray).size+1) }:WS)=st9 at h9 hn9 hsl9
 have KS9:=Lib.hid hsl9
 clear hsl9
 have S9:=Lib.hid hs9
 have hbd:=Hbody.out _ st9 p9 v9 l9 h9 (WStp.below HH.out.wr S9.out) (by have:=hn9.n;have:=HH.out.n;have:=Stm.nodes_eq s;omega) (by have:=hn9.inn;omega) (by have:=hn9.len;have:=HH.out.len;have:=Stm.bulk_eq s;omega)
 have Hbd:=Lib.hid hbd;have Hn9:=Lib.hid hn9;have B9:=Lib.hid hb9;have P9:=Lib.hid hp9
 clear hbd hn9 hm9 h9 s9 hs9 hb9 hp9 Hwl hin2 hln2
 go_wp2_with fail
 refine Hbd.out.mono ?_
 rintro _ w7 ⟨st7,p7,v7,l7,rfl,hn7,⟨hq7,hbw7⟩,h7,s7⟩
 have W7:=Lib.hid hbw7
 clear hbw7
 have hs7:=S9.out.trans s7
 have hb7:=B9.out.step s7
 have hp7:=P9.out.step s7
 have hN7:=Hn9.out.trans hn7 (Nat.le_refl _) (Nat.le_refl _)
 clear k0 k1 k2 k3 k4 k5 kp hn7
 have k0:=hb7.c0
 have k1:=hb7.c1
 have k2:=hb7.c2
 have k3:=hb7.c3
 have k4:=hb7.c4
 have k5:=hb7.c5
 have kp:=hp7.c0
 have Hn7:=Lib.hid hN7;have Hq7:=Lib.hid hq7;have S7:=Lib.hid hs7;have B7:=Lib.hid hb7;have P7:=Lib.hid hp7
 have Hwl:=Lib.hid (wline_any h7 (⟨#[101,120,99,101,112,116,32]⟩ ++ toBA s.name ++ ⟨#[58]⟩) (by have:=hN7.inn;omega) (by ((repeat (first | rw [ByteArray.size_append] | rw [size_lit1] | rw [size_lit2] | rw [size_lit3] | rw [size_lit4] | rw [size_lit5] | rw [size_lit6] | rw [size_lit7] | rw [size_lit8]));(first | done | omega))) (by have:=hN7.len;have:=Stm.bulk_eq s;omega))
 clear hN7 hq7 h7 s7 hs7 hb7 hp7 Hbd
 go_wp2_with fail
 refine Hwl.out.mono ?_
 rintro _ w6 ⟨p6,v6,l6,rfl,h6,s6⟩
 have hs6:=S7.out.trans s6
 have hb6:=B7.out.step s6
 have hp6:=P7.out.step s6
 clear k0 k1 k2 k3 k4 k5 kp
 have k0:=hb6.c0
 have k1:=hb6.c1
 have k2:=hb6.c2
 have k3:=hb6.c3
 have k4:=hb6.c4
 have k5:=hb6.c5
 have kp:=hp6.c0
 have hm6:4 * st7.inn+(⟨#[101,120,99,101,112,116,32]⟩ ++ toBA s.name ++ ⟨#[58]⟩).size+1≤7300000:=by
  have:=Hn7.out.inn
  ((repeat (first | rw [ByteArray.size_append] | rw [size_lit1] | rw [size_lit2] | rw [size_lit3] | rw [size_lit4] | rw [size_lit5] | rw [size_lit6] | rw [size_lit7] | rw [size_lit8]));(first | done | omega))
 have hn6:=(Hn7.out.trans (nx_line (st:=st7) (4 * st7.inn+(⟨#[101,120,99,101,112,116,32]⟩ ++ toBA s.name ++ ⟨#[58]⟩).size+1)) (Nat.le_refl _) (Nat.le_refl _)).mono (Nat.le_refl _) (show _+(4 * st7.inn+(⟨#[101,120,99,101,112,116,32]⟩ ++ toBA s.name ++ ⟨#[58]⟩).size+1)≤6100000+20000000 * stmsBulk s.body+7300000 by omega)
 have hok6:({ st7 with len:=st7.len+(4 * st7.inn+(⟨#[101,120,99,101,112,116,32]⟩ ++ toBA s.name ++ ⟨#[58]⟩).size+1) }:WS).ok=true→st7.ok=true:=id
 have hsl6:=line_eq (st:=st7) (m:=(⟨#[101,120,99,101,112,116,32]⟩ ++ toBA s.name ++ ⟨#[58]⟩).size) (n:=7+s.name.length+1) (by simp only [ByteArray.size_append,toBA_len];rfl)
 generalize ({ st7 with len:=st7.len+(4 * st7.inn+(⟨#[101,120,99,101,112,116,32]⟩ ++ toBA s.name ++ ⟨#[58]⟩).size+1) }:WS)=st6 at h6 hn6 hok6 hsl6
 have KS6:=Lib.hid hsl6
 clear hsl6
 have S6:=Lib.hid hs6
 have hbd:=Hels.out _ st6 p6 v6 l6 h6 (WStp.below HH.out.wr S6.out) (by have:=hn6.n;have:=HH.out.n;have:=Stm.nodes_eq s;omega) (by have:=hn6.inn;omega) (by have:=hn6.len;have:=HH.out.len;have:=Stm.bulk_eq s;omega)
 have Hbd:=Lib.hid hbd;have Hn6:=Lib.hid hn6;have Hok6:=Lib.hid hok6
 clear hbd hn6 hm6 h6 s6 hs6 hb6 hp6 hok6 Hwl
 go_wp2_with fail
 refine Hbd.out.mono ?_
 rintro _ w8 ⟨st8,p8,v8,l8,rfl,hn8,⟨hq8,hbw8⟩,h8,s8⟩
 have W8:=Lib.hid hbw8
 clear hbw8
 have Hn8:=Lib.hid hn8;have Hq8:=Lib.hid hq8;have H8:=Lib.hid h8;have S8:=Lib.hid (S6.out.trans s8)
 clear hn8 hq8 h8 s8 Hbd
 go_wp2_with fail
 go_end0
 refine ⟨st8,p8,v8,l8,rfl,Hn6.out.trans Hn8.out ?_ ?_,⟨fun h=>Hnm.out (Hq7.out (Hok6.out (Hn8.out.ok h))) (Hq8.out h),SW.try Hr.out KO.out (by rw [KS.out,← KS9.out];exact W7.out) (by rw [← KS6.out];exact W8.out)⟩,H8.out,S8.out⟩
 · have:=Stm.nodes_eq s;omega
 · have:=Stm.bulk_eq s;omega
set_option maxRecDepth 100000 in
set_option maxHeartbeats 20000000 in
theorem stmt_if {s:Stm} {deep:Nat} {w:World} {x:Nat} {st:WS} {p v:Value} {l:List UInt8} {vp vl vb ve:Value} {f:Nat} (hI:IfsC f) (hf:s.nodes≤f) (H:StmIn s deep w x st p v l vp vl vb ve) (hr:(st.right s).ok=true) (hk:s.kind=sIf):
 Calls Tryz.prog 33 #[.pointer (some ⟨x,0,none⟩),.agg #[.string (toBA s.kind),.string (toBA s.name),vp,vl,vb,ve],.int .i64 (deep:Int)] w (WrPost x w st (8 * s.nodes - 1) (20000000 * s.bulk) fun st'=>(st'.ok=true→s.named)∧SW s deep st st'):=by
 have hform:=form_parts (f:=⟨false,false,1,true,true⟩) (by rw [hk];rfl) (right_ok hr).1
 have u1:=op_is hk [101,120,112,114] (b:=false) rfl
 have u2:=op_is hk [115,101,116] (b:=false) rfl
 have u3:=op_is hk [112,117,116] (b:=false) rfl
 have u4:=op_is hk [100,101,108] (b:=false) rfl
 have u5:=op_is hk [105,102] (b:=true) rfl
 have hnm:=fun h h'=>named_of hr h h'
 have h1:s.l.length=1:=by have:=hform.2.2.2.2;dsimp only at this;omega
 have HL:=Lib.hid h1;clear h1
 have Hnm:=Lib.hid hnm;have Hps:=Lib.hid H.ps
 have hpb:strsBulk s.p≤1100000:=by have:=Stm.bulk_eq s;have:=H.bulk;omega
 have KO:=Lib.hid hk
 clear hk hform hnm
 have hkl:s.kind.length≤2000000:=by have:=Stm.bulk_eq s;have:=H.bulk;omega
 have hnl:s.name.length≤1100000:=by have:=Stm.bulk_eq s;have:=H.bulk;omega
 obtain ⟨ap,cp,rfl,hpcap,hpr⟩:=H.ps
 obtain ⟨al,cl,rfl,hlcap,hlr⟩:=H.ls
 obtain ⟨ab,cb,rfl,hbr⟩:=H.bs
 obtain ⟨ae,ce,rfl,her⟩:=H.es
 obtain ⟨ha,sa,sfa⟩:=H.wr.alloc (.cells #[.pointer (some ⟨x,0,none⟩)] 73)
 obtain ⟨hb,sb,sfb⟩:=ha.alloc (.cells #[.string (toBA s.kind),.string (toBA s.name),.slice ap s.p.length cp,.slice al s.l.length cl,.slice ab s.body.length cb,.slice ae s.els.length ce] 82)
 have hbp0:BoxP (w.alloc (.cells #[.pointer (some ⟨x,0,none⟩)] 73)) x w.heap.size:=⟨heap_alloc_new w _,sfa⟩
 have hbp:=hbp0.step sb
 have hbx:BoxS _ x (w.alloc (.cells #[.pointer (some ⟨x,0,none⟩)] 73)).heap.size s ap cp al cl ab cb ae ce:=⟨heap_alloc_new _ _,sfb⟩
 have hsab:=sa.trans sb
 have hR:=right_any hb s ap al ab ae cp cl cb ce hkl hnl (H.glob.below (WStp.below H.wr hsab))
 have hhp:(w.alloc (.cells #[.pointer (some ⟨x,0,none⟩)] 73)).heap.size=w.heap.size+1:=by simp
 rw [hhp] at hbx
 have k0:=hbx.c0
 have k1:=hbx.c1
 have k2:=hbx.c2
 have k3:=hbx.c3
 have k4:=hbx.c4
 have k5:=hbx.c5
 have kp:=hbp.c0
 rw [hr] at hR
 have Hbp:=Lib.hid hbp;have Hbx:=Lib.hid hbx;have Sab:=Lib.hid hsab;have HR:=Lib.hid hR;have Hr:=Lib.hid hr;have HH:=Lib.hid H;have Hpr:=Lib.hid hpr;have Hlr:=Lib.hid hlr
 clear ha sa sfa hb sb sfb hbp0 hbp hbx hsab hR hhp hr H hpr hlr hbr her
 go_enter Tryz.func33,Tryz.ntmps33
 go_wp2_with fail
 generalize (w.alloc (.cells #[.pointer (some ⟨x,0,none⟩)] 73)).alloc (.cells #[.string (toBA s.kind),.string (toBA s.name),.slice ap s.p.length cp,.slice al s.l.length cl,.slice ab s.body.length cb,.slice ae s.els.length ce] 82)=wA at HR Hbp Hbx Sab k0 k1 k2 k3 k4 k5 kp ⊢
 generalize hbpn:w.heap.size=bp at Hbp Hbx k0 k1 k2 k3 k4 k5 kp ⊢
 clear hbpn
 refine HR.out.mono ?_
 rintro _ w2 ⟨rfl,h2,s2⟩
 clear k0 k1 k2 k3 k4 k5 kp HR
 have hb2:=Hbx.out.step s2
 have hp2:=Hbp.out.step s2
 have k0:=hb2.c0
 have k1:=hb2.c1
 have k2:=hb2.c2
 have k3:=hb2.c3
 have k4:=hb2.c4
 have k5:=hb2.c5
 have kp:=hp2.c0
 have hx2:=Nx.right st s 0 0
 have B2:=Lib.hid hb2;have P2:=Lib.hid hp2;have S2:=Lib.hid (Sab.out.trans s2);have N2:=Lib.hid hx2;have H2:=Lib.hid h2
 have Bel2:=Lib.hid (WStp.below HH.out.wr S2.out)
 clear h2 s2 hb2 hp2 hx2 Hbx Hbp Sab
 have Hr2:Hid ((st.right s).ok=true):=Hr
 generalize hst2:st.right s=st2 at N2 H2 Hr2
 have KS:=Lib.hid hst2
 clear hst2
 have hns:(toBA s.name).size≤1100000:=by rw [toBA_len];exact hnl
 have hsm:StmIn s deep w2 x st2 p v l (.slice ap s.p.length cp) (.slice al s.l.length cl) (.slice ab s.body.length cb) (.slice ae s.els.length ce):=
  ⟨HH.out.fit,HH.out.bulk,HH.out.wt,HH.out.deepB,by have:=HH.out.n;have:=N2.out.n;omega,by have:=HH.out.inn;have:=N2.out.inn;omega,by have:=HH.out.len;have:=N2.out.len;omega,H2.out,HH.out.glob.below Bel2.out,HH.out.ps.below Bel2.out,HH.out.ls.below Bel2.out,HH.out.bs.below Bel2.out,HH.out.es.below Bel2.out⟩
 have Hif:=Lib.hid (hI s ⟨#[105,102]⟩ deep w2 x st2 p v l _ _ _ _ hf HL.out (by decide) hsm)
 clear hsm
 go_wp2_with fail
 refine Hif.out.mono ?_
 rintro _ w9 ⟨st9,p9,v9,l9,rfl,hn9,⟨hq9,hiw9⟩,h9,s9⟩
 have W9:=Lib.hid hiw9
 clear hiw9
 have H9:=Lib.hid h9;have S9:=Lib.hid (S2.out.trans s9);have N9:=Lib.hid (N2.out.trans hn9 (Nat.le_refl _) (Nat.le_refl _));have Q9:=Lib.hid hq9
 clear h9 s9 hn9 hq9 Hif
 go_wp2_with fail
 go_end0
 exact ⟨st9,p9,v9,l9,rfl,N9.out.mono (by omega) (by omega),⟨fun h=>Hnm.out (Q9.out h).1 (Q9.out h).2,SW.ifs Hr.out KO.out (by rw [KS.out];exact W9.out)⟩,H9.out,S9.out⟩
end Go.Proofs.YtdoaeapahgmfoaaGreatDoor
