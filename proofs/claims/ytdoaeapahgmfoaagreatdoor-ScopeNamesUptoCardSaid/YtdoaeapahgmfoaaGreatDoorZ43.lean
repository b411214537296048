/- The writer's statement: a place in a container. The writer's statement: put, del. The writer's statement, whole. -/
import Derived.Test.YtdoaeapahgmfoaaGreatDoorZ42
namespace Go.Proofs.YtdoaeapahgmfoaaGreatDoor
open Go.RowKit
set_option maxRecDepth 100000 in
set_option maxHeartbeats 20000000 in
theorem at_any {s:Stm} {deep:Nat} {w w2:World} {x bp:Nat} {st st2:WS} {p v p2 v2:Value} {l l2:List UInt8} {ap ab ae:Option Addr} {cp cl cb ce b o:Nat} (H:StmIn s deep w x st p v l (.slice ap s.p.length cp) (.slice (some ⟨b,o,none⟩) s.l.length cl) (.slice ab s.body.length cb) (.slice ae s.els.length ce))
 (hbx0:Lo x b) (hrow:ExRow w (Lo x) s.l b o) (h0:0 < s.l.length) (h1:1 < s.l.length) (hw:WrC w2 x st2 p2 v2 l2) (hbel:Below x w w2) (hbp:BoxP w2 x bp) (hbx:BoxS w2 x (bp+1) s ap cp (some ⟨b,o,none⟩) cl ab cb ae ce) (hn:st2.n+3 * s.l[0].nodes+3 * s.l[1].nodes≤48000000):
 Calls Tryz.prog 65 #[.pointer (some ⟨bp,0,none⟩),.pointer (some ⟨bp+1,0,none⟩)] w2 (TextPost x w2 st2 p2 v2 l2 (64 * s.l[0].bulk+64 * s.l[1].bulk) (3 * s.l[0].nodes+3 * s.l[1].nodes+4) fun n st'=>∃ n1 n2 st1,n=n1+1+n2+1∧TW s.l[0] 8 0 st2 n1 st1∧TW s.l[1] 0 1 (st1.deeper 0) n2 st'):=by
 obtain ⟨c,ap1,cp1,al1,cl1,hc,hcell,hcall⟩:=schild_of H hbx0 hrow 0 h0 8 8 rfl 0 0 rfl (by omega) (by omega)
 obtain ⟨c',ap2,cp2,al2,cl2,hc',hcell',hcall'⟩:=schild_of H hbx0 hrow 1 h1 0 0 rfl 1 1 rfl (by omega) (by omega)
 have hb0:s.l[0].bulk≤exsBulk s.l:=(exs_mem (List.getElem_mem h0)).1
 have hb1:s.l[1].bulk≤exsBulk s.l:=(exs_mem (List.getElem_mem h1)).1
 rw [← hc] at hn hb0 ⊢
 rw [← hc'] at hn hb1 ⊢
 have hk1:=termK_le c 8
 have hk2:=termK_le c' 0
 have hcb:c.bulk≤1100000:=by have:=Stm.bulk_eq s;have:=H.bulk;omega
 have hcb':c'.bulk≤1100000:=by have:=Stm.bulk_eq s;have:=H.bulk;omega
 have k3:=hbx.c3
 have kp:=hbp.c0
 obtain ⟨q0,q1,q2,q3,q4⟩:=hcell _ hbel
 simp only [Nat.zero_mul,Nat.add_zero] at q0 q1 q2 q3 q4
 have hn1:st2.n+termK c 8≤49000000:=by omega
 have hs0:=WStp.refl x w2
 have h1i:(1:Int) < (s.l.length:Int):=by omega
 have Hn1:=Lib.hid hn1;have Hcell0:=Lib.hid hcell;have Hcell:=Lib.hid hcell';have S0:=Lib.hid (hs0.drew);have Hcall:=Lib.hid hcall;have Hcall':=Lib.hid hcall';have Hp:=Lib.hid hbp.drew;have Hx:=Lib.hid hbx.drew;have Hw:=Lib.hid hw.drew;have HH:=Lib.hid H;have Hbel:=Lib.hid (hbel.trans (Below.refl x w2).drew)
 clear hcell hcell' hcall hcall' hbp hbx hw H hbel hrow hc hc' hn1 hs0
 go_enter Tryz.func65,Tryz.ntmps65
 go_upto_region 1 with fail
 go_region_held3 (fun w'=>w'.cell? ⟨bp,0,none⟩=some (.pointer (some ⟨x,0,none⟩))∧w'.cell? ⟨bp+1,3,none⟩=some (.slice (some ⟨b,o,none⟩) s.l.length cl)∧w'.cell? ⟨b,o,none⟩=some (.string (toBA c.op))∧w'.cell? ⟨b,o+1,none⟩=some (.int .i64 c.n)∧w'.cell? ⟨b,o+2,none⟩=some (.string (toBA c.s))∧w'.cell? ⟨b,o+3,none⟩=some (.slice ap1 c.p.length cp1)∧w'.cell? ⟨b,o+4,none⟩=some (.slice al1 c.l.length cl1)) (go_keep)
  ((go_at_call 66;(with_reducible refine (Hcall.out _ _ _ _ _ Hw.out Hbel.out Hn1.out).mono ?_);rintro _ w5 ⟨r5,st5,rfl,hr,hn5,h5,s5,htw⟩;have T5:=Lib.hid htw;clear htw;have hrb5:r5.size≤71000000:=(by omega);have hbel5:=Hbel.out.trans (WStp.below Hw.out s5);have S5:=Lib.hid (S0.out.trans s5);have P5:=Lib.hid (Hp.out.step s5);have B5:=Lib.hid (Hx.out.step s5);have kp:=P5.out.c0;have k3:=B5.out.c3;obtain ⟨q0,q1,q2,q3,q4⟩:=Hcell0.out _ hbel5;simp only [Nat.zero_mul,Nat.add_zero] at q0 q1 q2 q3 q4;have Hr5:=Lib.hid hr;have Hn5:=Lib.hid hn5;have H5:=Lib.hid h5;have Bel5:=Lib.hid hbel5;clear hr hn5 h5 s5 hbel5))
 clear q0 q1 q2 q3 q4
 obtain ⟨q0,q1,q2,q3,q4⟩:=Hcell.out _ Bel5.out
 simp only [Nat.one_mul,Nat.add_assoc,Nat.reduceAdd] at q0 q1 q2 q3 q4
 have H5d:=Lib.hid H5.out.drew;have S5d:=Lib.hid S5.out.drew;have P5d:=Lib.hid P5.out.drew;have B5d:=Lib.hid B5.out.drew
 have Bel5d:=Lib.hid (Bel5.out.trans (Below.refl x w5).drew)
 have hdp:Calls Tryz.prog 67 #[.pointer (some ⟨x,0,none⟩),.int .i64 0] w5.drew fun e w'=>e= .returned (.int .i64 1)∧WrC w' x (st5.deeper 0) p2 v2 l2∧WStp x w5.drew w':=deeper_any H5d.out 0 (by omega)
 have hn7:(st5.deeper 0).n+termK c' 0≤49000000:=by
  show st5.n+_≤_
  have:=Hn5.out.n
  omega
 have Hdp:=Lib.hid hdp;have Hn7:=Lib.hid hn7
 clear hdp hn7
 go_upto_region 2 with fail
 have f1:∀ w,(Op.stringOp .add r5 ⟨#[91]⟩).run Tryz.prog w= .ok (.string (r5 ++ ⟨#[91]⟩)) w:=fun w=>run_string_add_sum w _ _ (by ((repeat (first | rw [ByteArray.size_append] | rw [size_lit1] | rw [size_lit2] | rw [size_lit3] | rw [size_lit4] | rw [size_lit5] | rw [size_lit6] | rw [size_lit7] | rw [size_lit8]));(first | done | omega)))
 have F2:=Lib.hid (show ∀ r:ByteArray,r.size≤71000000→∀ w,(Op.stringOp .add (r5 ++ ⟨#[91]⟩) r).run Tryz.prog w= .ok (.string (r5 ++ ⟨#[91]⟩ ++ r)) w from fun r hr w=>run_string_add_sum w _ _ (by ((repeat (first | rw [ByteArray.size_append] | rw [size_lit1] | rw [size_lit2] | rw [size_lit3] | rw [size_lit4] | rw [size_lit5] | rw [size_lit6] | rw [size_lit7] | rw [size_lit8]));(first | done | omega))))
 have F3:=Lib.hid (show ∀ r:ByteArray,r.size≤71000000→∀ w,(Op.stringOp .add (r5 ++ ⟨#[91]⟩ ++ r) ⟨#[93]⟩).run Tryz.prog w= .ok (.string (r5 ++ ⟨#[91]⟩ ++ r ++ ⟨#[93]⟩)) w from fun r hr w=>run_string_add_sum w _ _ (by ((repeat (first | rw [ByteArray.size_append] | rw [size_lit1] | rw [size_lit2] | rw [size_lit3] | rw [size_lit4] | rw [size_lit5] | rw [size_lit6] | rw [size_lit7] | rw [size_lit8]));(first | done | omega))))
 go_region_held3 (fun w'=>w'.cell? ⟨bp,0,none⟩=some (.pointer (some ⟨x,0,none⟩))∧w'.cell? ⟨bp+1,3,none⟩=some (.slice (some ⟨b,o,none⟩) s.l.length cl)∧w'.cell? ⟨b,o+5,none⟩=some (.string (toBA c'.op))∧w'.cell? ⟨b,o+6,none⟩=some (.int .i64 c'.n)∧w'.cell? ⟨b,o+7,none⟩=some (.string (toBA c'.s))∧w'.cell? ⟨b,o+8,none⟩=some (.slice ap2 c'.p.length cp2)∧w'.cell? ⟨b,o+9,none⟩=some (.slice al2 c'.l.length cl2)) (go_keep)
  ((first
    | (go_at_call 67;(with_reducible refine Hdp.out.mono ?_);rintro _ w7 ⟨rfl,h7,s7⟩;have hbel7:=Bel5d.out.trans (WStp.below H5d.out s7);have S7:=Lib.hid (S5d.out.trans s7);have P7:=Lib.hid (P5d.out.step s7);have B7:=Lib.hid (B5d.out.step s7);have kp:=P7.out.c0;have k3:=B7.out.c3;obtain ⟨q0,q1,q2,q3,q4⟩:=Hcell.out _ hbel7;simp only [Nat.one_mul,Nat.add_assoc,Nat.reduceAdd] at q0 q1 q2 q3 q4;have H7:=Lib.hid h7;have Bel7:=Lib.hid hbel7;clear h7 s7 hbel7)
    | (go_at_call 66;(with_reducible refine (Hcall'.out _ _ _ _ _ H7.out Bel7.out Hn7.out).mono ?_);rintro _ w8 ⟨r8,st8,rfl,hr,hn8,h8,s8,htw⟩;have T8:=Lib.hid htw;clear htw;have hrb8:r8.size≤71000000:=(by omega);have hbel8:=Bel7.out.trans (WStp.below H7.out s8);have S8:=Lib.hid (S7.out.trans s8);have P8:=Lib.hid (P7.out.step s8);have B8:=Lib.hid (B7.out.step s8);have kp:=P8.out.c0;have k3:=B8.out.c3;obtain ⟨q0,q1,q2,q3,q4⟩:=Hcell.out _ hbel8;simp only [Nat.one_mul,Nat.add_assoc,Nat.reduceAdd] at q0 q1 q2 q3 q4;have f2:=F2.out r8 hrb8;have f3:=F3.out r8 hrb8;have Hr8:=Lib.hid hr;have Hn8:=Lib.hid hn8;have H8:=Lib.hid h8;clear hr hn8 h8 s8 hbel8)))
 all_goals
  go_wp2_with fail
  refine bodyPost_ret (results_tmp rfl _ _ _) rfl ?_
  refine ⟨_,st8,rfl,?_,(Hn5.out.trans (Nx.deeper st5 0 0 0) (Nat.le_refl _) (Nat.le_refl _)).trans Hn8.out ?_ (Nat.le_refl _),H8.out,S8.out,r5.size,r8.size,st5,?_,T5.out,T8.out⟩
  · have:=Hr5.out;have:=Hr8.out;have:=Ex.bulk_pos c;have:=Ex.bulk_pos c'
    ((repeat (first | rw [ByteArray.size_append] | rw [size_lit1] | rw [size_lit2] | rw [size_lit3] | rw [size_lit4] | rw [size_lit5] | rw [size_lit6] | rw [size_lit7] | rw [size_lit8]));(first | done | omega))
  · omega
  · simp only [ByteArray.size_append];rfl
end Go.Proofs.YtdoaeapahgmfoaaGreatDoor
namespace Go.Proofs.YtdoaeapahgmfoaaGreatDoor
open Go.RowKit
theorem three_bulk {l:List Ex} (h:l.length=3) (hi:0 < l.length) (hj:1 < l.length) (hk:2 < l.length):exsBulk l=l[0].bulk+l[1].bulk+l[2].bulk∧exsNodes l=l[0].nodes+l[1].nodes+l[2].nodes:=by
 match l,h with
 | [a,b,c],_=>simp [exsBulk,exsNodes];omega
theorem list_three {l:List Ex} {c:Ex} (h:l.length=3) (hi:0 < l.length) (hj:1 < l.length) {hk:2 < l.length} (hc:c=l[2]):l= [l[0],l[1],c]:=by
 match l,h with
 | [a,b,d],_=>rw [hc];rfl
set_option maxRecDepth 100000 in
set_option maxHeartbeats 20000000 in
theorem stmt_del {s:Stm} {deep:Nat} {w:World} {x:Nat} {st:WS} {p v:Value} {l:List UInt8} {vp vl vb ve:Value} (H:StmIn s deep w x st p v l vp vl vb ve) (hr:(st.right s).ok=true) (hk:s.kind=sDel):
 Calls Tryz.prog 33 #[.pointer (some ⟨x,0,none⟩),.agg #[.string (toBA s.kind),.string (toBA s.name),vp,vl,vb,ve],.int .i64 (deep:Int)] w (WrPost x w st (8 * s.nodes - 1) (20000000 * s.bulk) fun st'=>(st'.ok=true→s.named)∧SW s deep st st'):=by
 have hform:=form_parts (f:=⟨false,false,2,false,false⟩) (by rw [hk];rfl) (right_ok hr).1
 have u1:=op_is hk [101,120,112,114] (b:=false) rfl
 have u2:=op_is hk [115,101,116] (b:=false) rfl
 have u3:=op_is hk [112,117,116] (b:=false) rfl
 have u4:=op_is hk [100,101,108] (b:=true) rfl
 have h1:s.l.length=2:=by have:=hform.2.2.2.2;dsimp only at this;omega
 have hl0:0 < s.l.length:=by omega
 have hl1:1 < s.l.length:=by omega
 have hl1i:(1:Int) < (s.l.length:Int):=by omega
 have hb:=two_bulk h1 hl0 hl1
 have hnm:=named_of hr (nil_named (hform.2.2.1 rfl)) (nil_named (hform.2.2.2.1 rfl))
 have Hnm:=Lib.hid hnm;have HL:=Lib.hid h1;have Hb:=Lib.hid hb;have KO:=Lib.hid hk
 clear hk hform hnm h1 hb
 have hkl:s.kind.length≤2000000:=by have:=Stm.bulk_eq s;have:=H.bulk;omega
 have hnl:s.name.length≤1100000:=by have:=Stm.bulk_eq s;have:=H.bulk;omega
 obtain ⟨ap,cp,rfl,hpcap,hpr⟩:=H.ps
 obtain ⟨al,cl,rfl,hlcap,hlr⟩:=H.ls
 obtain ⟨ab,cb,rfl,hbr⟩:=H.bs
 obtain ⟨ae,ce,rfl,her⟩:=H.es
 obtain ⟨ha,sa,sfa⟩:=H.wr.alloc (.cells #[.pointer (some ⟨x,0,none⟩)] 73)
 obtain ⟨hb,sb,sfb⟩:=ha.alloc (.cells #[.string (toBA s.kind),.string (toBA s.name),.slice ap s.p.length cp,.slice al s.l.length cl,.slice ab s.body.length cb,.slice ae s.els.length ce] 82)
 have hbp0:BoxP (w.alloc (.cells #[.pointer (some ⟨x,0,none⟩)] 73)) x w.heap.size:=⟨heap_alloc_new w _,sfa⟩
 have hbp:=hbp0.step sb
 have hbx:BoxS _ x (w.alloc (.cells #[.pointer (some ⟨x,0,none⟩)] 73)).heap.size s ap cp al cl ab cb ae ce:=⟨heap_alloc_new _ _,sfb⟩
 have hsab:=sa.trans sb
 have hR:=right_any hb s ap al ab ae cp cl cb ce hkl hnl (H.glob.below (WStp.below H.wr hsab))
 have hhp:(w.alloc (.cells #[.pointer (some ⟨x,0,none⟩)] 73)).heap.size=w.heap.size+1:=by simp
 rw [hhp] at hbx
 have k0:=hbx.c0
 have k1:=hbx.c1
 have k2:=hbx.c2
 have k3:=hbx.c3
 have k4:=hbx.c4
 have k5:=hbx.c5
 have kp:=hbp.c0
 rw [hr] at hR
 have Hbp:=Lib.hid hbp;have Hbx:=Lib.hid hbx;have Sab:=Lib.hid hsab;have HR:=Lib.hid hR;have Hr:=Lib.hid hr;have HH:=Lib.hid H;have Hpr:=Lib.hid hpr;have Hlr:=Lib.hid hlr
 clear ha sa sfa hb sb sfb hbp0 hbp hbx hsab hR hhp hr H hpr hlr hbr her hkl
 go_enter Tryz.func33,Tryz.ntmps33
 go_wp2_with fail
 generalize (w.alloc (.cells #[.pointer (some ⟨x,0,none⟩)] 73)).alloc (.cells #[.string (toBA s.kind),.string (toBA s.name),.slice ap s.p.length cp,.slice al s.l.length cl,.slice ab s.body.length cb,.slice ae s.els.length ce] 82)=wA at HR Hbp Hbx Sab k0 k1 k2 k3 k4 k5 kp ⊢
 generalize hbpn:w.heap.size=bp at Hbp Hbx k0 k1 k2 k3 k4 k5 kp ⊢
 clear hbpn
 refine HR.out.mono ?_
 rintro _ w2 ⟨rfl,h2,s2⟩
 clear k0 k1 k2 k3 k4 k5 kp HR
 have hb2:=Hbx.out.step s2
 have hp2:=Hbp.out.step s2
 have k0:=hb2.c0
 have k1:=hb2.c1
 have k2:=hb2.c2
 have k3:=hb2.c3
 have k4:=hb2.c4
 have k5:=hb2.c5
 have kp:=hp2.c0
 have hx2:=Nx.right st s 0 0
 have B2:=Lib.hid hb2;have P2:=Lib.hid hp2;have S2:=Lib.hid (Sab.out.trans s2);have N2:=Lib.hid hx2;have H2:=Lib.hid h2
 have Bel2:=Lib.hid (WStp.below HH.out.wr S2.out)
 clear h2 s2 hb2 hp2 hx2 Hbx Hbp Sab
 have Hr2:Hid ((st.right s).ok=true):=Hr
 generalize hst2:st.right s=st2 at N2 H2 Hr2
 have KS:=Lib.hid hst2
 clear hst2
 obtain ⟨b,o,rfl,hbx0,hrow⟩:=Hlr.out hl0
 have hn2:st2.n+3 * s.l[0].nodes+3 * s.l[1].nodes≤48000000:=by have:=N2.out.n;have:=HH.out.n;have:=Stm.nodes_eq s;have:=Hb.out;omega
 have H2d:=Lib.hid H2.out.drew;have S2d:=Lib.hid S2.out.drew;have B2d:=Lib.hid B2.out.drew;have P2d:=Lib.hid P2.out.drew
 have Hat:=Lib.hid (at_any HH.out hbx0 hrow hl0 hl1 H2d.out (WStp.below HH.out.wr S2d.out) P2d.out B2d.out hn2)
 have hbb:s.l[0].bulk+s.l[1].bulk≤1100000:=by have:=Stm.bulk_eq s;have:=HH.out.bulk;have:=Hb.out;omega
 clear hn2 hrow
 go_upto_region 13 with fail
 have F2:=Lib.hid (show ∀ r:ByteArray,r.size≤71000000→∀ w,(Op.stringOp .add (⟨#[100,101,108,32]⟩) r).run Tryz.prog w= .ok (.string (⟨#[100,101,108,32]⟩ ++ r)) w from fun r hr w=>run_string_add_sum w _ _ (by ((repeat (first | rw [ByteArray.size_append] | rw [size_lit1] | rw [size_lit2] | rw [size_lit3] | rw [size_lit4] | rw [size_lit5] | rw [size_lit6] | rw [size_lit7] | rw [size_lit8]));(first | done | omega))))
 go_region_held3 (fun w'=>w'.cell? ⟨bp,0,none⟩=some (.pointer (some ⟨x,0,none⟩))) (go_keep)
  ((first
    | (go_at_call 65;refine Hat.out.mono ?_;rintro _ w8 ⟨r8,st8,rfl,hr,hn,h,s8,htw⟩;have T8:=Lib.hid htw;clear htw;have hrb8:r8.size≤71000000:=(by omega);have Hr8:=Lib.hid hr;have Hn8:=Lib.hid (N2.out.trans hn (Nat.le_refl _) (Nat.le_refl _));have H8:=Lib.hid h;have S8:=Lib.hid (S2d.out.trans s8);have P8:=Lib.hid (P2d.out.step s8);have f2:=F2.out r8 hrb8;have kp:=P8.out.c0;clear hr hn h s8)
    | (go_at_call 68;(with_reducible refine (wline_any H8.out (⟨#[100,101,108,32]⟩ ++ r8) (by have:=Hn8.out.inn;have:=HH.out.inn;omega) (by ((repeat (first | rw [ByteArray.size_append] | rw [size_lit1] | rw [size_lit2] | rw [size_lit3] | rw [size_lit4] | rw [size_lit5] | rw [size_lit6] | rw [size_lit7] | rw [size_lit8]));(first | done | omega))) (by have:=Hn8.out.len;have:=HH.out.len;omega)).mono ?_);rintro _ w9 ⟨p9,v9,l9,rfl,h9,s9⟩;have H9:=Lib.hid h9;have S9:=Lib.hid (S8.out.trans s9);have P9:=Lib.hid (P8.out.step s9);have kp:=P9.out.c0;clear h9 s9)))
 all_goals
  go_wp2_with fail
  go_end0
  refine ⟨_,p9,v9,l9,rfl,Hn8.out.trans (nx_line (st:=st8) (4 * st8.inn+(⟨#[100,101,108,32]⟩ ++ r8:ByteArray).size+1)) ?_ ?_,⟨fun _=>Hnm.out,?_⟩,H9.out,S9.out⟩
  · have:=Stm.nodes_eq s;have:=Hb.out;omega
  · have:=Stm.bulk_eq s;have:=Hb.out;have:=Hn8.out.inn;have:=HH.out.inn;have:=Hr8.out;((repeat (first | rw [ByteArray.size_append] | rw [size_lit1] | rw [size_lit2] | rw [size_lit3] | rw [size_lit4] | rw [size_lit5] | rw [size_lit6] | rw [size_lit7] | rw [size_lit8]));(first | done | omega))
  · obtain ⟨n1,n2,st1,hns,t1,t2⟩:=T8.out
    have h9:=line_eq (st:=st8) (m:=(⟨#[100,101,108,32]⟩ ++ r8:ByteArray).size) (n:=4+(n1+1+n2+1)) (by simp only [ByteArray.size_append,hns];rfl)
    rw [h9]
    exact SW.del Hr.out KO.out (list_two HL.out (hi:=hl0) (hj:=hl1) rfl rfl) (by rw [KS.out];exact t1) t2
set_option maxRecDepth 100000 in
set_option maxHeartbeats 20000000 in
theorem stmt_put {s:Stm} {deep:Nat} {w:World} {x:Nat} {st:WS} {p v:Value} {l:List UInt8} {vp vl vb ve:Value} (H:StmIn s deep w x st p v l vp vl vb ve) (hr:(st.right s).ok=true) (hk:s.kind=sPut):
 Calls Tryz.prog 33 #[.pointer (some ⟨x,0,none⟩),.agg #[.string (toBA s.kind),.string (toBA s.name),vp,vl,vb,ve],.int .i64 (deep:Int)] w (WrPost x w st (8 * s.nodes - 1) (20000000 * s.bulk) fun st'=>(st'.ok=true→s.named)∧SW s deep st st'):=by
 have hform:=form_parts (f:=⟨false,false,3,false,false⟩) (by rw [hk];rfl) (right_ok hr).1
 have u1:=op_is hk [101,120,112,114] (b:=false) rfl
 have u2:=op_is hk [115,101,116] (b:=false) rfl
 have u3:=op_is hk [112,117,116] (b:=true) rfl
 have h1:s.l.length=3:=by have:=hform.2.2.2.2;dsimp only at this;omega
 have hl0:0 < s.l.length:=by omega
 have hl1:1 < s.l.length:=by omega
 have hl1i:(1:Int) < (s.l.length:Int):=by omega
 have hl2:2 < s.l.length:=by omega
 have hl2i:(2:Int) < (s.l.length:Int):=by omega
 have hb:=three_bulk h1 hl0 hl1 hl2
 have hnm:=named_of hr (nil_named (hform.2.2.1 rfl)) (nil_named (hform.2.2.2.1 rfl))
 have Hnm:=Lib.hid hnm;have HL:=Lib.hid h1;have Hb:=Lib.hid hb;have KO:=Lib.hid hk
 clear hk hform hnm h1 hb
 have hkl:s.kind.length≤2000000:=by have:=Stm.bulk_eq s;have:=H.bulk;omega
 have hnl:s.name.length≤1100000:=by have:=Stm.bulk_eq s;have:=H.bulk;omega
 obtain ⟨ap,cp,rfl,hpcap,hpr⟩:=H.ps
 obtain ⟨al,cl,rfl,hlcap,hlr⟩:=H.ls
 obtain ⟨ab,cb,rfl,hbr⟩:=H.bs
 obtain ⟨ae,ce,rfl,her⟩:=H.es
 obtain ⟨ha,sa,sfa⟩:=H.wr.alloc (.cells #[.pointer (some ⟨x,0,none⟩)] 73)
 obtain ⟨hb,sb,sfb⟩:=ha.alloc (.cells #[.string (toBA s.kind),.string (toBA s.name),.slice ap s.p.length cp,.slice al s.l.length cl,.slice ab s.body.length cb,.slice ae s.els.length ce] 82)
 have hbp0:BoxP (w.alloc (.cells #[.pointer (some ⟨x,0,none⟩)] 73)) x w.heap.size:=⟨heap_alloc_new w _,sfa⟩
 have hbp:=hbp0.step sb
 have hbx:BoxS _ x (w.alloc (.cells #[.pointer (some ⟨x,0,none⟩)] 73)).heap.size s ap cp al cl ab cb ae ce:=⟨heap_alloc_new _ _,sfb⟩
 have hsab:=sa.trans sb
 have hR:=right_any hb s ap al ab ae cp cl cb ce hkl hnl (H.glob.below (WStp.below H.wr hsab))
 have hhp:(w.alloc (.cells #[.pointer (some ⟨x,0,none⟩)] 73)).heap.size=w.heap.size+1:=by simp
 rw [hhp] at hbx
 have k0:=hbx.c0
 have k1:=hbx.c1
 have k2:=hbx.c2
 have k3:=hbx.c3
 have k4:=hbx.c4
 have k5:=hbx.c5
 have kp:=hbp.c0
 rw [hr] at hR
 have Hbp:=Lib.hid hbp;have Hbx:=Lib.hid hbx;have Sab:=Lib.hid hsab;have HR:=Lib.hid hR;have Hr:=Lib.hid hr;have HH:=Lib.hid H;have Hpr:=Lib.hid hpr;have Hlr:=Lib.hid hlr
 clear ha sa sfa hb sb sfb hbp0 hbp hbx hsab hR hhp hr H hpr hlr hbr her hkl
 go_enter Tryz.func33,Tryz.ntmps33
 go_wp2_with fail
 generalize (w.alloc (.cells #[.pointer (some ⟨x,0,none⟩)] 73)).alloc (.cells #[.string (toBA s.kind),.string (toBA s.name),.slice ap s.p.length cp,.slice al s.l.length cl,.slice ab s.body.length cb,.slice ae s.els.length ce] 82)=wA at HR Hbp Hbx Sab k0 k1 k2 k3 k4 k5 kp ⊢
 generalize hbpn:w.heap.size=bp at Hbp Hbx k0 k1 k2 k3 k4 k5 kp ⊢
 clear hbpn
 refine HR.out.mono ?_
 rintro _ w2 ⟨rfl,h2,s2⟩
 clear k0 k1 k2 k3 k4 k5 kp HR
 have hb2:=Hbx.out.step s2
 have hp2:=Hbp.out.step s2
 have k0:=hb2.c0
 have k1:=hb2.c1
 have k2:=hb2.c2
 have k3:=hb2.c3
 have k4:=hb2.c4
 have k5:=hb2.c5
 have kp:=hp2.c0
 have hx2:=Nx.right st s 0 0
 have B2:=Lib.hid hb2;have P2:=Lib.hid hp2;have S2:=Lib.hid (Sab.out.trans s2);have N2:=Lib.hid hx2;have H2:=Lib.hid h2
 have Bel2:=Lib.hid (WStp.below HH.out.wr S2.out)
 clear h2 s2 hb2 hp2 hx2 Hbx Hbp Sab
 have Hr2:Hid ((st.right s).ok=true):=Hr
 generalize hst2:st.right s=st2 at N2 H2 Hr2
 have KS:=Lib.hid hst2
 clear hst2
 obtain ⟨b,o,rfl,hbx0,hrow⟩:=Hlr.out hl0
 obtain ⟨c,ap1,cp1,al1,cl1,hc,hcell,hcall⟩:=schild_of HH.out hbx0 hrow 2 hl2 0 0 rfl 0 0 rfl (by omega) (by omega)
 have KL:=Lib.hid (list_three HL.out hl0 hl1 hc)
 have hb:=Hb.out
 rw [← hc] at hb
 have hkc:termK c 0=3 * c.nodes:=by unfold termK;rw [if_pos rfl];omega
 have hcb:c.bulk≤1100000:=by have:=Stm.bulk_eq s;have:=HH.out.bulk;omega
 have hn2:st2.n+3 * s.l[0].nodes+3 * s.l[1].nodes≤48000000:=by have:=N2.out.n;have:=HH.out.n;have:=Stm.nodes_eq s;omega
 have Hat:=Lib.hid (at_any HH.out hbx0 hrow hl0 hl1 H2.out Bel2.out P2.out B2.out hn2)
 have hbb:s.l[0].bulk+s.l[1].bulk≤1100000:=by have:=Stm.bulk_eq s;have:=HH.out.bulk;omega
 have Hcell:=Lib.hid hcell;have Hcall:=Lib.hid hcall;have Hc:=Lib.hid (And.intro hb hkc)
 clear hcell hcall hb hkc hn2 hrow hc Hb
 go_upto_region 10 with fail
 go_wp2_with (go_at_call 65;refine Hat.out.mono ?_;rintro _ w5 ⟨r5,st5,rfl,hr5,hn5,h5,s5,htw⟩;have T5:=Lib.hid htw;clear htw;have hrb5:r5.size≤71000000:=(by omega);have hs5:=S2.out.trans s5;have S5:=Lib.hid hs5;have P5:=Lib.hid (P2.out.step s5);have B5:=Lib.hid (B2.out.step s5);clear k0 k1 k2 k3 k4 k5 kp;have kp:=P5.out.c0;have k3:=B5.out.c3;obtain ⟨q0,q1,q2,q3,q4⟩:=Hcell.out _ (WStp.below HH.out.wr hs5);simp only [Nat.add_assoc,Nat.reduceMul,Nat.reduceAdd] at q0 q1 q2 q3 q4;have Hr5:=Lib.hid hr5;have Hn5:=Lib.hid (N2.out.trans hn5 (Nat.le_refl _) (Nat.le_refl _));have H5:=Lib.hid h5;clear hr5 hn5 h5 s5 hs5;go_upto_region 11 with fail)
 have hn8:st5.n+termK c 0≤49000000:=by have:=Hn5.out.n;have:=HH.out.n;have:=Stm.nodes_eq s;have:=Hc.out;omega
 have Hn2:=Lib.hid hn8
 clear hn8
 have H2d:=Lib.hid H5.out.drew;have S2d:=Lib.hid S5.out.drew;have B2d:=Lib.hid B5.out.drew;have P2d:=Lib.hid P5.out.drew
 have f1:∀ w,(Op.stringOp .add r5 ⟨#[32,61,32]⟩).run Tryz.prog w= .ok (.string (r5 ++ ⟨#[32,61,32]⟩)) w:=fun w=>run_string_add_sum w _ _ (by ((repeat (first | rw [ByteArray.size_append] | rw [size_lit1] | rw [size_lit2] | rw [size_lit3] | rw [size_lit4] | rw [size_lit5] | rw [size_lit6] | rw [size_lit7] | rw [size_lit8]));(first | done | omega)))
 have F2:=Lib.hid (show ∀ r:ByteArray,r.size≤71000000→∀ w,(Op.stringOp .add (r5 ++ ⟨#[32,61,32]⟩) r).run Tryz.prog w= .ok (.string (r5 ++ ⟨#[32,61,32]⟩ ++ r)) w from fun r hr w=>run_string_add_sum w _ _ (by ((repeat (first | rw [ByteArray.size_append] | rw [size_lit1] | rw [size_lit2] | rw [size_lit3] | rw [size_lit4] | rw [size_lit5] | rw [size_lit6] | rw [size_lit7] | rw [size_lit8]));(first | done | omega))))
 go_region_held3 (fun w'=>w'.cell? ⟨bp,0,none⟩=some (.pointer (some ⟨x,0,none⟩))∧w'.cell? ⟨bp+1,3,none⟩=some (.slice (some ⟨b,o,none⟩) s.l.length cl)∧w'.cell? ⟨b,o+10,none⟩=some (.string (toBA c.op))∧w'.cell? ⟨b,o+11,none⟩=some (.int .i64 c.n)∧w'.cell? ⟨b,o+12,none⟩=some (.string (toBA c.s))∧w'.cell? ⟨b,o+13,none⟩=some (.slice ap1 c.p.length cp1)∧w'.cell? ⟨b,o+14,none⟩=some (.slice al1 c.l.length cl1)) (go_keep)
  ((first
    | (go_at_call 66;(with_reducible refine (Hcall.out _ _ _ _ _ H2d.out (WStp.below HH.out.wr S2d.out) Hn2.out).mono ?_);rintro _ w8 ⟨r8,st8,rfl,hr,hn,h,s8,htw⟩;have T8:=Lib.hid htw;clear htw;have hrb8:r8.size≤71000000:=(by omega);have Hr8:=Lib.hid hr;have Hn8:=Lib.hid (Hn5.out.trans hn (Nat.le_refl _) (Nat.le_refl _));have H8:=Lib.hid h;have S8:=Lib.hid (S2d.out.trans s8);have B8:=Lib.hid (B2d.out.step s8);have P8:=Lib.hid (P2d.out.step s8);have f2:=F2.out r8 hrb8;have kp:=P8.out.c0;have k3:=B8.out.c3;obtain ⟨q0,q1,q2,q3,q4⟩:=Hcell.out _ (WStp.below HH.out.wr S8.out);simp only [Nat.add_assoc,Nat.reduceMul,Nat.reduceAdd] at q0 q1 q2 q3 q4;clear hr hn h s8)
    | (go_at_call 68;(with_reducible refine (wline_any H8.out (r5 ++ ⟨#[32,61,32]⟩ ++ r8) (by have:=Hn8.out.inn;have:=HH.out.inn;omega) (by ((repeat (first | rw [ByteArray.size_append] | rw [size_lit1] | rw [size_lit2] | rw [size_lit3] | rw [size_lit4] | rw [size_lit5] | rw [size_lit6] | rw [size_lit7] | rw [size_lit8]));(first | done | omega))) (by have:=Hn8.out.len;have:=HH.out.len;omega)).mono ?_);rintro _ w9 ⟨p9,v9,l9,rfl,h9,s9⟩;have H9:=Lib.hid h9;have S9:=Lib.hid (S8.out.trans s9);have B9:=Lib.hid (B8.out.step s9);have P9:=Lib.hid (P8.out.step s9);have kp:=P9.out.c0;have k3:=B9.out.c3;obtain ⟨q0,q1,q2,q3,q4⟩:=Hcell.out _ (WStp.below HH.out.wr S9.out);simp only [Nat.add_assoc,Nat.reduceMul,Nat.reduceAdd] at q0 q1 q2 q3 q4;clear h9 s9)))
 all_goals
  go_wp2_with fail
  go_end0
  refine ⟨_,p9,v9,l9,rfl,Hn8.out.trans (nx_line (st:=st8) (4 * st8.inn+(r5 ++ ⟨#[32,61,32]⟩ ++ r8:ByteArray).size+1)) ?_ ?_,⟨fun _=>Hnm.out,?_⟩,H9.out,S9.out⟩
  · have:=Stm.nodes_eq s;have:=Hc.out;omega
  · have:=Stm.bulk_eq s;have:=Hc.out;have:=Hn8.out.inn;have:=HH.out.inn;have:=Hr8.out;have:=Hr5.out;((repeat (first | rw [ByteArray.size_append] | rw [size_lit1] | rw [size_lit2] | rw [size_lit3] | rw [size_lit4] | rw [size_lit5] | rw [size_lit6] | rw [size_lit7] | rw [size_lit8]));(first | done | omega))
  · obtain ⟨n1,n2,st1,hns,t1,t2⟩:=T5.out
    have h9:=line_eq (st:=st8) (m:=(r5 ++ ⟨#[32,61,32]⟩ ++ r8:ByteArray).size) (n:=n1+1+n2+1+3+r8.size) (by simp only [ByteArray.size_append,hns];rfl)
    rw [h9]
    exact SW.put Hr.out KO.out KL.out (by rw [KS.out];exact t1) t2 T8.out
end Go.Proofs.YtdoaeapahgmfoaaGreatDoor
namespace Go.Proofs.YtdoaeapahgmfoaaGreatDoor
open Go.RowKit
set_option maxRecDepth 100000 in
set_option maxHeartbeats 20000000 in
theorem stmt_not {s:Stm} {deep:Nat} {w:World} {x:Nat} {st:WS} {p v:Value} {l:List UInt8} {vp vl vb ve:Value} (H:StmIn s deep w x st p v l vp vl vb ve) (hr:(st.right s).ok=false):
 Calls Tryz.prog 33 #[.pointer (some ⟨x,0,none⟩),.agg #[.string (toBA s.kind),.string (toBA s.name),vp,vl,vb,ve],.int .i64 (deep:Int)] w (WrPost x w st (8 * s.nodes - 1) (20000000 * s.bulk) fun st'=>(st'.ok=true→s.named)∧SW s deep st st'):=by
 have hkl:s.kind.length≤2000000:=by have:=Stm.bulk_eq s;have:=H.bulk;omega
 have hnl:s.name.length≤1100000:=by have:=Stm.bulk_eq s;have:=H.bulk;omega
 obtain ⟨ap,cp,rfl,hpcap,hpr⟩:=H.ps
 obtain ⟨al,cl,rfl,hlcap,hlr⟩:=H.ls
 obtain ⟨ab,cb,rfl,hbr⟩:=H.bs
 obtain ⟨ae,ce,rfl,her⟩:=H.es
 obtain ⟨ha,sa,sfa⟩:=H.wr.alloc (.cells #[.pointer (some ⟨x,0,none⟩)] 73)
 obtain ⟨hb,sb,sfb⟩:=ha.alloc (.cells #[.string (toBA s.kind),.string (toBA s.name),.slice ap s.p.length cp,.slice al s.l.length cl,.slice ab s.body.length cb,.slice ae s.els.length ce] 82)
 have hbp0:BoxP (w.alloc (.cells #[.pointer (some ⟨x,0,none⟩)] 73)) x w.heap.size:=⟨heap_alloc_new w _,sfa⟩
 have hbp:=hbp0.step sb
 have hbx:BoxS _ x (w.alloc (.cells #[.pointer (some ⟨x,0,none⟩)] 73)).heap.size s ap cp al cl ab cb ae ce:=⟨heap_alloc_new _ _,sfb⟩
 have hsab:=sa.trans sb
 have hR:=right_any hb s ap al ab ae cp cl cb ce hkl hnl (H.glob.below (WStp.below H.wr hsab))
 have hhp:(w.alloc (.cells #[.pointer (some ⟨x,0,none⟩)] 73)).heap.size=w.heap.size+1:=by simp
 rw [hhp] at hbx
 have k0:=hbx.c0
 have k1:=hbx.c1
 have k2:=hbx.c2
 have k3:=hbx.c3
 have k4:=hbx.c4
 have k5:=hbx.c5
 have kp:=hbp.c0
 rw [hr] at hR
 have Hbp:=Lib.hid hbp;have Hbx:=Lib.hid hbx;have Sab:=Lib.hid hsab;have HR:=Lib.hid hR;have Hr:=Lib.hid hr;have HH:=Lib.hid H;have Hpr:=Lib.hid hpr;have Hlr:=Lib.hid hlr
 clear ha sa sfa hb sb sfb hbp0 hbp hbx hsab hR hhp hr H hpr hlr hbr her hkl
 go_enter Tryz.func33,Tryz.ntmps33
 go_wp2_with fail
 refine HR.out.mono ?_
 rintro _ w2 ⟨rfl,h2,s2⟩
 have H2:=Lib.hid h2;have S2:=Lib.hid (Sab.out.trans s2)
 clear h2 s2 HR
 go_wp2_with fail
 go_end0
 exact ⟨_,_,_,_,rfl,(Nx.right st s 0 0).mono (Nat.zero_le _) (Nat.zero_le _),⟨fun h=>absurd (h.symm.trans Hr.out) (by decide),SW.off Hr.out⟩,H2.out,S2.out⟩
theorem kinds_all {k:List UInt8} (h:(kindF k).isSome):k=sExpr∨k=sSet∨k=sPut∨k=sDel∨k=sIf∨k=sWhile∨k=sFor∨k=sDef∨k=sReturn∨k=sRaise∨k=sTry∨k=sBreak∨k=sContinue∨k=sPass∨k=sGlobal∨k=sNonlocal:=by
 unfold kindF at h
 rw [Option.isSome_map,List.find?_isSome] at h
 obtain ⟨a,ha,he⟩:=h
 have e:a.1=k:=eq_of_beq he
 simp only [kindsL,List.mem_cons,List.not_mem_nil,or_false] at ha
 rcases ha with rfl | rfl | rfl | rfl | rfl | rfl | rfl | rfl | rfl | rfl | rfl | rfl | rfl | rfl | rfl | rfl <;> simp only at e <;> simp [← e]
theorem stmt_of {f:Nat} (hB:BlockC f) (hI:IfsC (f+1)):StmC (f+1):=by
 intro s deep w x st p v l vp vl vb ve hf H
 rcases hr:(st.right s).ok with _ | _
 · exact stmt_not H hr
 have hform:=(right_ok hr).1
 have hs:(kindF s.kind).isSome:=by
  unfold formOk at hform
  rcases hk:kindF s.kind with _ | _
  · rw [hk] at hform;exact Bool.noConfusion hform
  · rfl
 rcases kinds_all hs with h | h | h | h | h | h | h | h | h | h | h | h | h | h | h | h
 · exact stmt_expr H hr h
 · exact stmt_set H hr h
 · exact stmt_put H hr h
 · exact stmt_del H hr h
 · exact stmt_if hI hf H hr h
 · exact stmt_while hB hf H hr h
 · exact stmt_for hB hf H hr h
 · exact stmt_def hB hf H hr h
 · have hl:=(form_parts (f:=⟨false,false,-1,false,false⟩) (by rw [h];rfl) hform).2.2.2.2
   dsimp only at hl
   by_cases h0:s.l.length=0
   · exact stmt_return0 H hr h h0
   · exact stmt_return1 H hr h (by omega)
 · exact stmt_raise H hr h
 · exact stmt_try hB hf H hr h
 · exact stmt_break H hr h
 · exact stmt_continue H hr h
 · exact stmt_pass H hr h
 · exact stmt_global H hr h
 · exact stmt_nonlocal H hr h
theorem stmts_all:∀ f:Nat,StmC f∧IfsC f∧BlockC f
 | 0=>by
   have hs:StmC 0:=by
    intro s deep w x st p v l vp vl vb ve hf H
    have:=Stm.nodes_eq s
    omega
   refine ⟨hs,?_,block_of hs⟩
   intro s word deep w x st p v l vp vl vb ve hf h1 hw H
   have:=Stm.nodes_eq s
   omega
 | f+1=>by
   obtain ⟨h1,h2,h3⟩:=stmts_all f
   have hi:=ifs_of h3 h2
   have hs:=stmt_of h3 hi
   exact ⟨hs,hi,block_of hs⟩
end Go.Proofs.YtdoaeapahgmfoaaGreatDoor
