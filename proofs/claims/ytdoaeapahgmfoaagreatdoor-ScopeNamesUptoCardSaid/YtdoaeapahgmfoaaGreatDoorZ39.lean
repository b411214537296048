/- The writer's statement: the arms of one term. -/
import Derived.Test.YtdoaeapahgmfoaaGreatDoorZ38
namespace Go.Proofs.YtdoaeapahgmfoaaGreatDoor
open Go.RowKit
theorem size_lit1 (a:UInt8):(⟨#[a]⟩:ByteArray).size=1:=rfl
theorem size_lit2 (a b:UInt8):(⟨#[a,b]⟩:ByteArray).size=2:=rfl
theorem size_lit3 (a b c:UInt8):(⟨#[a,b,c]⟩:ByteArray).size=3:=rfl
theorem size_lit4 (a b c d:UInt8):(⟨#[a,b,c,d]⟩:ByteArray).size=4:=rfl
theorem size_lit5 (a b c d e:UInt8):(⟨#[a,b,c,d,e]⟩:ByteArray).size=5:=rfl
theorem size_lit6 (a b c d e f:UInt8):(⟨#[a,b,c,d,e,f]⟩:ByteArray).size=6:=rfl
theorem size_lit7 (a b c d e f g:UInt8):(⟨#[a,b,c,d,e,f,g]⟩:ByteArray).size=7:=rfl
theorem size_lit8 (a b c d e f g h:UInt8):(⟨#[a,b,c,d,e,f,g,h]⟩:ByteArray).size=8:=rfl
set_option maxRecDepth 100000 in
set_option maxHeartbeats 20000000 in
theorem stmt_expr {s:Stm} {deep:Nat} {w:World} {x:Nat} {st:WS} {p v:Value} {l:List UInt8} {vp vl vb ve:Value} (H:StmIn s deep w x st p v l vp vl vb ve) (hr:(st.right s).ok=true) (hk:s.kind=sExpr):
 Calls Tryz.prog 33 #[.pointer (some ⟨x,0,none⟩),.agg #[.string (toBA s.kind),.string (toBA s.name),vp,vl,vb,ve],.int .i64 (deep:Int)] w (WrPost x w st (8 * s.nodes - 1) (20000000 * s.bulk) fun st'=>(st'.ok=true→s.named)∧SW s deep st st'):=by
 have hform:=form_parts (f:=⟨false,false,1,false,false⟩) (by rw [hk];rfl) (right_ok hr).1
 have u1:=op_is hk [101,120,112,114] (b:=true) rfl
 have h1:s.l.length=1:=by have:=hform.2.2.2.2;dsimp only at this;omega
 have hl0:0 < s.l.length:=by omega
 have hnm:=named_of hr (nil_named (hform.2.2.1 rfl)) (nil_named (hform.2.2.2.1 rfl))
 have Hnm:=Lib.hid hnm;have HL:=Lib.hid h1
 have KO:=Lib.hid hk
 clear hk hform hnm h1
 have hkl:s.kind.length≤2000000:=by have:=Stm.bulk_eq s;have:=H.bulk;omega
 have hnl:s.name.length≤1100000:=by have:=Stm.bulk_eq s;have:=H.bulk;omega
 obtain ⟨ap,cp,rfl,hpcap,hpr⟩:=H.ps
 obtain ⟨al,cl,rfl,hlcap,hlr⟩:=H.ls
 obtain ⟨ab,cb,rfl,hbr⟩:=H.bs
 obtain ⟨ae,ce,rfl,her⟩:=H.es
 obtain ⟨ha,sa,sfa⟩:=H.wr.alloc (.cells #[.pointer (some ⟨x,0,none⟩)] 73)
 obtain ⟨hb,sb,sfb⟩:=ha.alloc (.cells #[.string (toBA s.kind),.string (toBA s.name),.slice ap s.p.length cp,.slice al s.l.length cl,.slice ab s.body.length cb,.slice ae s.els.length ce] 82)
 have hbp0:BoxP (w.alloc (.cells #[.pointer (some ⟨x,0,none⟩)] 73)) x w.heap.size:=⟨heap_alloc_new w _,sfa⟩
 have hbp:=hbp0.step sb
 have hbx:BoxS _ x (w.alloc (.cells #[.pointer (some ⟨x,0,none⟩)] 73)).heap.size s ap cp al cl ab cb ae ce:=⟨heap_alloc_new _ _,sfb⟩
 have hsab:=sa.trans sb
 have hR:=right_any hb s ap al ab ae cp cl cb ce hkl hnl (H.glob.below (WStp.below H.wr hsab))
 have hhp:(w.alloc (.cells #[.pointer (some ⟨x,0,none⟩)] 73)).heap.size=w.heap.size+1:=by simp
 rw [hhp] at hbx
 have k0:=hbx.c0
 have k1:=hbx.c1
 have k2:=hbx.c2
 have k3:=hbx.c3
 have k4:=hbx.c4
 have k5:=hbx.c5
 have kp:=hbp.c0
 rw [hr] at hR
 have Hbp:=Lib.hid hbp;have Hbx:=Lib.hid hbx;have Sab:=Lib.hid hsab;have HR:=Lib.hid hR;have Hr:=Lib.hid hr;have HH:=Lib.hid H;have Hpr:=Lib.hid hpr;have Hlr:=Lib.hid hlr
 clear ha sa sfa hb sb sfb hbp0 hbp hbx hsab hR hhp hr H hpr hlr hbr her hkl
 go_enter Tryz.func33,Tryz.ntmps33
 go_wp2_with fail
 generalize (w.alloc (.cells #[.pointer (some ⟨x,0,none⟩)] 73)).alloc (.cells #[.string (toBA s.kind),.string (toBA s.name),.slice ap s.p.length cp,.slice al s.l.length cl,.slice ab s.body.length cb,.slice ae s.els.length ce] 82)=wA at HR Hbp Hbx Sab k0 k1 k2 k3 k4 k5 kp ⊢
 generalize hbpn:w.heap.size=bp at Hbp Hbx k0 k1 k2 k3 k4 k5 kp ⊢
 clear hbpn
 refine HR.out.mono ?_
 rintro _ w2 ⟨rfl,h2,s2⟩
 clear k0 k1 k2 k3 k4 k5 kp HR
 have hb2:=Hbx.out.step s2
 have hp2:=Hbp.out.step s2
 have k0:=hb2.c0
 have k1:=hb2.c1
 have k2:=hb2.c2
 have k3:=hb2.c3
 have k4:=hb2.c4
 have k5:=hb2.c5
 have kp:=hp2.c0
 have hx2:=Nx.right st s 0 0
 have B2:=Lib.hid hb2;have P2:=Lib.hid hp2;have S2:=Lib.hid (Sab.out.trans s2);have N2:=Lib.hid hx2;have H2:=Lib.hid h2
 have Bel2:=Lib.hid (WStp.below HH.out.wr S2.out)
 clear h2 s2 hb2 hp2 hx2 Hbx Hbp Sab
 have Hr2:Hid ((st.right s).ok=true):=Hr
 generalize hst2:st.right s=st2 at N2 H2 Hr2
 have KS:=Lib.hid hst2
 clear hst2
 obtain ⟨b,o,rfl,hbx0,hrow⟩:=Hlr.out hl0
 obtain ⟨c,ap1,cp1,al1,cl1,hc,hcell,hcall⟩:=schild_of HH.out hbx0 hrow 0 hl0 0 0 rfl 0 0 rfl (by omega) (by omega)
 have hb1:=one_bulk HL.out hl0
 rw [← hc] at hb1
 have KL:=Lib.hid (list_one HL.out hc)
 have hkc:termK c 0=3 * c.nodes:=by unfold termK;rw [if_pos rfl];omega
 have hcb:c.bulk≤1100000:=by have:=Stm.bulk_eq s;have:=HH.out.bulk;omega
 obtain ⟨q0,q1,q2,q3,q4⟩:=hcell _ Bel2.out
 simp only [Nat.zero_mul,Nat.add_zero] at q0 q1 q2 q3 q4
 have Hcell:=Lib.hid hcell;have Hcall:=Lib.hid hcall;have Hc:=Lib.hid (And.intro hb1 hkc)
 have H2d:=Lib.hid H2.out.drew;have S2d:=Lib.hid S2.out.drew;have B2d:=Lib.hid B2.out.drew;have P2d:=Lib.hid P2.out.drew
 have hn2:st2.n+termK c 0≤49000000:=by have:=N2.out.n;have:=HH.out.n;have:=Stm.nodes_eq s;omega
 have Hn2:=Lib.hid hn2
 have hns:(toBA s.name).size≤1100000:=by rw [toBA_len];exact hnl
 clear hcell hcall hb1 hkc hn2 hrow hc
 go_upto_region 6 with fail
 go_region_held3 (fun w'=>w'.cell? ⟨bp,0,none⟩=some (.pointer (some ⟨x,0,none⟩))∧w'.cell? ⟨bp+1,3,none⟩=some (.slice (some ⟨b,o,none⟩) s.l.length cl)∧w'.cell? ⟨b,o,none⟩=some (.string (toBA c.op))∧w'.cell? ⟨b,o+1,none⟩=some (.int .i64 c.n)∧w'.cell? ⟨b,o+2,none⟩=some (.string (toBA c.s))∧w'.cell? ⟨b,o+3,none⟩=some (.slice ap1 c.p.length cp1)∧w'.cell? ⟨b,o+4,none⟩=some (.slice al1 c.l.length cl1)) (go_keep)
  ((first
    | (go_at_call 66;(with_reducible refine (Hcall.out _ _ _ _ _ H2d.out (WStp.below HH.out.wr S2d.out) Hn2.out).mono ?_);rintro _ w8 ⟨r8,st8,rfl,hr,hn,h,s8,htw⟩;have T8:=Lib.hid htw;clear htw;have hrb8:r8.size≤71000000:=(by omega);have Hr8:=Lib.hid hr;have Hn8:=Lib.hid (N2.out.trans hn (Nat.le_refl _) (Nat.le_refl _));have H8:=Lib.hid h;have S8:=Lib.hid (S2d.out.trans s8);have B8:=Lib.hid (B2d.out.step s8);have P8:=Lib.hid (P2d.out.step s8);have kp:=P8.out.c0;have k3:=B8.out.c3;obtain ⟨q0,q1,q2,q3,q4⟩:=Hcell.out _ (WStp.below HH.out.wr S8.out);simp only [Nat.zero_mul,Nat.add_zero] at q0 q1 q2 q3 q4;clear hr hn h s8)
    | (go_at_call 68;(with_reducible refine (wline_any H8.out (r8) (by have:=Hn8.out.inn;have:=HH.out.inn;omega) (by ((repeat (first | rw [ByteArray.size_append] | rw [size_lit1] | rw [size_lit2] | rw [size_lit3] | rw [size_lit4] | rw [size_lit5] | rw [size_lit6] | rw [size_lit7] | rw [size_lit8]));(first | done | omega))) (by have:=Hn8.out.len;have:=HH.out.len;omega)).mono ?_);rintro _ w9 ⟨p9,v9,l9,rfl,h9,s9⟩;have H9:=Lib.hid h9;have S9:=Lib.hid (S8.out.trans s9);have B9:=Lib.hid (B8.out.step s9);have P9:=Lib.hid (P8.out.step s9);have kp:=P9.out.c0;have k3:=B9.out.c3;obtain ⟨q0,q1,q2,q3,q4⟩:=Hcell.out _ (WStp.below HH.out.wr S9.out);simp only [Nat.zero_mul,Nat.add_zero] at q0 q1 q2 q3 q4;clear h9 s9)))
 all_goals
  go_wp2_with fail
  go_end0
  refine ⟨_,p9,v9,l9,rfl,Hn8.out.trans (nx_line (st:=st8) (4 * st8.inn+(r8).size+1)) ?_ ?_,⟨fun _=>Hnm.out,?_⟩,H9.out,S9.out⟩
  · have:=Stm.nodes_eq s;have:=Hc.out;omega
  · have:=Stm.bulk_eq s;have:=Hc.out;have:=Hn8.out.inn;have:=HH.out.inn;have:=Hr8.out;((repeat (first | rw [ByteArray.size_append] | rw [size_lit1] | rw [size_lit2] | rw [size_lit3] | rw [size_lit4] | rw [size_lit5] | rw [size_lit6] | rw [size_lit7] | rw [size_lit8]));(first | done | omega))
  · have h9:=line_eq (st:=st8) (m:=(r8).size) (n:=r8.size) (by rfl)
    rw [h9]
    exact SW.expr Hr.out KO.out KL.out (by rw [KS.out];exact T8.out)
set_option maxRecDepth 100000 in
set_option maxHeartbeats 20000000 in
theorem stmt_set {s:Stm} {deep:Nat} {w:World} {x:Nat} {st:WS} {p v:Value} {l:List UInt8} {vp vl vb ve:Value} (H:StmIn s deep w x st p v l vp vl vb ve) (hr:(st.right s).ok=true) (hk:s.kind=sSet):
 Calls Tryz.prog 33 #[.pointer (some ⟨x,0,none⟩),.agg #[.string (toBA s.kind),.string (toBA s.name),vp,vl,vb,ve],.int .i64 (deep:Int)] w (WrPost x w st (8 * s.nodes - 1) (20000000 * s.bulk) fun st'=>(st'.ok=true→s.named)∧SW s deep st st'):=by
 have hform:=form_parts (f:=⟨true,false,1,false,false⟩) (by rw [hk];rfl) (right_ok hr).1
 have u1:=op_is hk [101,120,112,114] (b:=false) rfl
 have u2:=op_is hk [115,101,116] (b:=true) rfl
 have h1:s.l.length=1:=by have:=hform.2.2.2.2;dsimp only at this;omega
 have hl0:0 < s.l.length:=by omega
 have hnm:=named_of hr (nil_named (hform.2.2.1 rfl)) (nil_named (hform.2.2.2.1 rfl))
 have Hnm:=Lib.hid hnm;have HL:=Lib.hid h1
 have KO:=Lib.hid hk
 clear hk hform hnm h1
 have hkl:s.kind.length≤2000000:=by have:=Stm.bulk_eq s;have:=H.bulk;omega
 have hnl:s.name.length≤1100000:=by have:=Stm.bulk_eq s;have:=H.bulk;omega
 obtain ⟨ap,cp,rfl,hpcap,hpr⟩:=H.ps
 obtain ⟨al,cl,rfl,hlcap,hlr⟩:=H.ls
 obtain ⟨ab,cb,rfl,hbr⟩:=H.bs
 obtain ⟨ae,ce,rfl,her⟩:=H.es
 obtain ⟨ha,sa,sfa⟩:=H.wr.alloc (.cells #[.pointer (some ⟨x,0,none⟩)] 73)
 obtain ⟨hb,sb,sfb⟩:=ha.alloc (.cells #[.string (toBA s.kind),.string (toBA s.name),.slice ap s.p.length cp,.slice al s.l.length cl,.slice ab s.body.length cb,.slice ae s.els.length ce] 82)
 have hbp0:BoxP (w.alloc (.cells #[.pointer (some ⟨x,0,none⟩)] 73)) x w.heap.size:=⟨heap_alloc_new w _,sfa⟩
 have hbp:=hbp0.step sb
 have hbx:BoxS _ x (w.alloc (.cells #[.pointer (some ⟨x,0,none⟩)] 73)).heap.size s ap cp al cl ab cb ae ce:=⟨heap_alloc_new _ _,sfb⟩
 have hsab:=sa.trans sb
 have hR:=right_any hb s ap al ab ae cp cl cb ce hkl hnl (H.glob.below (WStp.below H.wr hsab))
 have hhp:(w.alloc (.cells #[.pointer (some ⟨x,0,none⟩)] 73)).heap.size=w.heap.size+1:=by simp
 rw [hhp] at hbx
 have k0:=hbx.c0
 have k1:=hbx.c1
 have k2:=hbx.c2
 have k3:=hbx.c3
 have k4:=hbx.c4
 have k5:=hbx.c5
 have kp:=hbp.c0
 rw [hr] at hR
 have Hbp:=Lib.hid hbp;have Hbx:=Lib.hid hbx;have Sab:=Lib.hid hsab;have HR:=Lib.hid hR;have Hr:=Lib.hid hr;have HH:=Lib.hid H;have Hpr:=Lib.hid hpr;have Hlr:=Lib.hid hlr
 clear ha sa sfa hb sb sfb hbp0 hbp hbx hsab hR hhp hr H hpr hlr hbr her hkl
 go_enter Tryz.func33,Tryz.ntmps33
 go_wp2_with fail
 generalize (w.alloc (.cells #[.pointer (some ⟨x,0,none⟩)] 73)).alloc (.cells #[.string (toBA s.kind),.string (toBA s.name),.slice ap s.p.length cp,.slice al s.l.length cl,.slice ab s.body.length cb,.slice ae s.els.length ce] 82)=wA at HR Hbp Hbx Sab k0 k1 k2 k3 k4 k5 kp ⊢
 generalize hbpn:w.heap.size=bp at Hbp Hbx k0 k1 k2 k3 k4 k5 kp ⊢
 clear hbpn
 refine HR.out.mono ?_
 rintro _ w2 ⟨rfl,h2,s2⟩
 clear k0 k1 k2 k3 k4 k5 kp HR
 have hb2:=Hbx.out.step s2
 have hp2:=Hbp.out.step s2
 have k0:=hb2.c0
 have k1:=hb2.c1
 have k2:=hb2.c2
 have k3:=hb2.c3
 have k4:=hb2.c4
 have k5:=hb2.c5
 have kp:=hp2.c0
 have hx2:=Nx.right st s 0 0
 have B2:=Lib.hid hb2;have P2:=Lib.hid hp2;have S2:=Lib.hid (Sab.out.trans s2);have N2:=Lib.hid hx2;have H2:=Lib.hid h2
 have Bel2:=Lib.hid (WStp.below HH.out.wr S2.out)
 clear h2 s2 hb2 hp2 hx2 Hbx Hbp Sab
 have Hr2:Hid ((st.right s).ok=true):=Hr
 generalize hst2:st.right s=st2 at N2 H2 Hr2
 have KS:=Lib.hid hst2
 clear hst2
 obtain ⟨b,o,rfl,hbx0,hrow⟩:=Hlr.out hl0
 obtain ⟨c,ap1,cp1,al1,cl1,hc,hcell,hcall⟩:=schild_of HH.out hbx0 hrow 0 hl0 0 0 rfl 0 0 rfl (by omega) (by omega)
 have hb1:=one_bulk HL.out hl0
 rw [← hc] at hb1
 have KL:=Lib.hid (list_one HL.out hc)
 have hkc:termK c 0=3 * c.nodes:=by unfold termK;rw [if_pos rfl];omega
 have hcb:c.bulk≤1100000:=by have:=Stm.bulk_eq s;have:=HH.out.bulk;omega
 obtain ⟨q0,q1,q2,q3,q4⟩:=hcell _ Bel2.out
 simp only [Nat.zero_mul,Nat.add_zero] at q0 q1 q2 q3 q4
 have Hcell:=Lib.hid hcell;have Hcall:=Lib.hid hcall;have Hc:=Lib.hid (And.intro hb1 hkc)
 have H2d:=Lib.hid H2.out.drew;have S2d:=Lib.hid S2.out.drew;have B2d:=Lib.hid B2.out.drew;have P2d:=Lib.hid P2.out.drew
 have hn2:st2.n+termK c 0≤49000000:=by have:=N2.out.n;have:=HH.out.n;have:=Stm.nodes_eq s;omega
 have Hn2:=Lib.hid hn2
 have hns:(toBA s.name).size≤1100000:=by rw [toBA_len];exact hnl
 clear hcell hcall hb1 hkc hn2 hrow hc
 go_upto_region 8 with fail
 have f1:∀ w,(Op.stringOp .add (toBA s.name) (⟨#[32,61,32]⟩)).run Tryz.prog w= .ok (.string (toBA s.name ++ ⟨#[32,61,32]⟩)) w:=fun w=>run_string_add_sum w _ _ (by ((repeat (first | rw [ByteArray.size_append] | rw [size_lit1] | rw [size_lit2] | rw [size_lit3] | rw [size_lit4] | rw [size_lit5] | rw [size_lit6] | rw [size_lit7] | rw [size_lit8]));(first | done | omega)))
 have F2:=Lib.hid (show ∀ r:ByteArray,r.size≤71000000→∀ w,(Op.stringOp .add (toBA s.name ++ ⟨#[32,61,32]⟩) (r)).run Tryz.prog w= .ok (.string (toBA s.name ++ ⟨#[32,61,32]⟩ ++ r)) w from fun r hr w=>run_string_add_sum w _ _ (by ((repeat (first | rw [ByteArray.size_append] | rw [size_lit1] | rw [size_lit2] | rw [size_lit3] | rw [size_lit4] | rw [size_lit5] | rw [size_lit6] | rw [size_lit7] | rw [size_lit8]));(first | done | omega))))
 go_region_held3 (fun w'=>w'.cell? ⟨bp+1,1,none⟩=some (.string (toBA s.name))∧w'.cell? ⟨bp,0,none⟩=some (.pointer (some ⟨x,0,none⟩))∧w'.cell? ⟨bp+1,3,none⟩=some (.slice (some ⟨b,o,none⟩) s.l.length cl)∧w'.cell? ⟨b,o,none⟩=some (.string (toBA c.op))∧w'.cell? ⟨b,o+1,none⟩=some (.int .i64 c.n)∧w'.cell? ⟨b,o+2,none⟩=some (.string (toBA c.s))∧w'.cell? ⟨b,o+3,none⟩=some (.slice ap1 c.p.length cp1)∧w'.cell? ⟨b,o+4,none⟩=some (.slice al1 c.l.length cl1)) (go_keep)
  ((first
    | (go_at_call 66;(with_reducible refine (Hcall.out _ _ _ _ _ H2d.out (WStp.below HH.out.wr S2d.out) Hn2.out).mono ?_);rintro _ w8 ⟨r8,st8,rfl,hr,hn,h,s8,htw⟩;have T8:=Lib.hid htw;clear htw;have hrb8:r8.size≤71000000:=(by omega);have Hr8:=Lib.hid hr;have Hn8:=Lib.hid (N2.out.trans hn (Nat.le_refl _) (Nat.le_refl _));have H8:=Lib.hid h;have S8:=Lib.hid (S2d.out.trans s8);have B8:=Lib.hid (B2d.out.step s8);have P8:=Lib.hid (P2d.out.step s8);have f2:=F2.out r8 hrb8;have kp:=P8.out.c0;have k3:=B8.out.c3;have k1:=B8.out.c1;obtain ⟨q0,q1,q2,q3,q4⟩:=Hcell.out _ (WStp.below HH.out.wr S8.out);simp only [Nat.zero_mul,Nat.add_zero] at q0 q1 q2 q3 q4;clear hr hn h s8)
    | (go_at_call 68;(with_reducible refine (wline_any H8.out (toBA s.name ++ ⟨#[32,61,32]⟩ ++ r8) (by have:=Hn8.out.inn;have:=HH.out.inn;omega) (by ((repeat (first | rw [ByteArray.size_append] | rw [size_lit1] | rw [size_lit2] | rw [size_lit3] | rw [size_lit4] | rw [size_lit5] | rw [size_lit6] | rw [size_lit7] | rw [size_lit8]));(first | done | omega))) (by have:=Hn8.out.len;have:=HH.out.len;omega)).mono ?_);rintro _ w9 ⟨p9,v9,l9,rfl,h9,s9⟩;have H9:=Lib.hid h9;have S9:=Lib.hid (S8.out.trans s9);have B9:=Lib.hid (B8.out.step s9);have P9:=Lib.hid (P8.out.step s9);have kp:=P9.out.c0;have k3:=B9.out.c3;have k1:=B9.out.c1;obtain ⟨q0,q1,q2,q3,q4⟩:=Hcell.out _ (WStp.below HH.out.wr S9.out);simp only [Nat.zero_mul,Nat.add_zero] at q0 q1 q2 q3 q4;clear h9 s9)))
 all_goals
  go_wp2_with fail
  go_end0
  refine ⟨_,p9,v9,l9,rfl,Hn8.out.trans (nx_line (st:=st8) (4 * st8.inn+(toBA s.name ++ ⟨#[32,61,32]⟩ ++ r8).size+1)) ?_ ?_,⟨fun _=>Hnm.out,?_⟩,H9.out,S9.out⟩
  · have:=Stm.nodes_eq s;have:=Hc.out;omega
  · have:=Stm.bulk_eq s;have:=Hc.out;have:=Hn8.out.inn;have:=HH.out.inn;have:=Hr8.out;((repeat (first | rw [ByteArray.size_append] | rw [size_lit1] | rw [size_lit2] | rw [size_lit3] | rw [size_lit4] | rw [size_lit5] | rw [size_lit6] | rw [size_lit7] | rw [size_lit8]));(first | done | omega))
  · have h9:=line_eq (st:=st8) (m:=(toBA s.name ++ ⟨#[32,61,32]⟩ ++ r8).size) (n:=s.name.length+3+r8.size) (by simp only [ByteArray.size_append,toBA_len];rfl)
    rw [h9]
    exact SW.set Hr.out KO.out KL.out (by rw [KS.out];exact T8.out)
set_option maxRecDepth 100000 in
set_option maxHeartbeats 20000000 in
theorem stmt_raise {s:Stm} {deep:Nat} {w:World} {x:Nat} {st:WS} {p v:Value} {l:List UInt8} {vp vl vb ve:Value} (H:StmIn s deep w x st p v l vp vl vb ve) (hr:(st.right s).ok=true) (hk:s.kind=sRaise):
 Calls Tryz.prog 33 #[.pointer (some ⟨x,0,none⟩),.agg #[.string (toBA s.kind),.string (toBA s.name),vp,vl,vb,ve],.int .i64 (deep:Int)] w (WrPost x w st (8 * s.nodes - 1) (20000000 * s.bulk) fun st'=>(st'.ok=true→s.named)∧SW s deep st st'):=by
 have hform:=form_parts (f:=⟨false,false,1,false,false⟩) (by rw [hk];rfl) (right_ok hr).1
 have u1:=op_is hk [101,120,112,114] (b:=false) rfl
 have u2:=op_is hk [115,101,116] (b:=false) rfl
 have u3:=op_is hk [112,117,116] (b:=false) rfl
 have u4:=op_is hk [100,101,108] (b:=false) rfl
 have u5:=op_is hk [105,102] (b:=false) rfl
 have u6:=op_is hk [119,104,105,108,101] (b:=false) rfl
 have u7:=op_is hk [102,111,114] (b:=false) rfl
 have u8:=op_is hk [100,101,102] (b:=false) rfl
 have u9:=op_is hk [116,114,121] (b:=false) rfl
 have u10:=op_is hk [114,101,116,117,114,110] (b:=false) rfl
 have u11:=op_is hk [114,97,105,115,101] (b:=true) rfl
 have h1:s.l.length=1:=by have:=hform.2.2.2.2;dsimp only at this;omega
 have hl0:0 < s.l.length:=by omega
 have hnm:=named_of hr (nil_named (hform.2.2.1 rfl)) (nil_named (hform.2.2.2.1 rfl))
 have Hnm:=Lib.hid hnm;have HL:=Lib.hid h1
 have KO:=Lib.hid hk
 clear hk hform hnm h1
 have hkl:s.kind.length≤2000000:=by have:=Stm.bulk_eq s;have:=H.bulk;omega
 have hnl:s.name.length≤1100000:=by have:=Stm.bulk_eq s;have:=H.bulk;omega
 obtain ⟨ap,cp,rfl,hpcap,hpr⟩:=H.ps
 obtain ⟨al,cl,rfl,hlcap,hlr⟩:=H.ls
 obtain ⟨ab,cb,rfl,hbr⟩:=H.bs
 obtain ⟨ae,ce,rfl,her⟩:=H.es
 obtain ⟨ha,sa,sfa⟩:=H.wr.alloc (.cells #[.pointer (some ⟨x,0,none⟩)] 73)
 obtain ⟨hb,sb,sfb⟩:=ha.alloc (.cells #[.string (toBA s.kind),.string (toBA s.name),.slice ap s.p.length cp,.slice al s.l.length cl,.slice ab s.body.length cb,.slice ae s.els.length ce] 82)
 have hbp0:BoxP (w.alloc (.cells #[.pointer (some ⟨x,0,none⟩)] 73)) x w.heap.size:=⟨heap_alloc_new w _,sfa⟩
 have hbp:=hbp0.step sb
 have hbx:BoxS _ x (w.alloc (.cells #[.pointer (some ⟨x,0,none⟩)] 73)).heap.size s ap cp al cl ab cb ae ce:=⟨heap_alloc_new _ _,sfb⟩
 have hsab:=sa.trans sb
 have hR:=right_any hb s ap al ab ae cp cl cb ce hkl hnl (H.glob.below (WStp.below H.wr hsab))
 have hhp:(w.alloc (.cells #[.pointer (some ⟨x,0,none⟩)] 73)).heap.size=w.heap.size+1:=by simp
 rw [hhp] at hbx
 have k0:=hbx.c0
 have k1:=hbx.c1
 have k2:=hbx.c2
 have k3:=hbx.c3
 have k4:=hbx.c4
 have k5:=hbx.c5
 have kp:=hbp.c0
 rw [hr] at hR
 have Hbp:=Lib.hid hbp;have Hbx:=Lib.hid hbx;have Sab:=Lib.hid hsab;have HR:=Lib.hid hR;have Hr:=Lib.hid hr;have HH:=Lib.hid H;have Hpr:=Lib.hid hpr;have Hlr:=Lib.hid hlr
 clear ha sa sfa hb sb sfb hbp0 hbp hbx hsab hR hhp hr H hpr hlr hbr her hkl
 go_enter Tryz.func33,Tryz.ntmps33
 go_wp2_with fail
 generalize (w.alloc (.cells #[.pointer (some ⟨x,0,none⟩)] 73)).alloc (.cells #[.string (toBA s.kind),.string (toBA s.name),.slice ap s.p.length cp,.slice al s.l.length cl,.slice ab s.body.length cb,.slice ae s.els.length ce] 82)=wA at HR Hbp Hbx Sab k0 k1 k2 k3 k4 k5 kp ⊢
 generalize hbpn:w.heap.size=bp at Hbp Hbx k0 k1 k2 k3 k4 k5 kp ⊢
 clear hbpn
 refine HR.out.mono ?_
 rintro _ w2 ⟨rfl,h2,s2⟩
 clear k0 k1 k2 k3 k4 k5 kp HR
 have hb2:=Hbx.out.step s2
 have hp2:=Hbp.out.step s2
 have k0:=hb2.c0
 have k1:=hb2.c1
 have k2:=hb2.c2
 have k3:=hb2.c3
 have k4:=hb2.c4
 have k5:=hb2.c5
 have kp:=hp2.c0
 have hx2:=Nx.right st s 0 0
 have B2:=Lib.hid hb2;have P2:=Lib.hid hp2;have S2:=Lib.hid (Sab.out.trans s2);have N2:=Lib.hid hx2;have H2:=Lib.hid h2
 have Bel2:=Lib.hid (WStp.below HH.out.wr S2.out)
 clear h2 s2 hb2 hp2 hx2 Hbx Hbp Sab
 have Hr2:Hid ((st.right s).ok=true):=Hr
 generalize hst2:st.right s=st2 at N2 H2 Hr2
 have KS:=Lib.hid hst2
 clear hst2
 obtain ⟨b,o,rfl,hbx0,hrow⟩:=Hlr.out hl0
 obtain ⟨c,ap1,cp1,al1,cl1,hc,hcell,hcall⟩:=schild_of HH.out hbx0 hrow 0 hl0 0 0 rfl 0 0 rfl (by omega) (by omega)
 have hb1:=one_bulk HL.out hl0
 rw [← hc] at hb1
 have KL:=Lib.hid (list_one HL.out hc)
 have hkc:termK c 0=3 * c.nodes:=by unfold termK;rw [if_pos rfl];omega
 have hcb:c.bulk≤1100000:=by have:=Stm.bulk_eq s;have:=HH.out.bulk;omega
 obtain ⟨q0,q1,q2,q3,q4⟩:=hcell _ Bel2.out
 simp only [Nat.zero_mul,Nat.add_zero] at q0 q1 q2 q3 q4
 have Hcell:=Lib.hid hcell;have Hcall:=Lib.hid hcall;have Hc:=Lib.hid (And.intro hb1 hkc)
 have H2d:=Lib.hid H2.out.drew;have S2d:=Lib.hid S2.out.drew;have B2d:=Lib.hid B2.out.drew;have P2d:=Lib.hid P2.out.drew
 have hn2:st2.n+termK c 0≤49000000:=by have:=N2.out.n;have:=HH.out.n;have:=Stm.nodes_eq s;omega
 have Hn2:=Lib.hid hn2
 have hns:(toBA s.name).size≤1100000:=by rw [toBA_len];exact hnl
 clear hcell hcall hb1 hkc hn2 hrow hc
 go_upto_region 35 with fail
 have F1:=Lib.hid (show ∀ r:ByteArray,r.size≤71000000→∀ w,(Op.stringOp .add (⟨#[114,97,105,115,101,32]⟩) (r)).run Tryz.prog w= .ok (.string (⟨#[114,97,105,115,101,32]⟩ ++ r)) w from fun r hr w=>run_string_add_sum w _ _ (by ((repeat (first | rw [ByteArray.size_append] | rw [size_lit1] | rw [size_lit2] | rw [size_lit3] | rw [size_lit4] | rw [size_lit5] | rw [size_lit6] | rw [size_lit7] | rw [size_lit8]));(first | done | omega))))
 go_region_held3 (fun w'=>w'.cell? ⟨bp,0,none⟩=some (.pointer (some ⟨x,0,none⟩))∧w'.cell? ⟨bp+1,3,none⟩=some (.slice (some ⟨b,o,none⟩) s.l.length cl)∧w'.cell? ⟨b,o,none⟩=some (.string (toBA c.op))∧w'.cell? ⟨b,o+1,none⟩=some (.int .i64 c.n)∧w'.cell? ⟨b,o+2,none⟩=some (.string (toBA c.s))∧w'.cell? ⟨b,o+3,none⟩=some (.slice ap1 c.p.length cp1)∧w'.cell? ⟨b,o+4,none⟩=some (.slice al1 c.l.length cl1)) (go_keep)
  ((first
    | (go_at_call 66;(with_reducible refine (Hcall.out _ _ _ _ _ H2d.out (WStp.below HH.out.wr S2d.out) Hn2.out).mono ?_);rintro _ w8 ⟨r8,st8,rfl,hr,hn,h,s8,htw⟩;have T8:=Lib.hid htw;clear htw;have hrb8:r8.size≤71000000:=(by omega);have Hr8:=Lib.hid hr;have Hn8:=Lib.hid (N2.out.trans hn (Nat.le_refl _) (Nat.le_refl _));have H8:=Lib.hid h;have S8:=Lib.hid (S2d.out.trans s8);have B8:=Lib.hid (B2d.out.step s8);have P8:=Lib.hid (P2d.out.step s8);have f1:=F1.out r8 hrb8;have kp:=P8.out.c0;have k3:=B8.out.c3;obtain ⟨q0,q1,q2,q3,q4⟩:=Hcell.out _ (WStp.below HH.out.wr S8.out);simp only [Nat.zero_mul,Nat.add_zero] at q0 q1 q2 q3 q4;clear hr hn h s8)
    | (go_at_call 68;(with_reducible refine (wline_any H8.out (⟨#[114,97,105,115,101,32]⟩ ++ r8) (by have:=Hn8.out.inn;have:=HH.out.inn;omega) (by ((repeat (first | rw [ByteArray.size_append] | rw [size_lit1] | rw [size_lit2] | rw [size_lit3] | rw [size_lit4] | rw [size_lit5] | rw [size_lit6] | rw [size_lit7] | rw [size_lit8]));(first | done | omega))) (by have:=Hn8.out.len;have:=HH.out.len;omega)).mono ?_);rintro _ w9 ⟨p9,v9,l9,rfl,h9,s9⟩;have H9:=Lib.hid h9;have S9:=Lib.hid (S8.out.trans s9);have B9:=Lib.hid (B8.out.step s9);have P9:=Lib.hid (P8.out.step s9);have kp:=P9.out.c0;have k3:=B9.out.c3;obtain ⟨q0,q1,q2,q3,q4⟩:=Hcell.out _ (WStp.below HH.out.wr S9.out);simp only [Nat.zero_mul,Nat.add_zero] at q0 q1 q2 q3 q4;clear h9 s9)))
 all_goals
  go_wp2_with fail
  go_end0
  refine ⟨_,p9,v9,l9,rfl,Hn8.out.trans (nx_line (st:=st8) (4 * st8.inn+(⟨#[114,97,105,115,101,32]⟩ ++ r8).size+1)) ?_ ?_,⟨fun _=>Hnm.out,?_⟩,H9.out,S9.out⟩
  · have:=Stm.nodes_eq s;have:=Hc.out;omega
  · have:=Stm.bulk_eq s;have:=Hc.out;have:=Hn8.out.inn;have:=HH.out.inn;have:=Hr8.out;((repeat (first | rw [ByteArray.size_append] | rw [size_lit1] | rw [size_lit2] | rw [size_lit3] | rw [size_lit4] | rw [size_lit5] | rw [size_lit6] | rw [size_lit7] | rw [size_lit8]));(first | done | omega))
  · have h9:=line_eq (st:=st8) (m:=(⟨#[114,97,105,115,101,32]⟩ ++ r8).size) (n:=6+r8.size) (by simp only [ByteArray.size_append];rfl)
    rw [h9]
    exact SW.raise Hr.out KO.out KL.out (by rw [KS.out];exact T8.out)
set_option maxRecDepth 100000 in
set_option maxHeartbeats 20000000 in
theorem stmt_return1 {s:Stm} {deep:Nat} {w:World} {x:Nat} {st:WS} {p v:Value} {l:List UInt8} {vp vl vb ve:Value} (H:StmIn s deep w x st p v l vp vl vb ve) (hr:(st.right s).ok=true) (hk:s.kind=sReturn) (h1:s.l.length=1):
 Calls Tryz.prog 33 #[.pointer (some ⟨x,0,none⟩),.agg #[.string (toBA s.kind),.string (toBA s.name),vp,vl,vb,ve],.int .i64 (deep:Int)] w (WrPost x w st (8 * s.nodes - 1) (20000000 * s.bulk) fun st'=>(st'.ok=true→s.named)∧SW s deep st st'):=by
 have hform:=form_parts (f:=⟨false,false,-1,false,false⟩) (by rw [hk];rfl) (right_ok hr).1
 have u1:=op_is hk [101,120,112,114] (b:=false) rfl
 have u2:=op_is hk [115,101,116] (b:=false) rfl
 have u3:=op_is hk [112,117,116] (b:=false) rfl
 have u4:=op_is hk [100,101,108] (b:=false) rfl
 have u5:=op_is hk [105,102] (b:=false) rfl
 have u6:=op_is hk [119,104,105,108,101] (b:=false) rfl
 have u7:=op_is hk [102,111,114] (b:=false) rfl
 have u8:=op_is hk [100,101,102] (b:=false) rfl
 have u9:=op_is hk [116,114,121] (b:=false) rfl
 have u10:=op_is hk [114,101,116,117,114,110] (b:=true) rfl
 have t1:((s.l.length:Int) == 0)=false:=by rw [beq_eq_false_iff_ne];omega
 have hl0:0 < s.l.length:=by omega
 have hnm:=named_of hr (nil_named (hform.2.2.1 rfl)) (nil_named (hform.2.2.2.1 rfl))
 have Hnm:=Lib.hid hnm;have HL:=Lib.hid h1
 have KO:=Lib.hid hk
 clear hk hform hnm h1
 have hkl:s.kind.length≤2000000:=by have:=Stm.bulk_eq s;have:=H.bulk;omega
 have hnl:s.name.length≤1100000:=by have:=Stm.bulk_eq s;have:=H.bulk;omega
 obtain ⟨ap,cp,rfl,hpcap,hpr⟩:=H.ps
 obtain ⟨al,cl,rfl,hlcap,hlr⟩:=H.ls
 obtain ⟨ab,cb,rfl,hbr⟩:=H.bs
 obtain ⟨ae,ce,rfl,her⟩:=H.es
 obtain ⟨ha,sa,sfa⟩:=H.wr.alloc (.cells #[.pointer (some ⟨x,0,none⟩)] 73)
 obtain ⟨hb,sb,sfb⟩:=ha.alloc (.cells #[.string (toBA s.kind),.string (toBA s.name),.slice ap s.p.length cp,.slice al s.l.length cl,.slice ab s.body.length cb,.slice ae s.els.length ce] 82)
 have hbp0:BoxP (w.alloc (.cells #[.pointer (some ⟨x,0,none⟩)] 73)) x w.heap.size:=⟨heap_alloc_new w _,sfa⟩
 have hbp:=hbp0.step sb
 have hbx:BoxS _ x (w.alloc (.cells #[.pointer (some ⟨x,0,none⟩)] 73)).heap.size s ap cp al cl ab cb ae ce:=⟨heap_alloc_new _ _,sfb⟩
 have hsab:=sa.trans sb
 have hR:=right_any hb s ap al ab ae cp cl cb ce hkl hnl (H.glob.below (WStp.below H.wr hsab))
 have hhp:(w.alloc (.cells #[.pointer (some ⟨x,0,none⟩)] 73)).heap.size=w.heap.size+1:=by simp
 rw [hhp] at hbx
 have k0:=hbx.c0
 have k1:=hbx.c1
 have k2:=hbx.c2
 have k3:=hbx.c3
 have k4:=hbx.c4
 have k5:=hbx.c5
 have kp:=hbp.c0
 rw [hr] at hR
 have Hbp:=Lib.hid hbp;have Hbx:=Lib.hid hbx;have Sab:=Lib.hid hsab;have HR:=Lib.hid hR;have Hr:=Lib.hid hr;have HH:=Lib.hid H;have Hpr:=Lib.hid hpr;have Hlr:=Lib.hid hlr
 clear ha sa sfa hb sb sfb hbp0 hbp hbx hsab hR hhp hr H hpr hlr hbr her hkl
 go_enter Tryz.func33,Tryz.ntmps33
 go_wp2_with fail
 generalize (w.alloc (.cells #[.pointer (some ⟨x,0,none⟩)] 73)).alloc (.cells #[.string (toBA s.kind),.string (toBA s.name),.slice ap s.p.length cp,.slice al s.l.length cl,.slice ab s.body.length cb,.slice ae s.els.length ce] 82)=wA at HR Hbp Hbx Sab k0 k1 k2 k3 k4 k5 kp ⊢
 generalize hbpn:w.heap.size=bp at Hbp Hbx k0 k1 k2 k3 k4 k5 kp ⊢
 clear hbpn
 refine HR.out.mono ?_
 rintro _ w2 ⟨rfl,h2,s2⟩
 clear k0 k1 k2 k3 k4 k5 kp HR
 have hb2:=Hbx.out.step s2
 have hp2:=Hbp.out.step s2
 have k0:=hb2.c0
 have k1:=hb2.c1
 have k2:=hb2.c2
 have k3:=hb2.c3
 have k4:=hb2.c4
 have k5:=hb2.c5
 have kp:=hp2.c0
 have hx2:=Nx.right st s 0 0
 have B2:=Lib.hid hb2;have P2:=Lib.hid hp2;have S2:=Lib.hid (Sab.out.trans s2);have N2:=Lib.hid hx2;have H2:=Lib.hid h2
 have Bel2:=Lib.hid (WStp.below HH.out.wr S2.out)
 clear h2 s2 hb2 hp2 hx2 Hbx Hbp Sab
 have Hr2:Hid ((st.right s).ok=true):=Hr
 generalize hst2:st.right s=st2 at N2 H2 Hr2
 have KS:=Lib.hid hst2
 clear hst2
 obtain ⟨b,o,rfl,hbx0,hrow⟩:=Hlr.out hl0
 obtain ⟨c,ap1,cp1,al1,cl1,hc,hcell,hcall⟩:=schild_of HH.out hbx0 hrow 0 hl0 0 0 rfl 0 0 rfl (by omega) (by omega)
 have hb1:=one_bulk HL.out hl0
 rw [← hc] at hb1
 have KL:=Lib.hid (list_one HL.out hc)
 have hkc:termK c 0=3 * c.nodes:=by unfold termK;rw [if_pos rfl];omega
 have hcb:c.bulk≤1100000:=by have:=Stm.bulk_eq s;have:=HH.out.bulk;omega
 obtain ⟨q0,q1,q2,q3,q4⟩:=hcell _ Bel2.out
 simp only [Nat.zero_mul,Nat.add_zero] at q0 q1 q2 q3 q4
 have Hcell:=Lib.hid hcell;have Hcall:=Lib.hid hcall;have Hc:=Lib.hid (And.intro hb1 hkc)
 have H2d:=Lib.hid H2.out.drew;have S2d:=Lib.hid S2.out.drew;have B2d:=Lib.hid B2.out.drew;have P2d:=Lib.hid P2.out.drew
 have hn2:st2.n+termK c 0≤49000000:=by have:=N2.out.n;have:=HH.out.n;have:=Stm.nodes_eq s;omega
 have Hn2:=Lib.hid hn2
 have hns:(toBA s.name).size≤1100000:=by rw [toBA_len];exact hnl
 clear hcell hcall hb1 hkc hn2 hrow hc
 go_upto_region 33 with fail
 have F1:=Lib.hid (show ∀ r:ByteArray,r.size≤71000000→∀ w,(Op.stringOp .add (⟨#[114,101,116,117,114,110,32]⟩) (r)).run Tryz.prog w= .ok (.string (⟨#[114,101,116,117,114,110,32]⟩ ++ r)) w from fun r hr w=>run_string_add_sum w _ _ (by ((repeat (first | rw [ByteArray.size_append] | rw [size_lit1] | rw [size_lit2] | rw [size_lit3] | rw [size_lit4] | rw [size_lit5] | rw [size_lit6] | rw [size_lit7] | rw [size_lit8]));(first | done | omega))))
 go_region_held3 (fun w'=>w'.cell? ⟨bp,0,none⟩=some (.pointer (some ⟨x,0,none⟩))∧w'.cell? ⟨bp+1,3,none⟩=some (.slice (some ⟨b,o,none⟩) s.l.length cl)∧w'.cell? ⟨b,o,none⟩=some (.string (toBA c.op))∧w'.cell? ⟨b,o+1,none⟩=some (.int .i64 c.n)∧w'.cell? ⟨b,o+2,none⟩=some (.string (toBA c.s))∧w'.cell? ⟨b,o+3,none⟩=some (.slice ap1 c.p.length cp1)∧w'.cell? ⟨b,o+4,none⟩=some (.slice al1 c.l.length cl1)) (go_keep)
  ((first
    | (go_at_call 66;(with_reducible refine (Hcall.out _ _ _ _ _ H2d.out (WStp.below HH.out.wr S2d.out) Hn2.out).mono ?_);rintro _ w8 ⟨r8,st8,rfl,hr,hn,h,s8,htw⟩;have T8:=Lib.hid htw;clear htw;have hrb8:r8.size≤71000000:=(by omega);have Hr8:=Lib.hid hr;have Hn8:=Lib.hid (N2.out.trans hn (Nat.le_refl _) (Nat.le_refl _));have H8:=Lib.hid h;have S8:=Lib.hid (S2d.out.trans s8);have B8:=Lib.hid (B2d.out.step s8);have P8:=Lib.hid (P2d.out.step s8);have f1:=F1.out r8 hrb8;have kp:=P8.out.c0;have k3:=B8.out.c3;obtain ⟨q0,q1,q2,q3,q4⟩:=Hcell.out _ (WStp.below HH.out.wr S8.out);simp only [Nat.zero_mul,Nat.add_zero] at q0 q1 q2 q3 q4;clear hr hn h s8)
    | (go_at_call 68;(with_reducible refine (wline_any H8.out (⟨#[114,101,116,117,114,110,32]⟩ ++ r8) (by have:=Hn8.out.inn;have:=HH.out.inn;omega) (by ((repeat (first | rw [ByteArray.size_append] | rw [size_lit1] | rw [size_lit2] | rw [size_lit3] | rw [size_lit4] | rw [size_lit5] | rw [size_lit6] | rw [size_lit7] | rw [size_lit8]));(first | done | omega))) (by have:=Hn8.out.len;have:=HH.out.len;omega)).mono ?_);rintro _ w9 ⟨p9,v9,l9,rfl,h9,s9⟩;have H9:=Lib.hid h9;have S9:=Lib.hid (S8.out.trans s9);have B9:=Lib.hid (B8.out.step s9);have P9:=Lib.hid (P8.out.step s9);have kp:=P9.out.c0;have k3:=B9.out.c3;obtain ⟨q0,q1,q2,q3,q4⟩:=Hcell.out _ (WStp.below HH.out.wr S9.out);simp only [Nat.zero_mul,Nat.add_zero] at q0 q1 q2 q3 q4;clear h9 s9)))
 all_goals
  go_wp2_with fail
  go_end0
  refine ⟨_,p9,v9,l9,rfl,Hn8.out.trans (nx_line (st:=st8) (4 * st8.inn+(⟨#[114,101,116,117,114,110,32]⟩ ++ r8).size+1)) ?_ ?_,⟨fun _=>Hnm.out,?_⟩,H9.out,S9.out⟩
  · have:=Stm.nodes_eq s;have:=Hc.out;omega
  · have:=Stm.bulk_eq s;have:=Hc.out;have:=Hn8.out.inn;have:=HH.out.inn;have:=Hr8.out;((repeat (first | rw [ByteArray.size_append] | rw [size_lit1] | rw [size_lit2] | rw [size_lit3] | rw [size_lit4] | rw [size_lit5] | rw [size_lit6] | rw [size_lit7] | rw [size_lit8]));(first | done | omega))
  · have h9:=line_eq (st:=st8) (m:=(⟨#[114,101,116,117,114,110,32]⟩ ++ r8).size) (n:=7+r8.size) (by simp only [ByteArray.size_append];rfl)
    rw [h9]
    exact SW.return1 Hr.out KO.out KL.out (by rw [KS.out];exact T8.out)
end Go.Proofs.YtdoaeapahgmfoaaGreatDoor
