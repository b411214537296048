/- The writer's term: operators, of level four. The writer's term: operators. -/
import Derived.Test.YtdoaeapahgmfoaaGreatDoorZ16
namespace Go.Proofs.YtdoaeapahgmfoaaGreatDoor
open Go.RowKit
structure NW (op:List UInt8):Prop where
 w1:op≠oInt
 w2:op≠oStr
 w3:op≠oName
 w4:op≠oNone
 w5:op≠oTrue
 w6:op≠oFalse
 w7:op≠oNeg
 w8:op≠oNot
 w9:op≠oCall
 w10:op≠oIndex
 w11:op≠oList
 w12:op≠oDict
 w13:op≠oLambda
theorem NW.no {o:List UInt8} (h:NW o):NoWord o:=⟨h.w1,h.w2,h.w3,fun e=>e.elim h.w4 fun e=>e.elim h.w5 h.w6,fun e=>e.elim h.w7 h.w8,h.w9,h.w10,h.w11,h.w12,h.w13⟩
set_option maxRecDepth 100000 in
set_option maxHeartbeats 20000000 in
theorem term_bin4 {f:Nat} (hf:TermC f) {e:Ex} {least deep:Nat} {w:World} {x:Nat} {st:WS} {p v:Value} {l:List UInt8} {vp vl:Value} (H:TermIn e least deep w x st p v l vp vl) (hfe:termK e least≤f+1) (hok:st.look.ok=true) (hk:¬ rankL e.op < least)(hop:NW e.op) (hf4:rankL e.op=4):
 Calls Tryz.prog 66 #[.pointer (some ⟨x,0,none⟩),.agg #[.string (toBA e.op),.int .i64 e.n,.string (toBA e.s),vp,vl],.int .i64 (least:Int),.int .i64 (deep:Int)] w (TextPost x w st p v l (64 * e.bulk - 8) (termK e least) (TW e least deep st)):=by
 have t1:decide (rankL e.op < least)=false:=by rw [decide_eq_false_iff_not];exact hk
 have u1:((toBA e.op).toList == [105,110,116])=false:=m_ne (hop.w1)
 have u2:((toBA e.op).toList == [115,116,114])=false:=m_ne (hop.w2)
 have u3:((toBA e.op).toList == [110,97,109,101])=false:=m_ne (hop.w3)
 have u4:((toBA e.op).toList == [78,111,110,101])=false:=m_ne (hop.w4)
 have u5:((toBA e.op).toList == [84,114,117,101])=false:=m_ne (hop.w5)
 have u6:((toBA e.op).toList == [70,97,108,115,101])=false:=m_ne (hop.w6)
 have u7:((toBA e.op).toList == [110,101,103])=false:=m_ne (hop.w7)
 have u8:((toBA e.op).toList == [110,111,116])=false:=m_ne (hop.w8)
 have u9:((toBA e.op).toList == [99,97,108,108])=false:=m_ne (hop.w9)
 have u10:((toBA e.op).toList == [105,110,100,101,120])=false:=m_ne (hop.w10)
 have u11:((toBA e.op).toList == [108,105,115,116])=false:=m_ne (hop.w11)
 have u12:((toBA e.op).toList == [100,105,99,116])=false:=m_ne (hop.w12)
 have u13:((toBA e.op).toList == [108,97,109,98,100,97])=false:=m_ne (hop.w13)
 have KOK:=Lib.hid hok;have KK:=Lib.hid hk;have KO:=Lib.hid hop.no
 clear hop hk
 have hokm:∀ b,(st.look.must b).ok=b:=fun b=>by show (st.look.ok && b)=b;rw [hok];rfl
 have HF:=Lib.hid hf;have HFE:=Lib.hid hfe
 clear hf hfe
 have hn0:st.n≤50000000:=by have:=H.n;omega
 obtain ⟨ap,cp,rfl,hpcap,hpr⟩:=H.ps
 obtain ⟨al,cl,rfl,hlcap,hlr⟩:=H.ls
 have hal:=H.wr.alloc (.cells #[.string (toBA e.op),.int .i64 e.n,.string (toBA e.s),.slice ap e.p.length cp,.slice al e.l.length cl] 140)
 have hbx:BoxE (w.alloc (.cells #[.string (toBA e.op),.int .i64 e.n,.string (toBA e.s),.slice ap e.p.length cp,.slice al e.l.length cl] 140)) x w.heap.size e ap cp al cl:=⟨heap_alloc_new w _,hal.2.2⟩
 have hlook:=look_any hal.1 (show st.n≤100000000 by omega)
 have Hal:=Lib.hid hal;have Hbx:=Lib.hid hbx;have Hl:=Lib.hid hlr;have Hp:=Lib.hid hpr;have HH:=Lib.hid H
 have hbulk:=H.bulk
 have hleast:=H.leastB
 have hdeep:=H.deepB
 rw [hok] at hlook
 have Hlook:=Lib.hid hlook
 clear hlook hal hbx hlr hpr H hok
 go_enter Tryz.func66,Tryz.ntmps66
 go_wp2_with fail
 generalize w.alloc (.cells #[.string (toBA e.op),.int .i64 e.n,.string (toBA e.s),.slice ap e.p.length cp,.slice al e.l.length cl] 140)=wA at Hlook Hal Hbx ⊢
 generalize hbxn:w.heap.size=bx at Hbx ⊢
 clear hbxn
 refine Hlook.out.mono ?_
 rintro _ w1 ⟨rfl,h1,s1⟩
 have hb1:=Hbx.out.step s1
 have hs1:=Hal.out.2.1.trans s1
 clear Hlook
 have k0:=hb1.c0
 have hgl1:=HH.out.glob.below (WStp.below HH.out.wr hs1)
 have hrank:=rank_any (w:=w1) e.op hgl1
 have Hrank:=Lib.hid hrank;have Hb1:=Lib.hid hb1;have H1:=Lib.hid h1;have S1:=Lib.hid hs1;have Hgl1:=Lib.hid hgl1
 clear hrank hb1 h1 hs1 hgl1
 go_wp2_with fail
 refine Hrank.out.mono ?_
 rintro _ w2 ⟨rfl,rfl⟩
 clear Hrank
 have k1:=Hb1.out.c1
 have k2:=Hb1.out.c2
 have k3:=Hb1.out.c3
 have k4:=Hb1.out.c4
 have hK8:=rankL_le e.op
 generalize hKr:rankL e.op=K at t1 hK8 hf4 ⊢
 subst hf4
 have KR:=Lib.hid hKr
 clear hKr
 have t2:decide ((4:Int) < (least:Int))=false:=by rw [decide_eq_false_iff_not] at t1 ⊢;omega
 go_wp2_with fail
 refine (bare_any w1 e ap al cp cl false false false (some 2)).mono ?_
 rintro _ w2 ⟨rfl,hb2⟩
 obtain ⟨h2,s2⟩:=H1.out.grow hb2
 have hb2:=Hb1.out.step s2
 have hs2:=S1.out.trans s2
 clear k0 k1 k2 k3 k4
 have k0:=hb2.c0
 have k1:=hb2.c1
 have k2:=hb2.c2
 have k3:=hb2.c3
 have k4:=hb2.c4
 have H2:=Lib.hid h2;have B2:=Lib.hid hb2;have S2:=Lib.hid hs2
 clear h2 hb2 hs2 s2
 rcases hbr:bareL e false false false (some 2) with _ | _
 · skip
   have hmust:=must_any H2.out false
   have Hmust:=Lib.hid hmust
   clear hmust
   go_wp2_with fail
   refine Hmust.out.mono ?_
   rintro _ w3 ⟨rfl,h3,s3⟩
   have hb3:=B2.out.step s3
   have hs3:=S2.out.trans s3
   clear k0 k1 k2 k3 k4 Hmust
   have k0:=hb3.c0
   have k1:=hb3.c1
   have k2:=hb3.c2
   have k3:=hb3.c3
   have k4:=hb3.c4
   have H3:=Lib.hid h3;have B3:=Lib.hid hb3;have S3:=Lib.hid hs3
   clear h3 hb3 hs3 s3
   have k5:=H3.out.c4
   rw [hokm false] at k5
   go_wp2_with fail
   refine bodyPost_ret (results_tmp rfl _ _ _) rfl ?_
   exact ⟨_,_,rfl,Nat.zero_le _,((Nx.look st 0 0).trans (Nx.must st.look false 0 0) (Nat.le_refl _) (Nat.le_refl _)).mono (by unfold termK;have:=Ex.nodes_l e;omega) (Nat.le_refl _),H3.out,S3.out,(TW.binBad KOK.out KK.out KO.out (by rw [KR.out,hbr,Bool.and_false]))⟩
 · have h1:=bare_parts hbr
   have hb1:=two_bulk h1 (by omega) (by omega)
   obtain ⟨b,o,rfl,hbx0,hrow⟩:=Hl.out (by omega)
   obtain ⟨c,ap1,cp1,al1,cl1,hc,hch⟩:=child_of HF.out HH.out HFE.out hbx0 hrow 0 (by omega) (5) (5) (by rfl) deep (deep:Int) rfl (by omega) (by omega)
   obtain ⟨c',ap2,cp2,al2,cl2,hc',hch'⟩:=child_of HF.out HH.out HFE.out hbx0 hrow 1 (by omega) 5 5 (by rfl) deep (deep:Int) rfl (by omega) (by omega)
   rw [← hc,← hc'] at hb1
   obtain ⟨hd1,hd2⟩:=hch
   obtain ⟨hc1,hc2⟩:=hch'
   have HB1:=Lib.hid hb1;have HD1:=Lib.hid hd1;have HD2:=Lib.hid hd2;have HC1:=Lib.hid hc1;have HC2:=Lib.hid hc2;have KB:=Lib.hid hbr;have KL:=Lib.hid (list_two h1 hc hc')
   have hb2:=hb1
   clear hb1 hc hc' hc1 hc2 hd1 hd2 hrow hbr
   have hmust:=must_any H2.out true
   have Hmust:=Lib.hid hmust
   clear hmust
   go_wp2_with fail
   refine Hmust.out.mono ?_
   rintro _ w3 ⟨rfl,h3,s3⟩
   have hb3:=B2.out.step s3
   have hs3:=S2.out.trans s3
   clear k0 k1 k2 k3 k4 Hmust
   have k0:=hb3.c0
   have k1:=hb3.c1
   have k2:=hb3.c2
   have k3:=hb3.c3
   have k4:=hb3.c4
   have H3:=Lib.hid h3;have B3:=Lib.hid hb3;have S3:=Lib.hid hs3
   clear h3 hb3 hs3 s3
   have k5:=H3.out.c4
   rw [hokm true] at k5
   obtain ⟨q0,q1,q2,q3,q4⟩:=HD1.out _ (WStp.below HH.out.wr S3.out)
   simp only [Nat.zero_mul,Nat.add_zero] at q0 q1 q2 q3 q4
   rw [h1] at k4
   have hn4:(st.look.must true).n+termK c (5)≤st.n+termK e least:=by
    show st.n+1+termK c (5)≤st.n+termK e least
    have:=termK_le c (5);have:=termK_le e least;have:=Ex.nodes_l e;omega
   have hcb:c.bulk≤1100000:=by have:=Ex.bulk_eq e;omega
   have hcb':c'.bulk≤1100000:=by have:=Ex.bulk_eq e;omega
   have hopb:(toBA e.op).size≤1100000:=by rw [toBA_len];have:=Ex.bulk_eq e;omega
   have hopb2:e.op.length≤1100000:=by have:=Ex.bulk_eq e;omega
   have Hn4:=Lib.hid hn4
   clear hn4 hb2
   go_wp2_with fail
   (with_reducible refine (HD2.out _ _ H3.out (WStp.below HH.out.wr S3.out) Hn4.out).mono ?_);rintro _ w5 ⟨r5,st5,rfl,hr,hn,h,s,htw⟩;have T5:=Lib.hid htw;have hrb5:r5.size≤71000000:=(by omega);have Hr5:=Lib.hid hr;have Hn5:=Lib.hid hn;have H5:=Lib.hid h;have S5:=Lib.hid s;clear hr hn h s htw
   have S6:=Lib.hid (S3.out.trans S5.out)
   have hn6:st5.n+termK c' 5≤st.n+termK e least:=by
    have h9:=Hn5.out.n
    have h8:(st.look.must true).n=st.n+1:=rfl
    have:=HB1.out
    have:=termK_le c (5);have:=termK_le c' 5;have:=termK_le e least;have:=Ex.nodes_l e;omega
   have Hn6:=Lib.hid hn6
   have H5d:=Lib.hid H5.out.drew;have S5d:=Lib.hid S6.out.drew
   clear k0 k1 k2 k3 k4 k5 q0 q1 q2 q3 q4 hn6
   have k4:=(B3.out.step S5.out).c4
   have k0:=(B3.out.step S5.out).c0
   rw [h1] at k4
   obtain ⟨q0,q1,q2,q3,q4⟩:=HC1.out _ (WStp.below HH.out.wr S6.out)
   simp only [Nat.one_mul,Nat.add_assoc,Nat.reduceAdd] at q0 q1 q2 q3 q4
   have e1:IntKind.i64.wrap (5:Int)=5:=IntWalk.i64_in _ (by omega)
   go_upto_region 72 with fail
   have f1:∀ w,(Op.stringOp .add r5 ⟨#[32]⟩).run Tryz.prog w= .ok (.string (r5 ++ ⟨#[32]⟩)) w:=fun w=>run_string_add_sum w _ _ (by show r5.size+1≤_;omega)
   have f2:∀ w,(Op.stringOp .add (r5 ++ ⟨#[32]⟩) (toBA e.op)).run Tryz.prog w= .ok (.string (r5 ++ ⟨#[32]⟩ ++ toBA e.op)) w:=fun w=>run_string_add_sum w _ _ (by rw [ByteArray.size_append];show r5.size+1+_≤_;omega)
   have f3:∀ w,(Op.stringOp .add (r5 ++ ⟨#[32]⟩ ++ toBA e.op) ⟨#[32]⟩).run Tryz.prog w= .ok (.string (r5 ++ ⟨#[32]⟩ ++ toBA e.op ++ ⟨#[32]⟩)) w:=fun w=>run_string_add_sum w _ _ (by rw [ByteArray.size_append,ByteArray.size_append];show r5.size+1+_+1≤_;omega)
   have f4:∀ r:ByteArray,r.size≤71000000→∀ w,(Op.stringOp .add (r5 ++ ⟨#[32]⟩ ++ toBA e.op ++ ⟨#[32]⟩) r).run Tryz.prog w= .ok (.string (r5 ++ ⟨#[32]⟩ ++ toBA e.op ++ ⟨#[32]⟩ ++ r)) w:=fun r hr w=>run_string_add_sum w _ _ (by rw [ByteArray.size_append,ByteArray.size_append,ByteArray.size_append];show r5.size+1+_+1+_≤_;omega)
   have F4:=Lib.hid f4
   clear f4
   go_region_held3 (fun w'=>w'.cell? ⟨bx,0,none⟩=some (.string (toBA e.op))∧w'.cell? ⟨bx,4,none⟩=some (.slice (some ⟨b,o,none⟩) 2 cl)∧w'.cell? ⟨b,o+5,none⟩=some (.string (toBA c'.op))∧w'.cell? ⟨b,o+6,none⟩=some (.int .i64 c'.n)∧w'.cell? ⟨b,o+7,none⟩=some (.string (toBA c'.s))∧w'.cell? ⟨b,o+8,none⟩=some (.slice ap2 c'.p.length cp2)∧w'.cell? ⟨b,o+9,none⟩=some (.slice al2 c'.l.length cl2)) (go_keep)
    ((go_at_call 66;(with_reducible refine (HC2.out _ _ H5d.out (WStp.below HH.out.wr S5d.out) Hn6.out).mono ?_);rintro _ w8 ⟨r8,st8,rfl,hr,hn,h,s,htw⟩;have T8:=Lib.hid htw;clear htw;have hrb8:r8.size≤71000000:=(by omega);have Hr8:=Lib.hid hr;have Hn8:=Lib.hid hn;have H8:=Lib.hid h;have S8:=Lib.hid s;have B8:=Lib.hid ((B3.out.step S5.out).drew.step s);have f5:=F4.out r8 hrb8;have k0:=B8.out.c0;have k4:=B8.out.c4;rw [h1] at k4;obtain ⟨q0,q1,q2,q3,q4⟩:=HC1.out _ (WStp.below HH.out.wr (S5d.out.trans s));simp only [Nat.one_mul,Nat.add_assoc,Nat.reduceAdd] at q0 q1 q2 q3 q4;clear hr hn h s))
   all_goals
    go_wp2_with fail
    refine bodyPost_ret (results_tmp rfl _ _ _) rfl ?_
    refine ⟨_,st8,rfl,?_,?_,H8.out,S5d.out.trans S8.out,?_⟩
    · rw [ByteArray.size_append,ByteArray.size_append,ByteArray.size_append,ByteArray.size_append,toBA_len]
      have:=Hr8.out
      have:=Hr5.out
      have:=Ex.bulk_pos c
      have:=Ex.bulk_pos c'
      have:=Ex.bulk_eq e
      have:=HB1.out
      show r5.size+1+e.op.length+1+r8.size≤_
      omega
    · refine (((Nx.look st 0 0).trans (Nx.must st.look true 0 0) (Nat.le_refl _) (Nat.le_refl _)).trans Hn5.out (Nat.le_refl _) (Nat.le_refl _)).trans Hn8.out ?_ (Nat.le_refl _)
      have:=HB1.out
      have:=termK_le c (5);have:=termK_le c' 5;have:=termK_le e least;have:=Ex.nodes_l e;omega
    · have h9:=TW.bin KOK.out KK.out KO.out (by rw [KR.out,KB.out];rfl) KL.out (n:=r5.size) (m:=r8.size) (st1:=st5) (st2:=st8) (by rw [KR.out,if_pos rfl];exact T5.out) (by rw [KR.out];exact T8.out)
      rw [ByteArray.size_append,ByteArray.size_append,ByteArray.size_append,ByteArray.size_append,toBA_len]
      exact h9
end Go.Proofs.YtdoaeapahgmfoaaGreatDoor
namespace Go.Proofs.YtdoaeapahgmfoaaGreatDoor
open Go.RowKit
set_option maxRecDepth 100000 in
set_option maxHeartbeats 20000000 in
theorem term_binK {f:Nat} (hf:TermC f) {e:Ex} {least deep:Nat} {w:World} {x:Nat} {st:WS} {p v:Value} {l:List UInt8} {vp vl:Value} (H:TermIn e least deep w x st p v l vp vl) (hfe:termK e least≤f+1) (hok:st.look.ok=true) (hk:¬ rankL e.op < least)(hop:NW e.op) (hf4:rankL e.op≠4):
 Calls Tryz.prog 66 #[.pointer (some ⟨x,0,none⟩),.agg #[.string (toBA e.op),.int .i64 e.n,.string (toBA e.s),vp,vl],.int .i64 (least:Int),.int .i64 (deep:Int)] w (TextPost x w st p v l (64 * e.bulk - 8) (termK e least) (TW e least deep st)):=by
 have t1:decide (rankL e.op < least)=false:=by rw [decide_eq_false_iff_not];exact hk
 have u1:((toBA e.op).toList == [105,110,116])=false:=m_ne (hop.w1)
 have u2:((toBA e.op).toList == [115,116,114])=false:=m_ne (hop.w2)
 have u3:((toBA e.op).toList == [110,97,109,101])=false:=m_ne (hop.w3)
 have u4:((toBA e.op).toList == [78,111,110,101])=false:=m_ne (hop.w4)
 have u5:((toBA e.op).toList == [84,114,117,101])=false:=m_ne (hop.w5)
 have u6:((toBA e.op).toList == [70,97,108,115,101])=false:=m_ne (hop.w6)
 have u7:((toBA e.op).toList == [110,101,103])=false:=m_ne (hop.w7)
 have u8:((toBA e.op).toList == [110,111,116])=false:=m_ne (hop.w8)
 have u9:((toBA e.op).toList == [99,97,108,108])=false:=m_ne (hop.w9)
 have u10:((toBA e.op).toList == [105,110,100,101,120])=false:=m_ne (hop.w10)
 have u11:((toBA e.op).toList == [108,105,115,116])=false:=m_ne (hop.w11)
 have u12:((toBA e.op).toList == [100,105,99,116])=false:=m_ne (hop.w12)
 have u13:((toBA e.op).toList == [108,97,109,98,100,97])=false:=m_ne (hop.w13)
 have KOK:=Lib.hid hok;have KK:=Lib.hid hk;have KO:=Lib.hid hop.no
 clear hop hk
 have hokm:∀ b,(st.look.must b).ok=b:=fun b=>by show (st.look.ok && b)=b;rw [hok];rfl
 have HF:=Lib.hid hf;have HFE:=Lib.hid hfe
 clear hf hfe
 have hn0:st.n≤50000000:=by have:=H.n;omega
 obtain ⟨ap,cp,rfl,hpcap,hpr⟩:=H.ps
 obtain ⟨al,cl,rfl,hlcap,hlr⟩:=H.ls
 have hal:=H.wr.alloc (.cells #[.string (toBA e.op),.int .i64 e.n,.string (toBA e.s),.slice ap e.p.length cp,.slice al e.l.length cl] 140)
 have hbx:BoxE (w.alloc (.cells #[.string (toBA e.op),.int .i64 e.n,.string (toBA e.s),.slice ap e.p.length cp,.slice al e.l.length cl] 140)) x w.heap.size e ap cp al cl:=⟨heap_alloc_new w _,hal.2.2⟩
 have hlook:=look_any hal.1 (show st.n≤100000000 by omega)
 have Hal:=Lib.hid hal;have Hbx:=Lib.hid hbx;have Hl:=Lib.hid hlr;have Hp:=Lib.hid hpr;have HH:=Lib.hid H
 have hbulk:=H.bulk
 have hleast:=H.leastB
 have hdeep:=H.deepB
 rw [hok] at hlook
 have Hlook:=Lib.hid hlook
 clear hlook hal hbx hlr hpr H hok
 go_enter Tryz.func66,Tryz.ntmps66
 go_wp2_with fail
 generalize w.alloc (.cells #[.string (toBA e.op),.int .i64 e.n,.string (toBA e.s),.slice ap e.p.length cp,.slice al e.l.length cl] 140)=wA at Hlook Hal Hbx ⊢
 generalize hbxn:w.heap.size=bx at Hbx ⊢
 clear hbxn
 refine Hlook.out.mono ?_
 rintro _ w1 ⟨rfl,h1,s1⟩
 have hb1:=Hbx.out.step s1
 have hs1:=Hal.out.2.1.trans s1
 clear Hlook
 have k0:=hb1.c0
 have hgl1:=HH.out.glob.below (WStp.below HH.out.wr hs1)
 have hrank:=rank_any (w:=w1) e.op hgl1
 have Hrank:=Lib.hid hrank;have Hb1:=Lib.hid hb1;have H1:=Lib.hid h1;have S1:=Lib.hid hs1;have Hgl1:=Lib.hid hgl1
 clear hrank hb1 h1 hs1 hgl1
 go_wp2_with fail
 refine Hrank.out.mono ?_
 rintro _ w2 ⟨rfl,rfl⟩
 clear Hrank
 have k1:=Hb1.out.c1
 have k2:=Hb1.out.c2
 have k3:=Hb1.out.c3
 have k4:=Hb1.out.c4
 have hK8:=rankL_le e.op
 generalize hKr:rankL e.op=K at t1 hK8 hf4 ⊢
 have KR:=Lib.hid hKr
 clear hKr
 by_cases hk1:1≤K
 rotate_left
 · have a1:decide ((1:Int)≤(K:Int))=false:=by rw [decide_eq_false_iff_not];omega
   have a2:decide (0 < K)=false:=by rw [decide_eq_false_iff_not];omega
   have a3:decide (1≤K)=false:=by rw [decide_eq_false_iff_not];omega
   have H2:=H1;have B2:=Hb1;have S2:=S1
   have hmust:=must_any H2.out false
   have Hmust:=Lib.hid hmust
   clear hmust
   go_wp2_with fail
   refine Hmust.out.mono ?_
   rintro _ w3 ⟨rfl,h3,s3⟩
   have hb3:=B2.out.step s3
   have hs3:=S2.out.trans s3
   clear k0 k1 k2 k3 k4 Hmust
   have k0:=hb3.c0
   have k1:=hb3.c1
   have k2:=hb3.c2
   have k3:=hb3.c3
   have k4:=hb3.c4
   have H3:=Lib.hid h3;have B3:=Lib.hid hb3;have S3:=Lib.hid hs3
   clear h3 hb3 hs3 s3
   have k5:=H3.out.c4
   rw [hokm false] at k5
   go_wp2_with fail
   refine bodyPost_ret (results_tmp rfl _ _ _) rfl ?_
   exact ⟨_,_,rfl,Nat.zero_le _,((Nx.look st 0 0).trans (Nx.must st.look false 0 0) (Nat.le_refl _) (Nat.le_refl _)).mono (by unfold termK;have:=Ex.nodes_l e;omega) (Nat.le_refl _),H3.out,S3.out,(TW.binBad KOK.out KK.out KO.out (by rw [KR.out,decide_eq_false hk1];rfl))⟩
 by_cases hk6:K≤6
 rotate_left
 · have a1:decide ((1:Int)≤(K:Int))=true:=by rw [decide_eq_true_iff];omega
   have a2:decide (0 < K)=true:=by rw [decide_eq_true_iff];omega
   have a3:decide (1≤K)=true:=by rw [decide_eq_true_iff];omega
   have b1:decide ((K:Int)≤6)=false:=by rw [decide_eq_false_iff_not];omega
   have b2:decide (K≤6)=false:=by rw [decide_eq_false_iff_not];omega
   have H2:=H1;have B2:=Hb1;have S2:=S1
   have hmust:=must_any H2.out false
   have Hmust:=Lib.hid hmust
   clear hmust
   go_wp2_with fail
   refine Hmust.out.mono ?_
   rintro _ w3 ⟨rfl,h3,s3⟩
   have hb3:=B2.out.step s3
   have hs3:=S2.out.trans s3
   clear k0 k1 k2 k3 k4 Hmust
   have k0:=hb3.c0
   have k1:=hb3.c1
   have k2:=hb3.c2
   have k3:=hb3.c3
   have k4:=hb3.c4
   have H3:=Lib.hid h3;have B3:=Lib.hid hb3;have S3:=Lib.hid hs3
   clear h3 hb3 hs3 s3
   have k5:=H3.out.c4
   rw [hokm false] at k5
   go_wp2_with fail
   refine bodyPost_ret (results_tmp rfl _ _ _) rfl ?_
   exact ⟨_,_,rfl,Nat.zero_le _,((Nx.look st 0 0).trans (Nx.must st.look false 0 0) (Nat.le_refl _) (Nat.le_refl _)).mono (by unfold termK;have:=Ex.nodes_l e;omega) (Nat.le_refl _),H3.out,S3.out,(TW.binBad KOK.out KK.out KO.out (by rw [KR.out,decide_eq_true hk1,decide_eq_false hk6];rfl))⟩
 have a1:decide ((1:Int)≤(K:Int))=true:=by rw [decide_eq_true_iff];omega
 have a2:decide (0 < K)=true:=by rw [decide_eq_true_iff];omega
 have a3:decide (1≤K)=true:=by rw [decide_eq_true_iff];omega
 have b1:decide ((K:Int)≤6)=true:=by rw [decide_eq_true_iff];omega
 have b2:decide (K≤6)=true:=by rw [decide_eq_true_iff];omega
 have d1:((K:Int) == 4)=false:=by rw [beq_eq_false_iff_ne];omega
 have d2:(K == 4)=false:=by rw [beq_eq_false_iff_ne];exact hf4
 go_wp2_with fail
 refine (bare_any w1 e ap al cp cl false false false (some 2)).mono ?_
 rintro _ w2 ⟨rfl,hb2⟩
 obtain ⟨h2,s2⟩:=H1.out.grow hb2
 have hb2:=Hb1.out.step s2
 have hs2:=S1.out.trans s2
 clear k0 k1 k2 k3 k4
 have k0:=hb2.c0
 have k1:=hb2.c1
 have k2:=hb2.c2
 have k3:=hb2.c3
 have k4:=hb2.c4
 have H2:=Lib.hid h2;have B2:=Lib.hid hb2;have S2:=Lib.hid hs2
 clear h2 hb2 hs2 s2
 rcases hbr:bareL e false false false (some 2) with _ | _
 · skip
   have hmust:=must_any H2.out false
   have Hmust:=Lib.hid hmust
   clear hmust
   go_wp2_with fail
   refine Hmust.out.mono ?_
   rintro _ w3 ⟨rfl,h3,s3⟩
   have hb3:=B2.out.step s3
   have hs3:=S2.out.trans s3
   clear k0 k1 k2 k3 k4 Hmust
   have k0:=hb3.c0
   have k1:=hb3.c1
   have k2:=hb3.c2
   have k3:=hb3.c3
   have k4:=hb3.c4
   have H3:=Lib.hid h3;have B3:=Lib.hid hb3;have S3:=Lib.hid hs3
   clear h3 hb3 hs3 s3
   have k5:=H3.out.c4
   rw [hokm false] at k5
   go_wp2_with fail
   refine bodyPost_ret (results_tmp rfl _ _ _) rfl ?_
   exact ⟨_,_,rfl,Nat.zero_le _,((Nx.look st 0 0).trans (Nx.must st.look false 0 0) (Nat.le_refl _) (Nat.le_refl _)).mono (by unfold termK;have:=Ex.nodes_l e;omega) (Nat.le_refl _),H3.out,S3.out,(TW.binBad KOK.out KK.out KO.out (by rw [KR.out,hbr,Bool.and_false]))⟩
 · have h1:=bare_parts hbr
   have hb1:=two_bulk h1 (by omega) (by omega)
   obtain ⟨b,o,rfl,hbx0,hrow⟩:=Hl.out (by omega)
   obtain ⟨c,ap1,cp1,al1,cl1,hc,hch⟩:=child_of HF.out HH.out HFE.out hbx0 hrow 0 (by omega) (K) ((K:Int)) (by rfl) deep (deep:Int) rfl (by omega) (by omega)
   obtain ⟨c',ap2,cp2,al2,cl2,hc',hch'⟩:=child_of HF.out HH.out HFE.out hbx0 hrow 1 (by omega) (K+1) ((K:Int)+1) (by omega) deep (deep:Int) rfl (by omega) (by omega)
   rw [← hc,← hc'] at hb1
   obtain ⟨hd1,hd2⟩:=hch
   obtain ⟨hc1,hc2⟩:=hch'
   have HB1:=Lib.hid hb1;have HD1:=Lib.hid hd1;have HD2:=Lib.hid hd2;have HC1:=Lib.hid hc1;have HC2:=Lib.hid hc2;have KB:=Lib.hid hbr;have KL:=Lib.hid (list_two h1 hc hc')
   have hb2:=hb1
   clear hb1 hc hc' hc1 hc2 hd1 hd2 hrow hbr
   have hmust:=must_any H2.out true
   have Hmust:=Lib.hid hmust
   clear hmust
   go_wp2_with fail
   refine Hmust.out.mono ?_
   rintro _ w3 ⟨rfl,h3,s3⟩
   have hb3:=B2.out.step s3
   have hs3:=S2.out.trans s3
   clear k0 k1 k2 k3 k4 Hmust
   have k0:=hb3.c0
   have k1:=hb3.c1
   have k2:=hb3.c2
   have k3:=hb3.c3
   have k4:=hb3.c4
   have H3:=Lib.hid h3;have B3:=Lib.hid hb3;have S3:=Lib.hid hs3
   clear h3 hb3 hs3 s3
   have k5:=H3.out.c4
   rw [hokm true] at k5
   obtain ⟨q0,q1,q2,q3,q4⟩:=HD1.out _ (WStp.below HH.out.wr S3.out)
   simp only [Nat.zero_mul,Nat.add_zero] at q0 q1 q2 q3 q4
   rw [h1] at k4
   have hn4:(st.look.must true).n+termK c (K)≤st.n+termK e least:=by
    show st.n+1+termK c (K)≤st.n+termK e least
    have:=termK_le c (K);have:=termK_le e least;have:=Ex.nodes_l e;omega
   have hcb:c.bulk≤1100000:=by have:=Ex.bulk_eq e;omega
   have hcb':c'.bulk≤1100000:=by have:=Ex.bulk_eq e;omega
   have hopb:(toBA e.op).size≤1100000:=by rw [toBA_len];have:=Ex.bulk_eq e;omega
   have hopb2:e.op.length≤1100000:=by have:=Ex.bulk_eq e;omega
   have Hn4:=Lib.hid hn4
   clear hn4 hb2
   go_wp2_with fail
   (with_reducible refine (HD2.out _ _ H3.out (WStp.below HH.out.wr S3.out) Hn4.out).mono ?_);rintro _ w5 ⟨r5,st5,rfl,hr,hn,h,s,htw⟩;have T5:=Lib.hid htw;have hrb5:r5.size≤71000000:=(by omega);have Hr5:=Lib.hid hr;have Hn5:=Lib.hid hn;have H5:=Lib.hid h;have S5:=Lib.hid s;clear hr hn h s htw
   have S6:=Lib.hid (S3.out.trans S5.out)
   have hn6:st5.n+termK c' (K+1)≤st.n+termK e least:=by
    have h9:=Hn5.out.n
    have h8:(st.look.must true).n=st.n+1:=rfl
    have:=HB1.out
    have:=termK_le c (K);have:=termK_le c' (K+1);have:=termK_le e least;have:=Ex.nodes_l e;omega
   have Hn6:=Lib.hid hn6
   have H5d:=Lib.hid H5.out.drew;have S5d:=Lib.hid S6.out.drew
   clear k0 k1 k2 k3 k4 k5 q0 q1 q2 q3 q4 hn6
   have k4:=(B3.out.step S5.out).c4
   have k0:=(B3.out.step S5.out).c0
   rw [h1] at k4
   obtain ⟨q0,q1,q2,q3,q4⟩:=HC1.out _ (WStp.below HH.out.wr S6.out)
   simp only [Nat.one_mul,Nat.add_assoc,Nat.reduceAdd] at q0 q1 q2 q3 q4
   have e1:IntKind.i64.wrap ((K:Int)+1)=(K:Int)+1:=IntWalk.i64_in _ (by omega)
   go_upto_region 72 with fail
   have f1:∀ w,(Op.stringOp .add r5 ⟨#[32]⟩).run Tryz.prog w= .ok (.string (r5 ++ ⟨#[32]⟩)) w:=fun w=>run_string_add_sum w _ _ (by show r5.size+1≤_;omega)
   have f2:∀ w,(Op.stringOp .add (r5 ++ ⟨#[32]⟩) (toBA e.op)).run Tryz.prog w= .ok (.string (r5 ++ ⟨#[32]⟩ ++ toBA e.op)) w:=fun w=>run_string_add_sum w _ _ (by rw [ByteArray.size_append];show r5.size+1+_≤_;omega)
   have f3:∀ w,(Op.stringOp .add (r5 ++ ⟨#[32]⟩ ++ toBA e.op) ⟨#[32]⟩).run Tryz.prog w= .ok (.string (r5 ++ ⟨#[32]⟩ ++ toBA e.op ++ ⟨#[32]⟩)) w:=fun w=>run_string_add_sum w _ _ (by rw [ByteArray.size_append,ByteArray.size_append];show r5.size+1+_+1≤_;omega)
   have f4:∀ r:ByteArray,r.size≤71000000→∀ w,(Op.stringOp .add (r5 ++ ⟨#[32]⟩ ++ toBA e.op ++ ⟨#[32]⟩) r).run Tryz.prog w= .ok (.string (r5 ++ ⟨#[32]⟩ ++ toBA e.op ++ ⟨#[32]⟩ ++ r)) w:=fun r hr w=>run_string_add_sum w _ _ (by rw [ByteArray.size_append,ByteArray.size_append,ByteArray.size_append];show r5.size+1+_+1+_≤_;omega)
   have F4:=Lib.hid f4
   clear f4
   go_region_held3 (fun w'=>w'.cell? ⟨bx,0,none⟩=some (.string (toBA e.op))∧w'.cell? ⟨bx,4,none⟩=some (.slice (some ⟨b,o,none⟩) 2 cl)∧w'.cell? ⟨b,o+5,none⟩=some (.string (toBA c'.op))∧w'.cell? ⟨b,o+6,none⟩=some (.int .i64 c'.n)∧w'.cell? ⟨b,o+7,none⟩=some (.string (toBA c'.s))∧w'.cell? ⟨b,o+8,none⟩=some (.slice ap2 c'.p.length cp2)∧w'.cell? ⟨b,o+9,none⟩=some (.slice al2 c'.l.length cl2)) (go_keep)
    ((go_at_call 66;(with_reducible refine (HC2.out _ _ H5d.out (WStp.below HH.out.wr S5d.out) Hn6.out).mono ?_);rintro _ w8 ⟨r8,st8,rfl,hr,hn,h,s,htw⟩;have T8:=Lib.hid htw;clear htw;have hrb8:r8.size≤71000000:=(by omega);have Hr8:=Lib.hid hr;have Hn8:=Lib.hid hn;have H8:=Lib.hid h;have S8:=Lib.hid s;have B8:=Lib.hid ((B3.out.step S5.out).drew.step s);have f5:=F4.out r8 hrb8;have k0:=B8.out.c0;have k4:=B8.out.c4;rw [h1] at k4;obtain ⟨q0,q1,q2,q3,q4⟩:=HC1.out _ (WStp.below HH.out.wr (S5d.out.trans s));simp only [Nat.one_mul,Nat.add_assoc,Nat.reduceAdd] at q0 q1 q2 q3 q4;clear hr hn h s))
   all_goals
    go_wp2_with fail
    refine bodyPost_ret (results_tmp rfl _ _ _) rfl ?_
    refine ⟨_,st8,rfl,?_,?_,H8.out,S5d.out.trans S8.out,?_⟩
    · rw [ByteArray.size_append,ByteArray.size_append,ByteArray.size_append,ByteArray.size_append,toBA_len]
      have:=Hr8.out
      have:=Hr5.out
      have:=Ex.bulk_pos c
      have:=Ex.bulk_pos c'
      have:=Ex.bulk_eq e
      have:=HB1.out
      show r5.size+1+e.op.length+1+r8.size≤_
      omega
    · refine (((Nx.look st 0 0).trans (Nx.must st.look true 0 0) (Nat.le_refl _) (Nat.le_refl _)).trans Hn5.out (Nat.le_refl _) (Nat.le_refl _)).trans Hn8.out ?_ (Nat.le_refl _)
      have:=HB1.out
      have:=termK_le c (K);have:=termK_le c' (K+1);have:=termK_le e least;have:=Ex.nodes_l e;omega
    · have h9:=TW.bin KOK.out KK.out KO.out (by rw [KR.out,KB.out];rw [decide_eq_true hk1,decide_eq_true hk6];rfl) KL.out (n:=r5.size) (m:=r8.size) (st1:=st5) (st2:=st8) (by rw [KR.out,if_neg hf4];exact T5.out) (by rw [KR.out];exact T8.out)
      rw [ByteArray.size_append,ByteArray.size_append,ByteArray.size_append,ByteArray.size_append,toBA_len]
      exact h9
end Go.Proofs.YtdoaeapahgmfoaaGreatDoor
