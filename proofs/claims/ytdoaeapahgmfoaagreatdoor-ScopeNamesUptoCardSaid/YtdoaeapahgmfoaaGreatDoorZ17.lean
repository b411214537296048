/- The writer's term: index. -/
import Derived.Test.YtdoaeapahgmfoaaGreatDoorZ16
namespace Go.Proofs.YtdoaeapahgmfoaaGreatDoor
open Go.RowKit
set_option maxRecDepth 100000 in
set_option maxHeartbeats 20000000 in
theorem term_index {f:Nat} (hf:TermC f) {e:Ex} {least deep:Nat} {w:World} {x:Nat} {st:WS} {p v:Value} {l:List UInt8} {vp vl:Value} (H:TermIn e least deep w x st p v l vp vl) (hfe:termK e least≤f+1) (hok:st.look.ok=true) (hk:¬ rankL e.op < least)(hop:e.op=oIndex):
 Calls Tryz.prog 66 #[.pointer (some ⟨x,0,none⟩),.agg #[.string (toBA e.op),.int .i64 e.n,.string (toBA e.s),vp,vl],.int .i64 (least:Int),.int .i64 (deep:Int)] w (TextPost x w st p v l (64 * e.bulk - 8) (termK e least) (TW e least deep st)):=by
 have t1:decide (rankL e.op < least)=false:=by rw [decide_eq_false_iff_not];exact hk
 have u1:=op_is hop [105,110,116] (b:=false) rfl
 have u2:=op_is hop [115,116,114] (b:=false) rfl
 have u3:=op_is hop [110,97,109,101] (b:=false) rfl
 have u4:=op_is hop [78,111,110,101] (b:=false) rfl
 have u5:=op_is hop [84,114,117,101] (b:=false) rfl
 have u6:=op_is hop [70,97,108,115,101] (b:=false) rfl
 have u7:=op_is hop [110,101,103] (b:=false) rfl
 have u8:=op_is hop [110,111,116] (b:=false) rfl
 have u9:=op_is hop [99,97,108,108] (b:=false) rfl
 have u10:=op_is hop [105,110,100,101,120] (b:=true) rfl
 have KOK:=Lib.hid hok;have KK:=Lib.hid hk;have KO:=Lib.hid hop
 clear hop hk
 have hokm:∀ b,(st.look.must b).ok=b:=fun b=>by show (st.look.ok && b)=b;rw [hok];rfl
 have HF:=Lib.hid hf;have HFE:=Lib.hid hfe
 clear hf hfe
 have hn0:st.n≤50000000:=by have:=H.n;omega
 obtain ⟨ap,cp,rfl,hpcap,hpr⟩:=H.ps
 obtain ⟨al,cl,rfl,hlcap,hlr⟩:=H.ls
 have hal:=H.wr.alloc (.cells #[.string (toBA e.op),.int .i64 e.n,.string (toBA e.s),.slice ap e.p.length cp,.slice al e.l.length cl] 140)
 have hbx:BoxE (w.alloc (.cells #[.string (toBA e.op),.int .i64 e.n,.string (toBA e.s),.slice ap e.p.length cp,.slice al e.l.length cl] 140)) x w.heap.size e ap cp al cl:=⟨heap_alloc_new w _,hal.2.2⟩
 have hlook:=look_any hal.1 (show st.n≤100000000 by omega)
 have Hal:=Lib.hid hal;have Hbx:=Lib.hid hbx;have Hl:=Lib.hid hlr;have Hp:=Lib.hid hpr;have HH:=Lib.hid H
 have hbulk:=H.bulk
 have hleast:=H.leastB
 have hdeep:=H.deepB
 rw [hok] at hlook
 have Hlook:=Lib.hid hlook
 clear hlook hal hbx hlr hpr H hok
 go_enter Tryz.func66,Tryz.ntmps66
 go_wp2_with fail
 generalize w.alloc (.cells #[.string (toBA e.op),.int .i64 e.n,.string (toBA e.s),.slice ap e.p.length cp,.slice al e.l.length cl] 140)=wA at Hlook Hal Hbx ⊢
 generalize hbxn:w.heap.size=bx at Hbx ⊢
 clear hbxn
 refine Hlook.out.mono ?_
 rintro _ w1 ⟨rfl,h1,s1⟩
 have hb1:=Hbx.out.step s1
 have hs1:=Hal.out.2.1.trans s1
 clear Hlook
 have k0:=hb1.c0
 have hgl1:=HH.out.glob.below (WStp.below HH.out.wr hs1)
 have hrank:=rank_any (w:=w1) e.op hgl1
 have Hrank:=Lib.hid hrank;have Hb1:=Lib.hid hb1;have H1:=Lib.hid h1;have S1:=Lib.hid hs1;have Hgl1:=Lib.hid hgl1
 clear hrank hb1 h1 hs1 hgl1
 go_wp2_with fail
 refine Hrank.out.mono ?_
 rintro _ w2 ⟨rfl,rfl⟩
 clear Hrank
 have k1:=Hb1.out.c1
 have k2:=Hb1.out.c2
 have k3:=Hb1.out.c3
 have k4:=Hb1.out.c4
 go_wp2_with fail
 refine (bare_any w1 e ap al cp cl false false false (some 2)).mono ?_
 rintro _ w2 ⟨rfl,hb2⟩
 obtain ⟨h2,s2⟩:=H1.out.grow hb2
 have hb2:=Hb1.out.step s2
 have hs2:=S1.out.trans s2
 clear k0 k1 k2 k3 k4
 have k0:=hb2.c0
 have k1:=hb2.c1
 have k2:=hb2.c2
 have k3:=hb2.c3
 have k4:=hb2.c4
 have H2:=Lib.hid h2;have B2:=Lib.hid hb2;have S2:=Lib.hid hs2
 clear h2 hb2 hs2 s2
 rcases hbr:bareL e false false false (some 2) with _ | _
 · skip
   have hmust:=must_any H2.out false
   have Hmust:=Lib.hid hmust
   clear hmust
   go_wp2_with fail
   refine Hmust.out.mono ?_
   rintro _ w3 ⟨rfl,h3,s3⟩
   have hb3:=B2.out.step s3
   have hs3:=S2.out.trans s3
   clear k0 k1 k2 k3 k4 Hmust
   have k0:=hb3.c0
   have k1:=hb3.c1
   have k2:=hb3.c2
   have k3:=hb3.c3
   have k4:=hb3.c4
   have H3:=Lib.hid h3;have B3:=Lib.hid hb3;have S3:=Lib.hid hs3
   clear h3 hb3 hs3 s3
   have k5:=H3.out.c4
   rw [hokm false] at k5
   go_wp2_with fail
   refine bodyPost_ret (results_tmp rfl _ _ _) rfl ?_
   exact ⟨_,_,rfl,Nat.zero_le _,((Nx.look st 0 0).trans (Nx.must st.look false 0 0) (Nat.le_refl _) (Nat.le_refl _)).mono (by unfold termK;have:=Ex.nodes_l e;omega) (Nat.le_refl _),H3.out,S3.out,(TW.indexBad KOK.out KK.out KO.out hbr)⟩
 · have h1:=bare_parts hbr
   have hb1:=two_bulk h1 (by omega) (by omega)
   obtain ⟨b,o,rfl,hbx0,hrow⟩:=Hl.out (by omega)
   obtain ⟨c,ap1,cp1,al1,cl1,hc,hch⟩:=child_of HF.out HH.out HFE.out hbx0 hrow 0 (by omega) 8 8 (by rfl) deep (deep:Int) rfl (by omega) (by omega)
   obtain ⟨c',ap2,cp2,al2,cl2,hc',hch'⟩:=child_of HF.out HH.out HFE.out hbx0 hrow 1 (by omega) 0 0 (by rfl) (deep+1) ((deep:Int)+1) (by omega) (by omega) (Nat.le_refl _)
   rw [← hc,← hc'] at hb1
   obtain ⟨hd1,hd2⟩:=hch
   obtain ⟨hc1,hc2⟩:=hch'
   have HB1:=Lib.hid hb1;have HD1:=Lib.hid hd1;have HD2:=Lib.hid hd2;have HC1:=Lib.hid hc1;have HC2:=Lib.hid hc2;have KB:=Lib.hid hbr;have KL:=Lib.hid (list_two h1 hc hc')
   have hb2:=hb1
   clear hb1 hc hc' hc1 hc2 hd1 hd2 hrow hbr
   have hmust:=must_any H2.out true
   have Hmust:=Lib.hid hmust
   clear hmust
   go_wp2_with fail
   refine Hmust.out.mono ?_
   rintro _ w3 ⟨rfl,h3,s3⟩
   have hb3:=B2.out.step s3
   have hs3:=S2.out.trans s3
   clear k0 k1 k2 k3 k4 Hmust
   have k0:=hb3.c0
   have k1:=hb3.c1
   have k2:=hb3.c2
   have k3:=hb3.c3
   have k4:=hb3.c4
   have H3:=Lib.hid h3;have B3:=Lib.hid hb3;have S3:=Lib.hid hs3
   clear h3 hb3 hs3 s3
   have k5:=H3.out.c4
   rw [hokm true] at k5
   obtain ⟨q0,q1,q2,q3,q4⟩:=HD1.out _ (WStp.below HH.out.wr S3.out)
   simp only [Nat.zero_mul,Nat.add_zero] at q0 q1 q2 q3 q4
   rw [h1] at k4
   have hn4:(st.look.must true).n+termK c 8≤st.n+termK e least:=by
    show st.n+1+termK c 8≤st.n+termK e least
    have:=termK_le c 8;have:=termK_le e least;have:=Ex.nodes_l e;omega
   have hcb:c.bulk≤1100000:=by have:=Ex.bulk_eq e;omega
   have hcb':c'.bulk≤1100000:=by have:=Ex.bulk_eq e;omega
   have Hn4:=Lib.hid hn4
   clear hn4 hb2
   go_wp2_with fail
   (with_reducible refine (HD2.out _ _ H3.out (WStp.below HH.out.wr S3.out) Hn4.out).mono ?_);rintro _ w5 ⟨r5,st5,rfl,hr,hn,h,s,htw⟩;have T5:=Lib.hid htw;have hrb5:r5.size≤71000000:=(by omega);have Hr5:=Lib.hid hr;have Hn5:=Lib.hid hn;have H5:=Lib.hid h;have S5:=Lib.hid s;clear hr hn h s htw
   have S6:=Lib.hid (S3.out.trans S5.out)
   have hn6:(st5.deeper deep).n+termK c' 0≤st.n+termK e least:=by
    show st5.n+termK c' 0≤st.n+termK e least
    have h9:=Hn5.out.n
    have h8:(st.look.must true).n=st.n+1:=rfl
    have:=HB1.out
    have:=termK_le c 8;have:=termK_le c' 0;have:=termK_le e least;have:=Ex.nodes_l e;omega
   have Hn6:=Lib.hid hn6
   have H5d:=Lib.hid H5.out.drew;have S5d:=Lib.hid S6.out.drew;have B5:=Lib.hid (B3.out.step S5.out).drew
   clear k0 k1 k2 k3 k4 k5 q0 q1 q2 q3 q4 hn6
   have k4:=(B3.out.step S5.out).c4
   rw [h1] at k4
   obtain ⟨q0,q1,q2,q3,q4⟩:=HC1.out _ (WStp.below HH.out.wr S6.out)
   simp only [Nat.one_mul,Nat.add_assoc,Nat.reduceAdd] at q0 q1 q2 q3 q4
   go_upto_region 41 with fail
   go_region_with ((first
    | (go_at_call 67;(with_reducible refine (deeper_any H5d.out deep (by omega)).mono ?_);rintro _ w7 ⟨rfl,h7,s7⟩;have S7:=Lib.hid (S5d.out.trans s7);have k4:=(B5.out.step s7).c4;rw [h1] at k4;obtain ⟨q0,q1,q2,q3,q4⟩:=HC1.out _ (WStp.below HH.out.wr S7.out);simp only [Nat.one_mul,Nat.add_assoc,Nat.reduceAdd] at q0 q1 q2 q3 q4;have H7:=Lib.hid h7;clear h7 s7)
    | (go_at_call 66;(with_reducible refine (HC2.out _ _ H7.out (WStp.below HH.out.wr S7.out) Hn6.out).mono ?_);rintro _ w8 ⟨r8,st8,rfl,hr,hn,h,s,htw⟩;have T8:=Lib.hid htw;have hrb8:r8.size≤71000000:=(by omega);have Hr8:=Lib.hid hr;have Hn8:=Lib.hid hn;have H8:=Lib.hid h;have S8:=Lib.hid s;clear hr hn h s htw)))
   all_goals
    go_wp2_with fail
    refine bodyPost_ret (results_tmp rfl _ _ _) rfl ?_
    refine ⟨_,st8,rfl,?_,?_,H8.out,S7.out.trans S8.out,?_⟩
    · rw [ByteArray.size_append,ByteArray.size_append,ByteArray.size_append]
      have:=Hr8.out
      have:=Hr5.out
      have:=Ex.bulk_pos c
      have:=Ex.bulk_pos c'
      have:=Ex.bulk_eq e
      have:=HB1.out
      show r5.size+1+r8.size+1≤_
      omega
    · refine ((((Nx.look st 0 0).trans (Nx.must st.look true 0 0) (Nat.le_refl _) (Nat.le_refl _)).trans Hn5.out (Nat.le_refl _) (Nat.le_refl _)).trans (Nx.deeper _ deep 0 0) (Nat.le_refl _) (Nat.le_refl _)).trans Hn8.out ?_ (Nat.le_refl _)
      have:=HB1.out
      have:=termK_le c 8;have:=termK_le c' 0;have:=termK_le e least;have:=Ex.nodes_l e;omega
    · have h9:=TW.index KOK.out KK.out KO.out KB.out KL.out T5.out T8.out
      rw [ByteArray.size_append,ByteArray.size_append,ByteArray.size_append]
      exact h9
end Go.Proofs.YtdoaeapahgmfoaaGreatDoor
