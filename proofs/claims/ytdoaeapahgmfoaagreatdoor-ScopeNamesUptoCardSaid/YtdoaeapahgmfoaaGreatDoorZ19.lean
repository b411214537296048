/- The writer's term: calls. -/
import Derived.Test.YtdoaeapahgmfoaaGreatDoorZ16
namespace Go.Proofs.YtdoaeapahgmfoaaGreatDoor
open Go.RowKit
theorem exSlice_tail {w:World} {b o n cl:Nat} (h1:1≤n):(Instr.slice 80 (.slice (some ⟨b,o,none⟩) n cl) (some (.int .i64 1)) none none).run Tryz.prog w= .ok (.slice (if cl=1 then some ⟨b,o,none⟩ else some ⟨b,o+5,none⟩) (n - 1) (cl - 1)) w:=by
 have h3:(1:Int)≤(n:Int):=by omega
 have hz:∀ w,(Go.sizeOf 140).run Tryz.prog w= .ok 5 w:=fun _=>by kernel_rfl
 simp [Instr.slice,Instr.sliceBounds,Instr.sliceBound,asIntOf,run_underlying Tryz.underlying80,h3,hz,Addr.add]
theorem tail_list {f:Nat} (hf:TermC f) {e:Ex} {least deep:Nat} {w:World} {x:Nat} {st:WS} {p v:Value} {l:List UInt8} {vp vl:Value} (H:TermIn e least deep w x st p v l vp vl) (hfe:termK e least≤f+1) {b o cl:Nat} (hb:Lo x b) (hrow:ExRow w (Lo x) e.l b o) (hcap:e.l.length≤cl) (h0:0 < e.l.length):
 ∃ (t:List Ex) (A:Option Addr),(∀ w,(Instr.slice 80 (.slice (some ⟨b,o,none⟩) e.l.length cl) (some (.int .i64 1)) none none).run Tryz.prog w= .ok (.slice A (e.l.length - 1) (cl - 1)) w)∧
   (exsBulk e.l=e.l[0].bulk+exsBulk t∧exsNodes e.l=e.l[0].nodes+exsNodes t)∧e.l=e.l[0] :: t∧
   ∀ (W:World) (st4:WS),WrC W x st4 p v l→Below x w W→st4.n+3 * exsNodes t≤50000000→
     Calls Tryz.prog 107 #[.pointer (some ⟨x,0,none⟩),.slice A (e.l.length - 1) (cl - 1),.int .i64 ((deep:Int)+1)] W (TextPost x W st4 p v l (64 * exsBulk t) (3 * exsNodes t) fun n st'=>∃ ns,n=joinLen ns∧LW t (deep+1) st4 ns st'):=by
 have hnl:=Ex.nodes_l e
 have hbe:=Ex.bulk_eq e
 have hwe:=Ex.w_eq e
 have hk1:=termK_le e least
 have hde:=H.deepB
 have hbk:=H.bulk
 have hwt:=H.wt
 have hft:=((Ex.fit_eq e).1 H.fit).2
 revert h0 hcap hrow hnl hbe hwe hft
 generalize e.l=L
 intro hrow hcap h0 hnl hbe hwe hft
 rcases L with _ | ⟨c,t⟩
 · simp at h0
 refine ⟨t,if cl=1 then some ⟨b,o,none⟩ else some ⟨b,o+5,none⟩,fun w=>exSlice_tail h0,⟨rfl,rfl⟩,rfl,fun W st4 h4 hW hn=> ?_⟩
 simp only [List.length_cons] at hcap
 have e1:(c :: t).length - 1=t.length:=by simp
 rw [e1]
 have h1:exsBulk (c :: t)=c.bulk+exsBulk t:=rfl
 have h2:exsNodes (c :: t)=c.nodes+exsNodes t:=rfl
 have h3:exsW (c :: t)=c.w+exsW t:=rfl
 unfold exsFit at hft
 unfold ExRow at hrow
 have hx:ExsAt w (Lo x) (.slice (if cl=1 then some ⟨b,o,none⟩ else some ⟨b,o+5,none⟩) t.length (cl - 1)) t:=⟨_,_,rfl,by omega,fun hp=>⟨b,o+5,by rw [if_neg (by omega)],hb,hrow.2⟩⟩
 exact list_of hf h4 t _ (deep+1) (hx.below hW) (fun a ha=>by have:=exs_mem ha;omega) hft.2 (by omega) (by omega) (by omega) (by omega) (H.glob.below hW)
set_option maxRecDepth 100000 in
set_option maxHeartbeats 20000000 in
theorem term_call {f:Nat} (hf:TermC f) {e:Ex} {least deep:Nat} {w:World} {x:Nat} {st:WS} {p v:Value} {l:List UInt8} {vp vl:Value} (H:TermIn e least deep w x st p v l vp vl) (hfe:termK e least≤f+1) (hok:st.look.ok=true) (hk:¬ rankL e.op < least)(hop:e.op=oCall):
 Calls Tryz.prog 66 #[.pointer (some ⟨x,0,none⟩),.agg #[.string (toBA e.op),.int .i64 e.n,.string (toBA e.s),vp,vl],.int .i64 (least:Int),.int .i64 (deep:Int)] w (TextPost x w st p v l (64 * e.bulk - 8) (termK e least) (TW e least deep st)):=by
 have t1:decide (rankL e.op < least)=false:=by rw [decide_eq_false_iff_not];exact hk
 have u1:=op_is hop [105,110,116] (b:=false) rfl
 have u2:=op_is hop [115,116,114] (b:=false) rfl
 have u3:=op_is hop [110,97,109,101] (b:=false) rfl
 have u4:=op_is hop [78,111,110,101] (b:=false) rfl
 have u5:=op_is hop [84,114,117,101] (b:=false) rfl
 have u6:=op_is hop [70,97,108,115,101] (b:=false) rfl
 have u7:=op_is hop [110,101,103] (b:=false) rfl
 have u8:=op_is hop [110,111,116] (b:=false) rfl
 have u9:=op_is hop [99,97,108,108] (b:=true) rfl
 have KOK:=Lib.hid hok;have KK:=Lib.hid hk;have KO:=Lib.hid hop
 clear hop hk
 have hokm:∀ b,(st.look.must b).ok=b:=fun b=>by show (st.look.ok && b)=b;rw [hok];rfl
 have HF:=Lib.hid hf;have HFE:=Lib.hid hfe
 clear hf hfe
 have hn0:st.n≤50000000:=by have:=H.n;omega
 obtain ⟨ap,cp,rfl,hpcap,hpr⟩:=H.ps
 obtain ⟨al,cl,rfl,hlcap,hlr⟩:=H.ls
 have hal:=H.wr.alloc (.cells #[.string (toBA e.op),.int .i64 e.n,.string (toBA e.s),.slice ap e.p.length cp,.slice al e.l.length cl] 140)
 have hbx:BoxE (w.alloc (.cells #[.string (toBA e.op),.int .i64 e.n,.string (toBA e.s),.slice ap e.p.length cp,.slice al e.l.length cl] 140)) x w.heap.size e ap cp al cl:=⟨heap_alloc_new w _,hal.2.2⟩
 have hlook:=look_any hal.1 (show st.n≤100000000 by omega)
 have Hal:=Lib.hid hal;have Hbx:=Lib.hid hbx;have Hl:=Lib.hid hlr;have Hp:=Lib.hid hpr;have HH:=Lib.hid H
 have hbulk:=H.bulk
 have hleast:=H.leastB
 have hdeep:=H.deepB
 rw [hok] at hlook
 have Hlook:=Lib.hid hlook
 clear hlook hal hbx hlr hpr H hok
 go_enter Tryz.func66,Tryz.ntmps66
 go_wp2_with fail
 generalize w.alloc (.cells #[.string (toBA e.op),.int .i64 e.n,.string (toBA e.s),.slice ap e.p.length cp,.slice al e.l.length cl] 140)=wA at Hlook Hal Hbx ⊢
 generalize hbxn:w.heap.size=bx at Hbx ⊢
 clear hbxn
 refine Hlook.out.mono ?_
 rintro _ w1 ⟨rfl,h1,s1⟩
 have hb1:=Hbx.out.step s1
 have hs1:=Hal.out.2.1.trans s1
 clear Hlook
 have k0:=hb1.c0
 have hgl1:=HH.out.glob.below (WStp.below HH.out.wr hs1)
 have hrank:=rank_any (w:=w1) e.op hgl1
 have Hrank:=Lib.hid hrank;have Hb1:=Lib.hid hb1;have H1:=Lib.hid h1;have S1:=Lib.hid hs1;have Hgl1:=Lib.hid hgl1
 clear hrank hb1 h1 hs1 hgl1
 go_wp2_with fail
 refine Hrank.out.mono ?_
 rintro _ w2 ⟨rfl,rfl⟩
 clear Hrank
 have k1:=Hb1.out.c1
 have k2:=Hb1.out.c2
 have k3:=Hb1.out.c3
 have k4:=Hb1.out.c4
 go_wp2_with fail
 refine (bare_any w1 e ap al cp cl false false false none).mono ?_
 rintro _ w2 ⟨rfl,hb2⟩
 obtain ⟨h2,s2⟩:=H1.out.grow hb2
 have hb2:=Hb1.out.step s2
 have hs2:=S1.out.trans s2
 clear k0 k1 k2 k3 k4
 have k0:=hb2.c0
 have k1:=hb2.c1
 have k2:=hb2.c2
 have k3:=hb2.c3
 have k4:=hb2.c4
 have H2:=Lib.hid h2;have B2:=Lib.hid hb2;have S2:=Lib.hid hs2
 clear h2 hb2 hs2 s2
 rcases hbr:bareL e false false false none with _ | _
 · skip
   have hmust:=must_any H2.out false
   have Hmust:=Lib.hid hmust
   clear hmust
   go_wp2_with fail
   refine Hmust.out.mono ?_
   rintro _ w3 ⟨rfl,h3,s3⟩
   have hb3:=B2.out.step s3
   have hs3:=S2.out.trans s3
   clear k0 k1 k2 k3 k4 Hmust
   have k0:=hb3.c0
   have k1:=hb3.c1
   have k2:=hb3.c2
   have k3:=hb3.c3
   have k4:=hb3.c4
   have H3:=Lib.hid h3;have B3:=Lib.hid hb3;have S3:=Lib.hid hs3
   clear h3 hb3 hs3 s3
   have k5:=H3.out.c4
   rw [hokm false] at k5
   go_wp2_with fail
   refine bodyPost_ret (results_tmp rfl _ _ _) rfl ?_
   exact ⟨_,_,rfl,Nat.zero_le _,((Nx.look st 0 0).trans (Nx.must st.look false 0 0) (Nat.le_refl _) (Nat.le_refl _)).mono (by unfold termK;have:=Ex.nodes_l e;omega) (Nat.le_refl _),H3.out,S3.out,(TW.callBad KOK.out KK.out KO.out (by rw [hbr];rfl))⟩
 have KB:=Lib.hid hbr
 clear hbr
 by_cases h0:0 < e.l.length
 rotate_left
 · have g1:decide (0 < e.l.length)=false:=by rw [decide_eq_false_iff_not];exact h0
   have g2:decide ((0:Int) < (e.l.length:Int))=false:=by rw [decide_eq_false_iff_not];omega
   have hmust:=must_any H2.out false
   have Hmust:=Lib.hid hmust
   clear hmust
   go_wp2_with fail
   refine Hmust.out.mono ?_
   rintro _ w3 ⟨rfl,h3,s3⟩
   have hb3:=B2.out.step s3
   have hs3:=S2.out.trans s3
   clear k0 k1 k2 k3 k4 Hmust
   have k0:=hb3.c0
   have k1:=hb3.c1
   have k2:=hb3.c2
   have k3:=hb3.c3
   have k4:=hb3.c4
   have H3:=Lib.hid h3;have B3:=Lib.hid hb3;have S3:=Lib.hid hs3
   clear h3 hb3 hs3 s3
   have k5:=H3.out.c4
   rw [hokm false] at k5
   go_wp2_with fail
   refine bodyPost_ret (results_tmp rfl _ _ _) rfl ?_
   exact ⟨_,_,rfl,Nat.zero_le _,((Nx.look st 0 0).trans (Nx.must st.look false 0 0) (Nat.le_refl _) (Nat.le_refl _)).mono (by unfold termK;have:=Ex.nodes_l e;omega) (Nat.le_refl _),H3.out,S3.out,(TW.callBad KOK.out KK.out KO.out (by rw [decide_eq_false h0,Bool.and_false]))⟩
 have g1:decide (0 < e.l.length)=true:=by rw [decide_eq_true_iff];exact h0
 have g2:decide ((0:Int) < (e.l.length:Int))=true:=by rw [decide_eq_true_iff];omega
 have g3:(0:Int) < (e.l.length:Int):=by omega
 obtain ⟨b,o,rfl,hbx0,hrow⟩:=Hl.out h0
 obtain ⟨c,ap1,cp1,al1,cl1,hc,hch⟩:=child_of HF.out HH.out HFE.out hbx0 hrow 0 h0 8 8 (by rfl) deep (deep:Int) rfl (by omega) (by omega)
 obtain ⟨t,A,hsl,hb1,hel,hL2⟩:=tail_list HF.out HH.out HFE.out hbx0 hrow hlcap h0
 rw [← hc] at hb1 hel
 have KL:=Lib.hid hel;have K0:=Lib.hid h0
 clear hel
 obtain ⟨hd1,hd2⟩:=hch
 have HB1:=Lib.hid hb1;have HD1:=Lib.hid hd1;have HD2:=Lib.hid hd2;have HL2:=Lib.hid hL2;have HSL:=Lib.hid hsl
 have hb2:=hb1
 clear hb1 hc hd1 hd2 hrow hL2 hsl
 have hmust:=must_any H2.out true
 have Hmust:=Lib.hid hmust
 clear hmust
 go_wp2_with fail
 refine Hmust.out.mono ?_
 rintro _ w3 ⟨rfl,h3,s3⟩
 have hb3:=B2.out.step s3
 have hs3:=S2.out.trans s3
 clear k0 k1 k2 k3 k4 Hmust
 have k0:=hb3.c0
 have k1:=hb3.c1
 have k2:=hb3.c2
 have k3:=hb3.c3
 have k4:=hb3.c4
 have H3:=Lib.hid h3;have B3:=Lib.hid hb3;have S3:=Lib.hid hs3
 clear h3 hb3 hs3 s3
 have k5:=H3.out.c4
 rw [hokm true] at k5
 obtain ⟨q0,q1,q2,q3,q4⟩:=HD1.out _ (WStp.below HH.out.wr S3.out)
 simp only [Nat.zero_mul,Nat.add_zero] at q0 q1 q2 q3 q4
 have hn4:(st.look.must true).n+termK c 8≤st.n+termK e least:=by
  show st.n+1+termK c 8≤st.n+termK e least
  have:=termK_le c 8;have:=termK_le e least;have:=Ex.nodes_l e;omega
 have hcb:c.bulk≤1100000:=by have:=Ex.bulk_eq e;omega
 have hcb':exsBulk t≤1100000:=by have:=Ex.bulk_eq e;omega
 have Hn4:=Lib.hid hn4
 clear hn4 hb2
 go_wp2_with fail
 refine (HD2.out _ _ H3.out (WStp.below HH.out.wr S3.out) Hn4.out).mono ?_
 rintro _ w5 ⟨r5,st5,rfl,hr,hn,h,s,htw⟩
 have T5:=Lib.hid htw;have hrb5:r5.size≤71000000:=(by omega);have Hr5:=Lib.hid hr;have Hn5:=Lib.hid hn;have H5:=Lib.hid h;have S5:=Lib.hid s;clear hr hn h s htw
 have S6:=Lib.hid (S3.out.trans S5.out)
 have hn6:(st5.deeper deep).n+3 * exsNodes t≤50000000:=by
  show st5.n+3 * exsNodes t≤50000000
  have h9:=Hn5.out.n
  have h8:(st.look.must true).n=st.n+1:=rfl
  have:=HB1.out
  have:=HH.out.n
  have:=termK_le c 8;have:=termK_le e least;have:=Ex.nodes_l e;omega
 have HnL:=Lib.hid hn6
 have H5d:=Lib.hid H5.out.drew;have S5d:=Lib.hid S6.out.drew;have B5:=Lib.hid (B3.out.step S5.out).drew
 clear k0 k1 k2 k3 k4 k5 q0 q1 q2 q3 q4 hn6
 have k4:=(B3.out.step S5.out).c4
 have hsl:=HSL.out
 go_upto_region 35 with fail
 go_region_with ((first
  | (go_at_call 67;(with_reducible refine (deeper_any H5d.out deep (by omega)).mono ?_);rintro _ w7 ⟨rfl,h7,s7⟩;have S7:=Lib.hid (S5d.out.trans s7);have k4:=(B5.out.step s7).c4;have H7:=Lib.hid h7;clear h7 s7)
  | (go_at_call 107;(with_reducible refine (HL2.out _ _ H7.out (WStp.below HH.out.wr S7.out) HnL.out).mono ?_);rintro _ w8 ⟨r8,st8,rfl,hr,hn,h,s,htw⟩;have T8:=Lib.hid htw;have hrb8:r8.size≤71000000:=(by omega);have Hr8:=Lib.hid hr;have Hn8:=Lib.hid hn;have H8:=Lib.hid h;have S8:=Lib.hid s;clear hr hn h s htw)))
 all_goals
  go_wp2_with fail
  refine bodyPost_ret (results_tmp rfl _ _ _) rfl ?_
  refine ⟨_,st8,rfl,?_,?_,H8.out,S7.out.trans S8.out,?_⟩
  · rw [ByteArray.size_append,ByteArray.size_append,ByteArray.size_append]
    have:=Hr8.out
    have:=Hr5.out
    have:=Ex.bulk_pos c
    have:=Ex.bulk_eq e
    have:=HB1.out
    show r5.size+1+r8.size+1≤_
    omega
  · refine ((((Nx.look st 0 0).trans (Nx.must st.look true 0 0) (Nat.le_refl _) (Nat.le_refl _)).trans Hn5.out (Nat.le_refl _) (Nat.le_refl _)).trans (Nx.deeper _ deep 0 0) (Nat.le_refl _) (Nat.le_refl _)).trans Hn8.out ?_ (Nat.le_refl _)
    have:=HB1.out
    have:=termK_le c 8;have:=termK_le e least;have:=Ex.nodes_l e;omega
  · obtain ⟨ns,hns,hlw⟩:=T8.out
    have h9:=TW.call KOK.out KK.out KO.out (by rw [KB.out,decide_eq_true K0.out];rfl) KL.out T5.out hlw
    rw [← hns] at h9
    rw [ByteArray.size_append,ByteArray.size_append,ByteArray.size_append]
    exact h9
end Go.Proofs.YtdoaeapahgmfoaaGreatDoor
