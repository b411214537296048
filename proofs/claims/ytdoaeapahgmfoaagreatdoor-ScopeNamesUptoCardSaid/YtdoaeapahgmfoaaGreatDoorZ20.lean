/- The writer's term: lists. -/
import Derived.Test.YtdoaeapahgmfoaaGreatDoorZ16
namespace Go.Proofs.YtdoaeapahgmfoaaGreatDoor
open Go.RowKit
set_option maxRecDepth 100000 in
set_option maxHeartbeats 20000000 in
theorem term_list {f:Nat} (hf:TermC f) {e:Ex} {least deep:Nat} {w:World} {x:Nat} {st:WS} {p v:Value} {l:List UInt8} {vp vl:Value} (H:TermIn e least deep w x st p v l vp vl) (hfe:termK e least≤f+1) (hok:st.look.ok=true) (hk:¬ rankL e.op < least)(hop:e.op=oList):
 Calls Tryz.prog 66 #[.pointer (some ⟨x,0,none⟩),.agg #[.string (toBA e.op),.int .i64 e.n,.string (toBA e.s),vp,vl],.int .i64 (least:Int),.int .i64 (deep:Int)] w (TextPost x w st p v l (64 * e.bulk - 8) (termK e least) (TW e least deep st)):=by
 have t1:decide (rankL e.op < least)=false:=by rw [decide_eq_false_iff_not];exact hk
 have u1:=op_is hop [105,110,116] (b:=false) rfl
 have u2:=op_is hop [115,116,114] (b:=false) rfl
 have u3:=op_is hop [110,97,109,101] (b:=false) rfl
 have u4:=op_is hop [78,111,110,101] (b:=false) rfl
 have u5:=op_is hop [84,114,117,101] (b:=false) rfl
 have u6:=op_is hop [70,97,108,115,101] (b:=false) rfl
 have u7:=op_is hop [110,101,103] (b:=false) rfl
 have u8:=op_is hop [110,111,116] (b:=false) rfl
 have u9:=op_is hop [99,97,108,108] (b:=false) rfl
 have u10:=op_is hop [105,110,100,101,120] (b:=false) rfl
 have u11:=op_is hop [108,105,115,116] (b:=true) rfl
 have KOK:=Lib.hid hok;have KK:=Lib.hid hk;have KO:=Lib.hid hop
 clear hop hk
 have hft:=((Ex.fit_eq e).1 H.fit).2
 have hL2:∀ (al:Option Addr) (cl:Nat),ExsAt w (Lo x) (.slice al e.l.length cl) e.l→∀ (W:World) (st4:WS),WrC W x st4 p v l→Below x w W→st4.n+3 * exsNodes e.l≤50000000→
  Calls Tryz.prog 107 #[.pointer (some ⟨x,0,none⟩),.slice al e.l.length cl,.int .i64 ((deep:Int)+1)] W (TextPost x W st4 p v l (64 * exsBulk e.l) (3 * exsNodes e.l) fun n st'=>∃ ns,n=joinLen ns∧LW e.l (deep+1) st4 ns st'):=fun al cl hx W st4 h4 hW hn=>by
  have hnl:=Ex.nodes_l e
  have hbe:=Ex.bulk_eq e
  have hwe:=Ex.w_eq e
  have hk1:=termK_le e least
  have hde:=H.deepB
  have hbk:=H.bulk
  have hwt:=H.wt
  exact list_of hf h4 e.l _ (deep+1) (hx.below hW) (fun a ha=>by have:=exs_mem ha;omega) hft (by omega) (by omega) (by omega) hn (H.glob.below hW)
 clear hft
 have hokm:∀ b,(st.look.must b).ok=b:=fun b=>by show (st.look.ok && b)=b;rw [hok];rfl
 have HF:=Lib.hid hf;have HFE:=Lib.hid hfe
 clear hf hfe
 have hn0:st.n≤50000000:=by have:=H.n;omega
 obtain ⟨ap,cp,rfl,hpcap,hpr⟩:=H.ps
 obtain ⟨al,cl,rfl,hlcap,hlr⟩:=H.ls
 have hal:=H.wr.alloc (.cells #[.string (toBA e.op),.int .i64 e.n,.string (toBA e.s),.slice ap e.p.length cp,.slice al e.l.length cl] 140)
 have hbx:BoxE (w.alloc (.cells #[.string (toBA e.op),.int .i64 e.n,.string (toBA e.s),.slice ap e.p.length cp,.slice al e.l.length cl] 140)) x w.heap.size e ap cp al cl:=⟨heap_alloc_new w _,hal.2.2⟩
 have hlook:=look_any hal.1 (show st.n≤100000000 by omega)
 have Hal:=Lib.hid hal;have Hbx:=Lib.hid hbx;have Hl:=Lib.hid hlr;have Hp:=Lib.hid hpr;have HH:=Lib.hid H
 have hbulk:=H.bulk
 have hleast:=H.leastB
 have hdeep:=H.deepB
 have hL2:=hL2 al cl H.ls
 have HL2:=Lib.hid hL2;clear hL2
 rw [hok] at hlook
 have Hlook:=Lib.hid hlook
 clear hlook hal hbx hlr hpr H hok
 go_enter Tryz.func66,Tryz.ntmps66
 go_wp2_with fail
 generalize w.alloc (.cells #[.string (toBA e.op),.int .i64 e.n,.string (toBA e.s),.slice ap e.p.length cp,.slice al e.l.length cl] 140)=wA at Hlook Hal Hbx ⊢
 generalize hbxn:w.heap.size=bx at Hbx ⊢
 clear hbxn
 refine Hlook.out.mono ?_
 rintro _ w1 ⟨rfl,h1,s1⟩
 have hb1:=Hbx.out.step s1
 have hs1:=Hal.out.2.1.trans s1
 clear Hlook
 have k0:=hb1.c0
 have hgl1:=HH.out.glob.below (WStp.below HH.out.wr hs1)
 have hrank:=rank_any (w:=w1) e.op hgl1
 have Hrank:=Lib.hid hrank;have Hb1:=Lib.hid hb1;have H1:=Lib.hid h1;have S1:=Lib.hid hs1;have Hgl1:=Lib.hid hgl1
 clear hrank hb1 h1 hs1 hgl1
 go_wp2_with fail
 refine Hrank.out.mono ?_
 rintro _ w2 ⟨rfl,rfl⟩
 clear Hrank
 have k1:=Hb1.out.c1
 have k2:=Hb1.out.c2
 have k3:=Hb1.out.c3
 have k4:=Hb1.out.c4
 go_wp2_with fail
 refine (bare_any w1 e ap al cp cl false false false none).mono ?_
 rintro _ w2 ⟨rfl,hb2⟩
 obtain ⟨h2,s2⟩:=H1.out.grow hb2
 have hb2:=Hb1.out.step s2
 have hs2:=S1.out.trans s2
 clear k0 k1 k2 k3 k4
 have k0:=hb2.c0
 have k1:=hb2.c1
 have k2:=hb2.c2
 have k3:=hb2.c3
 have k4:=hb2.c4
 have H2:=Lib.hid h2;have B2:=Lib.hid hb2;have S2:=Lib.hid hs2
 clear h2 hb2 hs2 s2
 rcases hbr:bareL e false false false none with _ | _
 · skip
   have hmust:=must_any H2.out false
   have Hmust:=Lib.hid hmust
   clear hmust
   go_wp2_with fail
   refine Hmust.out.mono ?_
   rintro _ w3 ⟨rfl,h3,s3⟩
   have hb3:=B2.out.step s3
   have hs3:=S2.out.trans s3
   clear k0 k1 k2 k3 k4 Hmust
   have k0:=hb3.c0
   have k1:=hb3.c1
   have k2:=hb3.c2
   have k3:=hb3.c3
   have k4:=hb3.c4
   have H3:=Lib.hid h3;have B3:=Lib.hid hb3;have S3:=Lib.hid hs3
   clear h3 hb3 hs3 s3
   have hn6:((st.look.must false).deeper deep).n+3 * exsNodes e.l≤50000000:=by
    show st.n+1+3 * exsNodes e.l≤50000000
    have:=HH.out.n
    have:=termK_le e least;have:=Ex.nodes_l e;omega
   have hbb:exsBulk e.l≤1100000:=by have:=Ex.bulk_eq e;omega
   have HnL:=Lib.hid hn6
   clear hn6
   have H3d:=Lib.hid H3.out.drew;have S3d:=Lib.hid S3.out.drew;have B3d:=Lib.hid B3.out.drew
   go_upto_region 44 with fail
   go_region_with ((first
    | (go_at_call 67;(with_reducible refine (deeper_any H3d.out deep (by omega)).mono ?_);rintro _ w7 ⟨rfl,h7,s7⟩;have S7:=Lib.hid (S3d.out.trans s7);have k4:=(B3d.out.step s7).c4;have H7:=Lib.hid h7;clear h7 s7)
    | (go_at_call 107;(with_reducible refine (HL2.out _ _ H7.out (WStp.below HH.out.wr S7.out) HnL.out).mono ?_);rintro _ w8 ⟨r8,st8,rfl,hr,hn,h,s,htw⟩;have T8:=Lib.hid htw;have hrb8:r8.size≤71000000:=(by omega);have Hr8:=Lib.hid hr;have Hn8:=Lib.hid hn;have H8:=Lib.hid h;have S8:=Lib.hid s;clear hr hn h s htw)))
   all_goals
    go_wp2_with fail
    refine bodyPost_ret (results_tmp rfl _ _ _) rfl ?_
    refine ⟨_,st8,rfl,?_,?_,H8.out,S7.out.trans S8.out,?_⟩
    · rw [ByteArray.size_append,ByteArray.size_append]
      have:=Hr8.out
      have:=Ex.bulk_eq e
      show 1+r8.size+1≤_
      omega
    · refine (((Nx.look st 0 0).trans (Nx.must st.look false 0 0) (Nat.le_refl _) (Nat.le_refl _)).trans (Nx.deeper _ deep 0 0) (Nat.le_refl _) (Nat.le_refl _)).trans Hn8.out ?_ (Nat.le_refl _)
      have:=termK_le e least;have:=Ex.nodes_l e;omega
    · obtain ⟨ns,hns,hlw⟩:=T8.out
      refine TW.list' KOK.out KK.out KO.out hbr hlw ?_
      rw [ByteArray.size_append,ByteArray.size_append,← hns]
      show 1+r8.size+1=_
      omega
 · skip
   have hmust:=must_any H2.out true
   have Hmust:=Lib.hid hmust
   clear hmust
   go_wp2_with fail
   refine Hmust.out.mono ?_
   rintro _ w3 ⟨rfl,h3,s3⟩
   have hb3:=B2.out.step s3
   have hs3:=S2.out.trans s3
   clear k0 k1 k2 k3 k4 Hmust
   have k0:=hb3.c0
   have k1:=hb3.c1
   have k2:=hb3.c2
   have k3:=hb3.c3
   have k4:=hb3.c4
   have H3:=Lib.hid h3;have B3:=Lib.hid hb3;have S3:=Lib.hid hs3
   clear h3 hb3 hs3 s3
   have hn6:((st.look.must true).deeper deep).n+3 * exsNodes e.l≤50000000:=by
    show st.n+1+3 * exsNodes e.l≤50000000
    have:=HH.out.n
    have:=termK_le e least;have:=Ex.nodes_l e;omega
   have hbb:exsBulk e.l≤1100000:=by have:=Ex.bulk_eq e;omega
   have HnL:=Lib.hid hn6
   clear hn6
   have H3d:=Lib.hid H3.out.drew;have S3d:=Lib.hid S3.out.drew;have B3d:=Lib.hid B3.out.drew
   go_upto_region 44 with fail
   go_region_with ((first
    | (go_at_call 67;(with_reducible refine (deeper_any H3d.out deep (by omega)).mono ?_);rintro _ w7 ⟨rfl,h7,s7⟩;have S7:=Lib.hid (S3d.out.trans s7);have k4:=(B3d.out.step s7).c4;have H7:=Lib.hid h7;clear h7 s7)
    | (go_at_call 107;(with_reducible refine (HL2.out _ _ H7.out (WStp.below HH.out.wr S7.out) HnL.out).mono ?_);rintro _ w8 ⟨r8,st8,rfl,hr,hn,h,s,htw⟩;have T8:=Lib.hid htw;have hrb8:r8.size≤71000000:=(by omega);have Hr8:=Lib.hid hr;have Hn8:=Lib.hid hn;have H8:=Lib.hid h;have S8:=Lib.hid s;clear hr hn h s htw)))
   all_goals
    go_wp2_with fail
    refine bodyPost_ret (results_tmp rfl _ _ _) rfl ?_
    refine ⟨_,st8,rfl,?_,?_,H8.out,S7.out.trans S8.out,?_⟩
    · rw [ByteArray.size_append,ByteArray.size_append]
      have:=Hr8.out
      have:=Ex.bulk_eq e
      show 1+r8.size+1≤_
      omega
    · refine (((Nx.look st 0 0).trans (Nx.must st.look true 0 0) (Nat.le_refl _) (Nat.le_refl _)).trans (Nx.deeper _ deep 0 0) (Nat.le_refl _) (Nat.le_refl _)).trans Hn8.out ?_ (Nat.le_refl _)
      have:=termK_le e least;have:=Ex.nodes_l e;omega
    · obtain ⟨ns,hns,hlw⟩:=T8.out
      refine TW.list' KOK.out KK.out KO.out hbr hlw ?_
      rw [ByteArray.size_append,ByteArray.size_append,← hns]
      show 1+r8.size+1=_
      omega
end Go.Proofs.YtdoaeapahgmfoaaGreatDoor
