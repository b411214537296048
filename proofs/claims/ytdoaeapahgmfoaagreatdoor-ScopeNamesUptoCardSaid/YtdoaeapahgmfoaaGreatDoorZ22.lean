/- The writer's term: dicts. The writer's term: whole. tree.kinds: the map of kinds, made whole; a look into it. -/
import Derived.Maps.Own
import Derived.Test.YtdoaeapahgmfoaaGreatDoorZ12
import Derived.Test.YtdoaeapahgmfoaaGreatDoorZ16
import Derived.Test.YtdoaeapahgmfoaaGreatDoorZ17
import Derived.Test.YtdoaeapahgmfoaaGreatDoorZ18
import Derived.Test.YtdoaeapahgmfoaaGreatDoorZ19
import Derived.Test.YtdoaeapahgmfoaaGreatDoorZ20
import Derived.Test.YtdoaeapahgmfoaaGreatDoorZ21
namespace Go.Proofs.YtdoaeapahgmfoaaGreatDoor
open Go.RowKit
set_option maxRecDepth 100000 in
set_option maxHeartbeats 20000000 in
theorem term_dict {f:Nat} (hf:TermC f) {e:Ex} {least deep:Nat} {w:World} {x:Nat} {st:WS} {p v:Value} {l:List UInt8} {vp vl:Value} (H:TermIn e least deep w x st p v l vp vl) (hfe:termK e least≤f+1) (hok:st.look.ok=true) (hk:¬ rankL e.op < least)(hop:e.op=oDict):
 Calls Tryz.prog 66 #[.pointer (some ⟨x,0,none⟩),.agg #[.string (toBA e.op),.int .i64 e.n,.string (toBA e.s),vp,vl],.int .i64 (least:Int),.int .i64 (deep:Int)] w (TextPost x w st p v l (64 * e.bulk - 8) (termK e least) (TW e least deep st)):=by
 have t1:decide (rankL e.op < least)=false:=by rw [decide_eq_false_iff_not];exact hk
 have u1:=op_is hop [105,110,116] (b:=false) rfl
 have u2:=op_is hop [115,116,114] (b:=false) rfl
 have u3:=op_is hop [110,97,109,101] (b:=false) rfl
 have u4:=op_is hop [78,111,110,101] (b:=false) rfl
 have u5:=op_is hop [84,114,117,101] (b:=false) rfl
 have u6:=op_is hop [70,97,108,115,101] (b:=false) rfl
 have u7:=op_is hop [110,101,103] (b:=false) rfl
 have u8:=op_is hop [110,111,116] (b:=false) rfl
 have u9:=op_is hop [99,97,108,108] (b:=false) rfl
 have u10:=op_is hop [105,110,100,101,120] (b:=false) rfl
 have u11:=op_is hop [108,105,115,116] (b:=false) rfl
 have u12:=op_is hop [100,105,99,116] (b:=true) rfl
 have KOK:=Lib.hid hok;have KK:=Lib.hid hk;have KO:=Lib.hid hop
 clear hop hk
 have hokm:∀ b,(st.look.must b).ok=b:=fun b=>by show (st.look.ok && b)=b;rw [hok];rfl
 have HF:=Lib.hid hf;have HFE:=Lib.hid hfe
 clear hf hfe
 have hn0:st.n≤50000000:=by have:=H.n;omega
 obtain ⟨ap,cp,rfl,hpcap,hpr⟩:=H.ps
 obtain ⟨al,cl,rfl,hlcap,hlr⟩:=H.ls
 have hal:=H.wr.alloc (.cells #[.string (toBA e.op),.int .i64 e.n,.string (toBA e.s),.slice ap e.p.length cp,.slice al e.l.length cl] 140)
 have hbx:BoxE (w.alloc (.cells #[.string (toBA e.op),.int .i64 e.n,.string (toBA e.s),.slice ap e.p.length cp,.slice al e.l.length cl] 140)) x w.heap.size e ap cp al cl:=⟨heap_alloc_new w _,hal.2.2⟩
 have hlook:=look_any hal.1 (show st.n≤100000000 by omega)
 have Hal:=Lib.hid hal;have Hbx:=Lib.hid hbx;have Hl:=Lib.hid hlr;have Hp:=Lib.hid hpr;have HH:=Lib.hid H
 have hbulk:=H.bulk
 have hleast:=H.leastB
 have hdeep:=H.deepB
 rw [hok] at hlook
 have Hlook:=Lib.hid hlook
 clear hlook hal hbx hlr hpr H hok
 go_enter Tryz.func66,Tryz.ntmps66
 go_wp2_with fail
 generalize w.alloc (.cells #[.string (toBA e.op),.int .i64 e.n,.string (toBA e.s),.slice ap e.p.length cp,.slice al e.l.length cl] 140)=wA at Hlook Hal Hbx ⊢
 generalize hbxn:w.heap.size=bx at Hbx ⊢
 clear hbxn
 refine Hlook.out.mono ?_
 rintro _ w1 ⟨rfl,h1,s1⟩
 have hb1:=Hbx.out.step s1
 have hs1:=Hal.out.2.1.trans s1
 clear Hlook
 have k0:=hb1.c0
 have hgl1:=HH.out.glob.below (WStp.below HH.out.wr hs1)
 have hrank:=rank_any (w:=w1) e.op hgl1
 have Hrank:=Lib.hid hrank;have Hb1:=Lib.hid hb1;have H1:=Lib.hid h1;have S1:=Lib.hid hs1;have Hgl1:=Lib.hid hgl1
 clear hrank hb1 h1 hs1 hgl1
 go_wp2_with fail
 refine Hrank.out.mono ?_
 rintro _ w2 ⟨rfl,rfl⟩
 clear Hrank
 have k1:=Hb1.out.c1
 have k2:=Hb1.out.c2
 have k3:=Hb1.out.c3
 have k4:=Hb1.out.c4
 go_wp2_with fail
 refine (bare_any w1 e ap al cp cl false false false none).mono ?_
 rintro _ w2 ⟨rfl,hb2⟩
 obtain ⟨h2,s2⟩:=H1.out.grow hb2
 have hb2:=Hb1.out.step s2
 have hs2:=S1.out.trans s2
 clear k0 k1 k2 k3 k4
 have k0:=hb2.c0
 have k1:=hb2.c1
 have k2:=hb2.c2
 have k3:=hb2.c3
 have k4:=hb2.c4
 have H2:=Lib.hid h2;have B2:=Lib.hid hb2;have S2:=Lib.hid hs2
 clear h2 hb2 hs2 s2
 rcases hbr:bareL e false false false none with _ | _
 · skip
   have hmust:=must_any H2.out false
   have Hmust:=Lib.hid hmust
   clear hmust
   go_wp2_with fail
   refine Hmust.out.mono ?_
   rintro _ w3 ⟨rfl,h3,s3⟩
   have hb3:=B2.out.step s3
   have hs3:=S2.out.trans s3
   clear k0 k1 k2 k3 k4 Hmust
   have k0:=hb3.c0
   have k1:=hb3.c1
   have k2:=hb3.c2
   have k3:=hb3.c3
   have k4:=hb3.c4
   have H3:=Lib.hid h3;have B3:=Lib.hid hb3;have S3:=Lib.hid hs3
   clear h3 hb3 hs3 s3
   have k5:=H3.out.c4
   rw [hokm false] at k5
   go_wp2_with fail
   refine bodyPost_ret (results_tmp rfl _ _ _) rfl ?_
   exact ⟨_,_,rfl,Nat.zero_le _,((Nx.look st 0 0).trans (Nx.must st.look false 0 0) (Nat.le_refl _) (Nat.le_refl _)).mono (by unfold termK;have:=Ex.nodes_l e;omega) (Nat.le_refl _),H3.out,S3.out,(TW.dictBad KOK.out KK.out KO.out (by rw [hbr];rfl))⟩
 have KB:=Lib.hid hbr
 clear hbr
 by_cases h0:e.l.length % 2=0
 rotate_left
 · have g1:(((e.l.length:Int) % 2) == 0)=false:=by rw [beq_eq_false_iff_ne];omega
   have g2:(((e.l.length % 2:Nat):Int) == 0)=false:=by rw [beq_eq_false_iff_ne];omega
   have hmust:=must_any H2.out false
   have Hmust:=Lib.hid hmust
   clear hmust
   go_wp2_with fail
   refine Hmust.out.mono ?_
   rintro _ w3 ⟨rfl,h3,s3⟩
   have hb3:=B2.out.step s3
   have hs3:=S2.out.trans s3
   clear k0 k1 k2 k3 k4 Hmust
   have k0:=hb3.c0
   have k1:=hb3.c1
   have k2:=hb3.c2
   have k3:=hb3.c3
   have k4:=hb3.c4
   have H3:=Lib.hid h3;have B3:=Lib.hid hb3;have S3:=Lib.hid hs3
   clear h3 hb3 hs3 s3
   have k5:=H3.out.c4
   rw [hokm false] at k5
   go_wp2_with fail
   refine bodyPost_ret (results_tmp rfl _ _ _) rfl ?_
   exact ⟨_,_,rfl,Nat.zero_le _,((Nx.look st 0 0).trans (Nx.must st.look false 0 0) (Nat.le_refl _) (Nat.le_refl _)).mono (by unfold termK;have:=Ex.nodes_l e;omega) (Nat.le_refl _),H3.out,S3.out,(TW.dictBad KOK.out KK.out KO.out (by rw [decide_eq_false h0,Bool.and_false]))⟩
 have g1:(((e.l.length:Int) % 2) == 0)=true:=by rw [beq_iff_eq];omega
 have g2:(((e.l.length % 2:Nat):Int) == 0)=true:=by rw [beq_iff_eq];omega
 have H0:=Lib.hid h0
 clear h0
 have hmust:=must_any H2.out true
 have Hmust:=Lib.hid hmust
 clear hmust
 go_wp2_with fail
 refine Hmust.out.mono ?_
 rintro _ w3 ⟨rfl,h3,s3⟩
 have hb3:=B2.out.step s3
 have hs3:=S2.out.trans s3
 clear k0 k1 k2 k3 k4 Hmust
 have k0:=hb3.c0
 have k1:=hb3.c1
 have k2:=hb3.c2
 have k3:=hb3.c3
 have k4:=hb3.c4
 have H3:=Lib.hid h3;have B3:=Lib.hid hb3;have S3:=Lib.hid hs3
 clear h3 hb3 hs3 s3
 have k5:=H3.out.c4
 rw [hokm true] at k5
 have hel:=exsBulk_len e.l
 have helb:e.l.length≤1100000:=by have:=Ex.bulk_eq e;omega
 obtain ⟨i0,hi,hz0,hz1,hz2⟩:=info_parts Tryz.infoStrg
 go_wp2_with fail
 refine (deeper_any H3.out deep (by omega)).mono ?_
 rintro _ wd ⟨rfl,h4,s4⟩
 have hbd:=B3.out.step s4
 have hsd:=S3.out.trans s4
 have hn4:Nx st ((st.look.must true).deeper deep) 1 0:=((Nx.look st 0 0).trans (Nx.must st.look true 0 0) (Nat.le_refl _) (Nat.le_refl _)).trans (Nx.deeper _ deep 0 0) (Nat.le_refl _) (Nat.le_refl _)
 generalize hsd0:(st.look.must true).deeper deep=std at h4 hn4
 have KSD:=Lib.hid hsd0
 clear hsd0
 have H4:=Lib.hid h4;have BD:=Lib.hid hbd;have SD:=Lib.hid hsd;have HN4:=Lib.hid hn4
 clear h4 hbd hsd hn4 s4 k0 k1 k2 k3 k4 k5 g1 g2 hel
 go_wp2_with fail
 go_loopw [14,15] (fun o i wr=>∃ (j:Nat) (st1:WS) (zs:List (List UInt8)),j≤e.l.length∧j % 2=0∧i= .int .i64 j∧Nx st st1 (1+3 * exsNodes (e.l.take j)) 0∧zs.length≤j∧(zs.map fun s=>s.length+2).sum≤64 * exsBulk (e.l.take j)∧OutSt wd wr x o zs∧WrC wr x st1 p v l∧WStp x wd wr∧DW (e.l.take j) (deep+1) std (zs.map List.length) st1) (fun _ i _=>e.l.length+1 - (intOf i).toNat)
 case atStart=>exact ⟨0,std,[],by omega,rfl,rfl,by simpa [exsNodes] using HN4.out,by simp,by simp,⟨World.ownsRow_nil _ _ _ _,fun g e=>by cases e⟩,H4.out,WStp.refl _ _,DW.nil _ _⟩
 case round=>
  obtain ⟨j,st1,zs,hj,hje,rfl,hnx,hzl,hzs,hO,h1,s1,hdw⟩:=hrel
  have HDW:=Lib.hid hdw
  clear hdw
  have hbox:=BD.out.step s1
  have k4:=hbox.c4
  have HBX:=Lib.hid hbox
  clear hbox
  by_cases hjl:j < e.l.length
  · have hev:=H0.out
    have hjl2:j+1 < e.l.length:=by omega
    have t2:decide ((j:Int) < (e.l.length:Int))=true:=by simp;omega
    have t3:decide (j < e.l.length)=true:=by simp;omega
    have t4:(0:Int)≤(j:Int):=by omega
    have t5:(j:Int) < (e.l.length:Int):=by omega
    have t6:(j:Int)+1 < (e.l.length:Int):=by omega
    obtain ⟨b,o,rfl,hbx0,hrow⟩:=Hl.out (by omega)
    obtain ⟨c,ap1,cp1,al1,cl1,hc,hch⟩:=child_of HF.out HH.out HFE.out hbx0 hrow j hjl 0 0 (by rfl) (deep+1) ((deep:Int)+1) (by omega) (by omega) (Nat.le_refl _)
    obtain ⟨c',ap2,cp2,al2,cl2,hc',hch'⟩:=child_of HF.out HH.out HFE.out hbx0 hrow (j+1) hjl2 0 0 (by rfl) (deep+1) ((deep:Int)+1) (by omega) (by omega) (Nat.le_refl _)
    have hnt:=exsNodes_take e.l j hjl
    have hbt:=exsBulk_take e.l j hjl
    have hnt2:=exsNodes_take e.l (j+1) hjl2
    have hbt2:=exsBulk_take e.l (j+1) hjl2
    have KC:=Lib.hid hc;have KC':=Lib.hid hc'
    rw [← hc] at hnt hbt
    rw [← hc'] at hnt2 hbt2
    have hnl:=exsNodes_le e.l (j+1+1)
    have hbl:=exsBulk_le e.l (j+1+1)
    have hne:=Ex.nodes_l e
    have hbe:=Ex.bulk_eq e
    have hke:=termK_le e least
    have hkc:termK c 0=3 * c.nodes:=by unfold termK;rw [if_pos rfl];omega
    have hkc':termK c' 0=3 * c'.nodes:=by unfold termK;rw [if_pos rfl];omega
    have hnn:=hnx.n
    have hx1:=h1.lt
    have hn5:st1.n+termK c 0≤st.n+termK e least:=by omega
    have hcb:c.bulk≤1100000:=by omega
    have hcb':c'.bulk≤1100000:=by omega
    have hn6:∀ st5:WS,st5.n≤st1.n+termK c 0→st5.n+termK c' 0≤st.n+termK e least:=fun st5 h=>by omega
    have hn7:1+3 * exsNodes (e.l.take j)+termK c 0+termK c' 0≤1+3 * exsNodes (e.l.take (j+1+1)):=by omega
    have hb7:exsBulk (e.l.take (j+1+1))=exsBulk (e.l.take j)+c.bulk+c'.bulk:=by omega
    obtain ⟨hd1,hd2⟩:=hch
    obtain ⟨hc1,hc2⟩:=hch'
    have S1:=Lib.hid s1;have SW:=Lib.hid (SD.out.trans s1)
    obtain ⟨q0,q1,q2,q3,q4⟩:=hd1 _ (WStp.below HH.out.wr SW.out)
    have HD2:=Lib.hid hd2;have HC1:=Lib.hid hc1;have HC2:=Lib.hid hc2;have HN5:=Lib.hid hn5;have HN6:=Lib.hid hn6;have HN7:=Lib.hid hn7;have HB7:=Lib.hid hb7;have HNX:=Lib.hid hnx;have HO:=Lib.hid hO;have H1':=Lib.hid h1;have HZ:=Lib.hid hzs
    have hzl2:zs.length≤1100000:=by omega
    have hdz:wd.heap.size≤wr.heap.size:=s1.size
    clear hd1 hd2 hc1 hc2 hn5 hn6 hn7 hb7 hnx hO h1 s1 hzs hrow hc hc' hnt hbt hnt2 hbt2 hnl hbl hne hbe hke hkc hkc' hnn hev
    go_wp2_with fail
    refine (HD2.out _ _ H1'.out (WStp.below HH.out.wr SW.out) HN5.out).mono ?_
    rintro _ w5 ⟨r5,st5,rfl,hr,hn,h,s,htw⟩
    have T5:=Lib.hid htw
    clear htw
    have hrb5:r5.size≤71000000:=by omega
    have Hr5:=Lib.hid hr;have Hn5:=Lib.hid hn;have H5:=Lib.hid h;have S5:=Lib.hid s;have SW5:=Lib.hid (SW.out.trans s)
    have hO5:=HO.out.step s
    have HO5:=Lib.hid hO5
    have hn8:=HN6.out st5 hn.n
    have HN8:=Lib.hid hn8
    clear hr hn h s hO5 hn8 q0 q1 q2 q3 q4 k4
    have k4:=(HBX.out.step S5.out).c4
    obtain ⟨q0,q1,q2,q3,q4⟩:=HC1.out _ (WStp.below HH.out.wr SW5.out)
    go_wp2_with fail
    refine (HC2.out _ _ H5.out (WStp.below HH.out.wr SW5.out) HN8.out).mono ?_
    rintro _ w6 ⟨r6,st6,rfl,hr,hn,h,s,htw⟩
    have T6:=Lib.hid htw
    clear htw
    have hrb6:r6.size≤71000000:=by omega
    have Hr6:=Lib.hid hr;have Hn6:=Lib.hid hn;have H6:=Lib.hid h;have S6:=Lib.hid ((S1.out.trans S5.out).trans s)
    have hO6:=HO5.out.step s
    have hown6:=hO6.own
    have HO6:=Lib.hid hO6
    have hdz6:wd.heap.size≤w6.heap.size:=S6.out.size
    clear hr hn h s hO6 q0 q1 q2 q3 q4 k4
    go_wp2_with (at_builtin;refine wpList_append_lies (w6.alloc (.cells #[.string (r5 ++ ⟨#[58,32]⟩ ++ r6)] 9)) rfl (.tmp 227) (.tmp 240) 36 rfl wd.heap.size 9 i0 _ 1 16 Tryz.underlying36 hi hz0 hz1 hz2 rfl (by decide) _ zs.length (zs.map fun s=>Value.string (toBA s)) rfl (hown6.alloc _) ⟨w6.heap.size,0,none⟩ 1 1 [.string (r5 ++ ⟨#[58,32]⟩ ++ r6)] rfl rfl (World.news_of_block (cs:= #[.string (r5 ++ ⟨#[58,32]⟩ ++ r6)]) (heap_alloc_new w6 _)) (by simp [Value.oneCell']) (by decide) (by unfold maxLen;omega) (by omega) (by simp;omega) (w6.heap.size+1) (by simp) ?_;intro g7 cap7 w7 hown7 hg7 hat7 hlt7)
    have h7:=H6.out.app (fun g e=>(HO6.out.safe g e).1) hg7
    have s7:=S6.out.app H6.out HO6.out.safe hg7
    have hO7:OutSt wd w7 x (.slice (some ⟨g7,0,none⟩) (zs.length+1) cap7) (zs ++ [(r5 ++ (⟨#[58,32]⟩:ByteArray) ++ r6).data.toList]):=by
     refine ⟨?_,fun g e=> ?_⟩
     · rw [List.length_append,List.map_append];exact hown7
     · obtain rfl:g7=g:=Option.some.inj e
       refine ⟨safe_of_new H6.out (fun g e=>(HO6.out.safe g e).1) hg7 hlt7 (hat7.imp id fun e=>by omega),?_⟩
       rcases hat7 with e | e
       · exact (HO6.out.safe _ e).2
       · omega
    go_roundw
    case rel=>
     refine ⟨j+1+1,st6,_,by omega,by omega,by go_num,?_,?_,?_,hO7,h7,s7,?_⟩
     · exact (HNX.out.trans Hn5.out (Nat.le_refl _) (Nat.le_refl _)).trans Hn6.out HN7.out (Nat.le_refl _)
     · rw [List.length_append];simp only [List.length_cons,List.length_nil];omega
     · rw [List.map_append,List.sum_append,HB7.out]
       have h6:(r5 ++ (⟨#[58,32]⟩:ByteArray) ++ r6).data.toList.length=r5.size+2+r6.size:=by
        show (r5 ++ (⟨#[58,32]⟩:ByteArray) ++ r6).size=_
        rw [ByteArray.size_append,ByteArray.size_append];rfl
       have:=Hr5.out
       have:=Hr6.out
       have:=HZ.out
       have:=Ex.bulk_pos c
       have:=Ex.bulk_pos c'
       simp only [List.map_cons,List.map_nil,List.sum_cons,List.sum_nil]
       omega
     · have h6:(r5 ++ (⟨#[58,32]⟩:ByteArray) ++ r6).data.toList.length=r5.size+2+r6.size:=by
        show (r5 ++ (⟨#[58,32]⟩:ByteArray) ++ r6).size=_
        rw [ByteArray.size_append,ByteArray.size_append];rfl
       rw [List.map_append,List.map_cons,List.map_nil,h6]
       exact DW.take2 hje hjl2 HDW.out (KC.out ▸ T5.out) (KC'.out ▸ T6.out)
    case measure=>simp [intOf];omega
  · have t2:decide ((j:Int) < (e.l.length:Int))=false:=by simp;omega
    have t3:decide (j < e.l.length)=false:=by simp;omega
    obtain rfl:j=e.l.length:=by omega
    rw [List.take_of_length_le (Nat.le_refl _)] at hnx hzs
    have hsa:=strs_own hO.own
    have hbe:=Ex.bulk_eq e
    have hjoin:=join_any (w:=wr) zs _ _ hsa (fun b hb=>hb.2) (by omega)
    have hzb:(zs.map fun s=>s.length+2).sum≤75000000:=by omega
    have Hj:=Lib.hid hjoin;have Hn:=Lib.hid hnx;have H1':=Lib.hid h1;have SW:=Lib.hid (SD.out.trans s1);have Hzs:=Lib.hid hzs;have HBe:=Lib.hid hbe
    clear hjoin hnx h1 s1 hO hsa hzs hzl hbe
    go_wp2_with fail
    refine Hj.out.mono ?_
    rintro _ w7 ⟨r8,rfl,hs,hb2,hsn⟩
    have HSN:=Lib.hid hsn
    clear hsn
    obtain ⟨h7,s7⟩:=H1'.out.grow hb2
    have hst:=SW.out.trans s7
    have hrb8:r8.size≤75000000:=by omega
    have Hs:=Lib.hid hs
    clear Hj hs
    go_wp2_with fail
    refine bodyPost_ret (results_tmp rfl _ _ _) rfl ?_
    refine ⟨_,st1,rfl,?_,Hn.out.mono ?_ (Nat.le_refl _),h7,hst,?_⟩
    · rw [ByteArray.size_append,ByteArray.size_append]
      have:=Hzs.out
      have:=Hs.out
      have:=HBe.out
      show 1+r8.size+1≤_
      omega
    · have:=termK_le e least;have:=Ex.nodes_l e;omega
    · have hdw:=HDW.out
      rw [List.take_of_length_le (Nat.le_refl _),← KSD.out] at hdw
      have h9:=TW.dict KOK.out KK.out KO.out (by rw [KB.out,decide_eq_true H0.out];rfl) hdw
      rw [← HSN.out,show r8.size+2=1+r8.size+1 by omega] at h9
      rw [ByteArray.size_append,ByteArray.size_append]
      exact h9
end Go.Proofs.YtdoaeapahgmfoaaGreatDoor
namespace Go.Proofs.YtdoaeapahgmfoaaGreatDoor
open Go.RowKit
theorem termB_ge (e:Ex) (k:Nat):64 * e.bulk - 8≤termB e k:=by unfold termB;omega
theorem termB_ne (e:Ex) (k:Nat) (h:k≠0):64 * e.bulk - 4≤termB e k:=by unfold termB;rw [if_neg h];omega
theorem term_all:∀ f:Nat,TermC f
 | 0=>fun e least deep w x st p v l vp vl hk=>by
   have:=termK_le e least
   have:=Ex.nodes_l e
   omega
 | f+1=>fun e least deep w x st p v l vp vl hfe hft hb hw hl hd hn h hg hps hls=>by
   have hf:=term_all f
   have H:TermIn e least deep w x st p v l vp vl:=⟨hft,hb,hw,hl,hd,hn,h,hg,hps,hls⟩
   have hB:=termB_ge e least
   cases hok:st.look.ok with
   | false=>exact (term_no H hok).mono fun _ _ h=>h.mono hB (Nat.le_refl _)
   | true=>
     by_cases hk:rankL e.op < least
     · exact (term_par hf H hfe hok hk).mono fun _ _ h=>h.mono (termB_ne e least (by omega)) (Nat.le_refl _)
     by_cases o1:e.op=oInt
     · exact (term_int H hok hk o1).mono fun _ _ h=>h.mono hB (Nat.le_refl _)
     by_cases o2:e.op=oStr
     · exact (term_str H hok hk o2).mono fun _ _ h=>h.mono hB (Nat.le_refl _)
     by_cases o3:e.op=oName
     · exact (term_name H hok hk o3).mono fun _ _ h=>h.mono hB (Nat.le_refl _)
     by_cases o4:e.op=oNone
     · exact (term_none H hok hk o4).mono fun _ _ h=>h.mono hB (Nat.le_refl _)
     by_cases o5:e.op=oTrue
     · exact (term_true H hok hk o5).mono fun _ _ h=>h.mono hB (Nat.le_refl _)
     by_cases o6:e.op=oFalse
     · exact (term_false H hok hk o6).mono fun _ _ h=>h.mono hB (Nat.le_refl _)
     by_cases o7:e.op=oNeg
     · exact (term_neg hf H hfe hok hk o7).mono fun _ _ h=>h.mono hB (Nat.le_refl _)
     by_cases o8:e.op=oNot
     · exact (term_not hf H hfe hok hk o8).mono fun _ _ h=>h.mono hB (Nat.le_refl _)
     by_cases o9:e.op=oCall
     · exact (term_call hf H hfe hok hk o9).mono fun _ _ h=>h.mono hB (Nat.le_refl _)
     by_cases o10:e.op=oIndex
     · exact (term_index hf H hfe hok hk o10).mono fun _ _ h=>h.mono hB (Nat.le_refl _)
     by_cases o11:e.op=oList
     · exact (term_list hf H hfe hok hk o11).mono fun _ _ h=>h.mono hB (Nat.le_refl _)
     by_cases o12:e.op=oDict
     · exact (term_dict hf H hfe hok hk o12).mono fun _ _ h=>h.mono hB (Nat.le_refl _)
     by_cases o13:e.op=oLambda
     · by_cases hp:0 < e.p.length
       · exact (term_lam hf H hfe hok hk o13 hp).mono fun _ _ h=>h.mono hB (Nat.le_refl _)
       · exact (term_lam0 hf H hfe hok hk o13 hp).mono fun _ _ h=>h.mono hB (Nat.le_refl _)
     have hop:NW e.op:=⟨o1,o2,o3,o4,o5,o6,o7,o8,o9,o10,o11,o12,o13⟩
     by_cases h4:rankL e.op=4
     · exact (term_bin4 hf H hfe hok hk hop h4).mono fun _ _ h=>h.mono hB (Nat.le_refl _)
     · exact (term_binK hf H hfe hok hk hop h4).mono fun _ _ h=>h.mono hB (Nat.le_refl _)
theorem wterm_any {e:Ex} {least deep:Nat} {w:World} {x:Nat} {st:WS} {p v:Value} {l:List UInt8} {vp vl:Value} (H:TermIn e least deep w x st p v l vp vl):
 Calls Tryz.prog 66 #[.pointer (some ⟨x,0,none⟩),.agg #[.string (toBA e.op),.int .i64 e.n,.string (toBA e.s),vp,vl],.int .i64 (least:Int),.int .i64 (deep:Int)] w (TextPost x w st p v l (64 * e.bulk - 4) (termK e least) (TW e least deep st)):=
 ((term_all _).use (Nat.le_refl _) H).mono fun _ _ h=>h.mono (termB_le e least) (Nat.le_refl _)
end Go.Proofs.YtdoaeapahgmfoaaGreatDoor
namespace Go.Proofs.YtdoaeapahgmfoaaGreatDoor
open Go.RowKit Go.Maps Go.ChangeMaps
def MapIs (w:World) (b:Nat) (ks:List (List UInt8 × Value)):Prop:=
 ∃ (es:Array MapEntry) (clock:Nat),w.heap[b]? =some (.map es clock)∧es.toList.map (fun e=>(e.key,e.val))=ks.map (fun p=>(Value.string (toBA p.1),p.2))∧∀ p ∈ ks,p.1.length≤100
def KM (w0 w:World) (b:Nat) (ks:List (List UInt8 × Value)):Prop:=MapIs w b ks∧Below w0.heap.size w0 w∧w0.heap.size≤b
theorem strKeyed:Keyed Tryz.prog 9:=string_keyed Tryz.underlying9
theorem keyStr (s:ByteArray) (h:s.size≤1000000000):keyOf Tryz.prog 9 (.string s)=some (.string s.data.toList):=WideMaps.keyOf_string_mk Tryz.underlying9 (by unfold maxLen;omega)
theorem mapIs_keys {ks:List (List UInt8 × Value)} {es:Array MapEntry} (h1:es.toList.map (fun e=>(e.key,e.val))=ks.map (fun p=>(Value.string (toBA p.1),p.2))) (h2:∀ p ∈ ks,p.1.length≤100):
 ∀ e ∈ es.toList,∃ p ∈ ks,e.key= .string (toBA p.1)∧e.val=p.2∧p.1.length≤100:=by
 intro e he
 have hm:(e.key,e.val) ∈ es.toList.map (fun e=>(e.key,e.val)):=List.mem_map.2 ⟨e,he,rfl⟩
 rw [h1] at hm
 obtain ⟨p,hp,e2⟩:=List.mem_map.1 hm
 injection e2 with e3 e4
 exact ⟨p,hp,e3.symm,e4.symm,h2 p hp⟩
theorem run_insert_new {w w0:World} {b:Nat} {ks:List (List UInt8 × Value)} (h:KM w0 w b ks) (key:List UInt8) (val:Value) (hk:key.length≤100) (hnew:∀ p ∈ ks,p.1≠key):
 ∃ w',(Instr.mapUpdate 176 (.map (some b)) (.string (toBA key)) val).run Tryz.prog w= .ok () w'∧KM w0 w' b (ks ++ [(key,val)]):=by
 obtain ⟨⟨es,clock,hb,h1,h2⟩,hB,hbB⟩:=h
 have hkey:=keyStr (toBA key) (by rw [toBA_len];omega)
 have hks:=mapIs_keys h1 h2
 refine ⟨setBlock w b (.map (es.push ⟨.string (toBA key),val,clock⟩) (clock+1)),?_,⟨es.push ⟨.string (toBA key),val,clock⟩,clock+1,heap_setBlock_same hb _,?_,?_⟩,?_,hbB⟩
 · rcases strKeyed.find w hkey es.toList (fun e he=>by obtain ⟨p,_,e1,_,hs⟩:=hks e he;exact ⟨_,by rw [e1];exact keyStr (toBA p.1) (by rw [toBA_len];omega)⟩) with ⟨h3,_⟩ | ⟨j,e,_,h4,h5⟩
   · simp [Instr.mapUpdate,run_underlying Tryz.underlying176,MapKept.run_getObj_map hb,strKeyed.check w _ hkey,h3,Result.andThen,MapKept.run_setObj_map _ hb,setBlock]
   · exfalso
     obtain ⟨p,hp,e1,_,_⟩:=hks e (List.mem_of_getElem? h4)
     rw [h5] at e1
     injection e1 with e1
     exact hnew p hp (congrArg (fun b:ByteArray=>b.data.toList) e1).symm
 · simp [h1]
 · intro p hp
   rcases List.mem_append.1 hp with hp | hp
   · exact h2 p hp
   · have:p=(key,val):=by simpa using hp
     rw [this];exact hk
 · refine hB.trans ⟨rfl,rfl,rfl,by simp [setBlock],fun k hk=>heap_setBlock_other hb _ (by omega)⟩
theorem wpList_insert_new {w w0:World} {ops:Array Oper} {rest:List Oper} {o:Oper} {a:Act} {Q:Exit→Act→World→Prop} {b:Nat} {ks:List (List UInt8 × Value)} (h:KM w0 w b ks) (hgd:o.guard=none) (m x v:Operand)
 (hop:o.op=Op.insert 176 m x v) (hm:a.eval m= .map (some b)) (key:List UInt8) (hx:a.eval x= .string (toBA key)) (val:Value) (hv:a.eval v=val) (hk:key.length≤100) (hnew:∀ p ∈ ks,p.1≠key)
 (hK:∀ w',KM w0 w' b (ks ++ [(key,val)])→wpList Tryz.prog ops Q rest (a.put o.dst undef) w'):wpList Tryz.prog ops Q (o :: rest) a w:=by
 refine wpList_plain hgd fun K' hK'=> ?_
 obtain ⟨w',hr,h2⟩:=run_insert_new h key val hk hnew
 unfold Oper.wp
 simp [execOp,hop,hm,hx,hv,hr,Result.andThen]
 exact hK' _ _ (hK w' h2)
def kindV (f:KindF):Value:= .agg #[.bool f.name,.bool f.names,.int .i64 f.terms,.bool f.body,.bool f.other]
def kindsKs:List (List UInt8 × Value):=kindsL.map fun p=>(p.1,kindV p.2)
def KindsPost (w:World) (e:Ending) (w':World):Prop:=∃ b,e= .returned (.map (some b))∧KM w w' b kindsKs
set_option maxRecDepth 100000 in
set_option maxHeartbeats 20000000 in
theorem kinds_any (w:World):Calls Tryz.prog 102 #[] w (KindsPost w):=by
 have hmm:=@run_makeMap Tryz.prog
 have hk:KM w (w.alloc (.map #[] 0)) w.heap.size []:=⟨⟨#[],0,(MapKept.heap_alloc w _).1,rfl,fun p h=>by cases h⟩,(Below.refl _ _).alloc (Nat.le_refl _) _,Nat.le_refl _⟩
 go_enter Tryz.func102,Tryz.ntmps102
 go_wp2_with ((refine wpList_insert_new hk rfl _ _ _ rfl rfl _ rfl _ rfl (by decide) (by simp) ?_);clear hk;intro w1 hk)
 refine bodyPost_ret (results_tmp rfl _ _ _) rfl ?_
 exact ⟨_,rfl,hk⟩
theorem kinds_nodup:(kindsL.map (·.1)).Nodup:=by decide
theorem nodup_fst {α β :Type}:∀ {l:List (α × β)} {a: α} {b c: β},(l.map (·.1)).Nodup→(a,b) ∈ l→(a,c) ∈ l→b=c
 | p :: r,a,b,c,h,h1,h2=>by
   rw [List.map_cons,List.nodup_cons] at h
   rcases List.mem_cons.1 h1 with e1 | e1 <;> rcases List.mem_cons.1 h2 with e2 | e2
   · rw [← e1] at e2;injection e2 with _ e3;exact e3.symm
   · exact absurd (List.mem_map.2 ⟨(a,c),e2,by rw [← e1]⟩) h.1
   · exact absurd (List.mem_map.2 ⟨(a,b),e1,by rw [← e2]⟩) h.1
   · exact nodup_fst h.2 e1 e2
def zeroF:KindF:=⟨false,false,0,false,false⟩
theorem kinds_zero (w:World):(zeroValue 174).run Tryz.prog w= .ok (kindV zeroF) w:=by kernel_rfl
theorem kinds_look {w w0:World} {b:Nat} (h:KM w0 w b kindsKs) (k:List UInt8) (hk:k.length≤2000000):
 (Instr.lookup 176 (.map (some b)) (.string (toBA k)) true).run Tryz.prog w= .ok (.tuple #[kindV ((kindF k).getD zeroF),.bool (kindF k).isSome]) w:=by
 obtain ⟨⟨es,clock,hb,h1,h2⟩,_,_⟩:=h
 have hkey:=keyStr (toBA k) (by rw [toBA_len];omega)
 have hks:=mapIs_keys h1 h2
 have hz:=kinds_zero w
 rcases strKeyed.find w hkey es.toList (fun e he=>by obtain ⟨p,_,e1,_,hs⟩:=hks e he;exact ⟨_,by rw [e1];exact keyStr (toBA p.1) (by rw [toBA_len];omega)⟩) with ⟨h3,h4⟩ | ⟨j,e,h3,h4,h5⟩
 · have hn:kindF k=none:=by
    unfold kindF
    rcases hf:kindsL.find? (fun x=>x.1 == k) with _ | q
    · rw [hf];rfl
    · exfalso
      have hq:=List.find?_some hf
      have hm:=List.mem_of_find?_eq_some hf
      have hqk:q.1=k:=by simpa using hq
      have hmk:(Value.string (toBA q.1),kindV q.2) ∈ es.toList.map (fun e=>(e.key,e.val)):=by
       rw [h1]
       exact List.mem_map.2 ⟨(q.1,kindV q.2),List.mem_map.2 ⟨q,hm,rfl⟩,rfl⟩
      obtain ⟨e,he,e2⟩:=List.mem_map.1 hmk
      injection e2 with e3 _
      exact h4 e he (by rw [e3,hqk])
   rw [hn]
   simp [Instr.lookup,run_underlying Tryz.underlying176,MapKept.run_getObj_map hb,strKeyed.check w _ hkey,h3,hz,Result.andThen]
 · obtain ⟨p,hp,e1,e2,_⟩:=hks e (List.mem_of_getElem? h4)
   rw [h5] at e1
   have e1:=Value.string.inj e1
   have hpk:k=p.1:=congrArg (fun b:ByteArray=>b.data.toList) e1
   obtain ⟨q,hq,e3⟩:∃ q ∈ kindsL,(q.1,kindV q.2)=p:=List.mem_map.1 hp
   have hqk:q.1=k:=hpk ▸ (congrArg Prod.fst e3)
   have hs:kindF k=some q.2:=by
    unfold kindF
    rcases hf:kindsL.find? (fun x=>x.1 == k) with _ | r
    · exfalso
      rw [List.find?_eq_none] at hf
      exact hf q hq (by simp [hqk])
    · have hr:=List.find?_some hf
      have hm:=List.mem_of_find?_eq_some hf
      have hrk:r.1=k:=by simpa using hr
      have:r.2=q.2:=nodup_fst (a:=k) kinds_nodup (by rw [← hrk];exact hm) (by rw [← hqk];exact hq)
      rw [hf]
      show some r.2=some q.2
      rw [this]
   have hv:e.val=kindV q.2:=e2.trans (congrArg Prod.snd e3).symm
   have hg:kindV ((kindF k).getD zeroF)=e.val:=by rw [hs];exact hv.symm
   have hi:(kindF k).isSome=true:=by rw [hs];rfl
   rw [hg,hi]
   clear hg hi hs hv hks h1 h2 hp hq e2 e3 hqk
   simp [Instr.lookup,run_underlying Tryz.underlying176,MapKept.run_getObj_map hb,strKeyed.check w _ hkey,h3,Result.andThen]
end Go.Proofs.YtdoaeapahgmfoaaGreatDoor
