/- scope.Scopes: the walk. -/
import Derived.Test.YtdoaeapahgmfoaaGreatDoorZ45
namespace Go.Proofs.YtdoaeapahgmfoaaGreatDoor
open Go.RowKit
def Cause (T:Prop) (w:World) (ss:List Stm) (te:TypeId) (pe:Value) (w':World):Prop:=T∧w.cell? ⟨0,0,none⟩=some (.iface te pe)∨
 (∃ n at_ te2 pe2,te=107∧pe= .pointer (some ⟨n,0,none⟩)∧stmsNamed ss∧(secondF ss).bad≠ []∧w'.cell? ⟨n,0,none⟩=some (.int .i64 at_)∧w'.cell? ⟨n,1,none⟩=some (.iface te2 pe2)∧w.cell? ⟨3,0,none⟩=some (.iface te2 pe2))
def ScopesPost (T:Prop) (w:World) (ss:List Stm) (e:Ending) (w':World):Prop:=Below w.heap.size w w'∧
 ((∃ te pe,e= .returned (.tuple #[.slice none 0 0,.iface te pe])∧Cause T w ss te pe w')∨
  ∃ v,e= .returned (.tuple #[v,.nilIface])∧stmsNamed ss∧(secondF ss).bad= []∧ScsAt w' (fun b=>w.heap.size≤b∧b < w'.heap.size) v (scsF (firstF ss).fr))
set_option maxRecDepth 100000 in
set_option maxHeartbeats 40000000 in
theorem scopes_any {T:Prop} {w:World} {ss:List Stm} {vs:Value} (htx:Calls Tryz.prog 11 #[vs] w (TreeTextT T w ss)) (hen:∃ te pe,w.cell? ⟨3,0,none⟩=some (.iface te pe)) (hss:StmsAt w (Lo w.heap.size) vs ss) (hbk:stmsBulk ss≤1100000):
 Calls Tryz.prog 13 #[vs] w (ScopesPost T w ss):=by
 have hfind:=find_any htx hen hss hbk
 obtain ⟨av,cv,rfl,hr⟩:=hss
 have Hfind:=Lib.hid hfind
 clear hfind hen htx hr
 go_enter Tryz.func13,Tryz.ntmps13
 go_wp2_with fail
 refine Hfind.out.mono ?_
 rintro _ W ⟨hbW,hcase⟩
 rcases hcase with ⟨te,pe,rfl,hcT,hcz⟩ | ⟨n0,at_,te,pe,rfl,hz1,hz2,hz3,hz4,hz5⟩ | ⟨x,c,vl,vb,ys,vss,rfl,hnm,hbad,hF⟩
 · have HZ:=Lib.hid (show ScopesPost T w ss (.returned (.tuple #[.slice none 0 0,.iface te pe])) W from ⟨hbW,.inl ⟨te,pe,rfl,.inl ⟨hcT,hcz⟩⟩⟩)
   clear hbW hcz hcT
   go_wp2_with fail
   refine bodyPost_ret (results_tmp2 rfl _ _ _) rfl ?_
   exact HZ.out
 · have HZ:=Lib.hid (show ScopesPost T w ss (.returned (.tuple #[.slice none 0 0,.iface 107 (.pointer (some ⟨n0,0,none⟩))])) W from ⟨hbW,.inl ⟨_,_,rfl,.inr ⟨n0,at_,te,pe,rfl,rfl,hz1,hz2,hz3,hz4,hz5⟩⟩⟩)
   clear hbW hz1 hz2 hz3 hz4 hz5
   go_wp2_with fail
   refine bodyPost_ret (results_tmp2 rfl _ _ _) rfl ?_
   exact HZ.out
 · have hsmf:=sm_first ss
   have hsm:Sm (Ag.fd (firstF ss).fr (secondF ss)) (1+8 * stmsBulk ss+8 * stmsBulk ss):=sm_again (stmsNodes ss+1) (firstF ss).fr ss 0 (1+8 * stmsBulk ss) ⟨-1,0,(firstF ss).bad⟩ ⟨hsmf.fr,hsmf.bad,hsmf.row,hsmf.loops,by show (-1:Int)≤ -1;decide,by show (-1:Int)≤_;omega⟩
   have harn:=(firstF_inv ss).arnd
   have hal:=allNames_first ss
   have HP:=Lib.hid (And.intro hnm hbad)
   obtain ⟨N,hN⟩:∃ N,N=1+8 * stmsBulk ss+8 * stmsBulk ss:=⟨_,rfl⟩
   rw [← hN] at hsm
   have hNb:N≤20000000:=by omega
   obtain ⟨A,hA⟩:∃ A,A=secondF ss:=⟨_,rfl⟩
   obtain ⟨fr,hfr⟩:∃ fr,fr=(firstF ss).fr:=⟨_,rfl⟩
   rw [← hA,← hfr] at hsm hF
   rw [← hfr] at harn hal
   have hn0:=harn.pos
   have hnb:fr.length≤20000000:=by have:=hsm.fr;have e:(A.fd fr).fr=fr:=rfl;rw [e] at this;omega
   obtain ⟨g,cap,nm,Y0,_,rfl,hcap,_,_⟩:=hF.look hn0
   have x0:=cell_of_blk (o:=0) hF.blk
   have x0:W.cell? ⟨x,0,none⟩=some (.slice (some ⟨g,0,none⟩) fr.length cap):=x0
   have hmk:=make_rows fr.length (by omega)
   have hT0:=Tb2.init W fr.length
   have hb2:Below W.heap.size W ((W.alloc (.cells (madeCells #[.slice none 0 0] fr.length) 36)).alloc (.cells (madeCells #[.slice none 0 0] fr.length) 36)):=((Below.refl _ _).alloc (Nat.le_refl _) _).alloc (by simp) _
   have hxl:=hF.x_lt
   have hF2:=(hF.grow hb2).1
   have x02:((W.alloc (.cells (madeCells #[.slice none 0 0] fr.length) 36)).alloc (.cells (madeCells #[.slice none 0 0] fr.length) 36)).cell? ⟨x,0,none⟩=some (.slice (some ⟨g,0,none⟩) fr.length cap):=cell_of_blk (o:=0) hF2.blk
   have x01:(W.alloc (.cells (madeCells #[.slice none 0 0] fr.length) 36)).cell? ⟨x,0,none⟩=some (.slice (some ⟨g,0,none⟩) fr.length cap):=by rw [World.cell?_alloc_lt _ _ ⟨x,0,none⟩ hxl];exact x0
   have HbW:=Lib.hid hbW;have HF:=Lib.hid hF;have HSm:=Lib.hid hsm;have Har:=Lib.hid harn;have HL:=Lib.hid (Nat.le_trans hal hbk);have HT0:=Lib.hid hT0;have HB2:=Lib.hid hb2;have Hfr:=Lib.hid hfr;have HA:=Lib.hid hA
   clear hbW hF hsm harn hal hT0 hb2 hF2 hsmf hnm hbad hfr hA hN hxl
   go_upto_block 0 with fail
   generalize ((W.alloc (.cells (madeCells #[.slice none 0 0] fr.length) 36)).alloc (.cells (madeCells #[.slice none 0 0] fr.length) 36))=W2 at *
   go_cut [] (fun wr=>∃ (cc:Cl2) (v1 v2:Nat→Value),Tb2 wr W.heap.size W.heap.size (W.heap.size+1) cc (usesF fr) v1 v2∧TStp (c2 W.heap.size (W.heap.size+1)) cc W2 wr)
   case first=>
    skip
    go_wp2_with fail
    go_loopw [45,8,9,11,12,13] (fun t _ _ _ _ _ wr=>∃ (i:Nat) (cc:Cl2) (v1 v2:Nat→Value),i≤fr.length∧t= .int .i64 i∧Tb2 wr W.heap.size W.heap.size (W.heap.size+1) cc (UF fr i) v1 v2∧TStp (c2 W.heap.size (W.heap.size+1)) cc W2 wr) (fun t _ _ _ _ _ _=>fr.length - (intOf t).toNat)
    case atStart=>exact ⟨0,_,_,_,by omega,rfl,HT0.out,TStp.refl _ _⟩
    case round=>
     obtain ⟨i,cc,v1,v2,hi,rfl,hT,hS⟩:=hrel
     by_cases hil:i < fr.length
     · have t1':decide ((i:Int) < (fr.length:Int))=true:=by simp;omega
       have hBw:=HB2.out.trans (hS.below HT0.out HB2.out.size)
       have hFi:=(HF.out.grow hBw).1
       have cg:=hFi.gcell hil
       obtain ⟨_,_,y7,_,y9,_⟩:=hFi.fcell hil
       have hYc:=(hFi.frs i hil).cy
       have hYl:=(HF.out.lo _ _ hYc).2
       obtain ⟨Y,hY⟩:∃ Y,Y=ys.getD i 0:=⟨_,rfl⟩
       rw [← hY] at cg y7 y9 hYl
       have hoU:=(hFi.frs i hil).own 1 (by decide)
       have hoV:=(hFi.frs i hil).own 3 (by decide)
       obtain ⟨U,hU⟩:∃ U,U=(fr.getD i dfr).used:=⟨_,rfl⟩
       obtain ⟨V,hV⟩:∃ V,V=(fr.getD i dfr).nonl:=⟨_,rfl⟩
       have hoU:wr.ownsRow w.heap.size 9 1 (vss i 1) U.length (strCs U):=by rw [hU];exact hoU
       have hoV:wr.ownsRow w.heap.size 9 1 (vss i 3) V.length (strCs V):=by rw [hV];exact hoV
       have hlU:U.length≤40000000:=by rw [hU];have:=HSm.out.row i 1;exact Nat.le_trans this (by omega)
       have hlV:V.length≤40000000:=by rw [hV];have:=HSm.out.row i 3;exact Nat.le_trans this (by omega)
       obtain ⟨aV,cV,hvV,hcV,hrV⟩:=row_slice hoV
       rw [hvV] at y9 hoV
       have hcl:=clone_any (w:=wr.drew) (B:=w.heap.size) (v:=vss i 1) (l:=U) (own_same hoU fun _ _=>rfl) (by omega)
       have Hcl:=Lib.hid hcl
       have HT:=Lib.hid hT;have HS:=Lib.hid hS;have HrV:=Lib.hid hrV;have HY:=Lib.hid hY;have HU:=Lib.hid hU;have HV:=Lib.hid hV;have HBw:=Lib.hid hBw
       have hszw:=hBw.size
       obtain ⟨vU,hvU⟩:∃ vU,vU=vss i 1:=⟨_,rfl⟩
       rw [← hvU] at y7
       rw [← hvU] at Hcl
       clear hcl hT hS hFi hYc hY hoU hoV hU hV hvV hrV hvU hBw
       go_upto_region 9 with fail
       have hYd:Y < wr.drew.heap.size:=by show Y < wr.heap.size;omega
       go_cut [59,60,61] (fun r n z W9=>∃ (ar:Option Addr) (cr:Nat),r= .slice ar (U ++ V).length cr∧n= .int .i64 ((U ++ V).length:Int)∧z= .int .i64 0∧StrsAt W9 (Un2 W9 cc) (.slice ar (U ++ V).length cr) (U ++ V)∧Tb2 W9 W.heap.size W.heap.size (W.heap.size+1) cc (UF fr i) v1 v2∧TStp cc cc wr W9)
       case first=>
        obtain ⟨is,his,hs0,hs1,hs2⟩:=info_parts Tryz.infoStrg
        by_cases hV0:V= []
        · have y9:wr.cell? ⟨Y,9,none⟩=some (.slice aV 0 cV):=by rw [hV0] at y9;exact y9
          go_region_held3 (fun w'=>w'.cell? ⟨Y,7,none⟩=some vU∧w'.cell? ⟨Y,9,none⟩=some (.slice aV 0 cV)) (go_keep)
           ((first
             | (refine step_append_zero (by rfl) _ _ (by rfl) aC U.length cC HcC.out aV cV (by rfl) (by rfl) ?_)
             | (go_at_call 38;(with_reducible refine Hcl.out.mono ?_);rintro _ wC ⟨aC,cC,rfl,hoC,hcC,hbC⟩;have h7:wC.cell? ⟨Y,7,none⟩=some vU:=(hbC.cell (p:=⟨Y,7,none⟩) hYd).trans y7;have h9:wC.cell? ⟨Y,9,none⟩=some (.slice aV 0 cV):=(hbC.cell (p:=⟨Y,9,none⟩) hYd).trans y9;have HoC:=Lib.hid hoC;have HcC:=Lib.hid hcC;have HbC:=Lib.hid hbC;clear hoC hcC hbC)))
          all_goals
           (have hb:Below wr.heap.size wr wC:=(Below.refl wr.heap.size wr).drew.trans HbC.out
            have hUV:U ++ V=U:=by rw [hV0,List.append_nil]
            have HR:=Lib.hid (show StrsAt wC (Un2 wC cc) (.slice aC (U ++ V).length cC) (U ++ V) from by
             rw [hUV]
             exact (own_strs HoC.out).mono (fun _ _ _=>rfl) fun b h=>⟨h.2,HT.out.fresh h.1⟩)
            have HG:=Lib.hid (HT.out.grow hb)
            have hl:(U ++ V).length=U.length:=by rw [hUV]
            clear hb hUV
            go_wp2_with fail
            go_meet
            case rel=>exact ⟨aC,cC,by rw [hl],by rw [hl],rfl,HR.out,HG.out.1,HG.out.2⟩)
        · have hVp:0 < V.length:=List.length_pos_iff.2 hV0
          obtain ⟨bV,oV,rfl,⟨_,hbVl⟩,hzV⟩:=HrV.out hVp
          have hbVd:bV < wr.drew.heap.size:=hbVl
          have HzV:=Lib.hid hzV
          clear hzV
          go_region_held3 (fun w'=>w'.cell? ⟨Y,7,none⟩=some vU∧w'.cell? ⟨Y,9,none⟩=some (.slice (some ⟨bV,oV,none⟩) V.length cV)) (go_keep)
           ((first
             | (refine step_append_lies _ (by rfl) _ _ _ (by rfl) wr.heap.size 9 is _ 1 16 Tryz.underlying36 his hs0 hs1 hs2 rfl (by decide) (.slice aC U.length cC) U.length (strCs U) (by rfl) HoC.out ⟨bV,oV,none⟩ V.length cV (strCs V) (by rfl) (by simp [strCs]) (fun j' u hu=>Hn.out j' u hu) (by intro u hu;obtain ⟨s,_,rfl⟩:=List.mem_map.1 hu;rfl) hVp (by unfold maxLen;omega) (by omega) (by have:=HbC.out.size;exact this) wC.heap.size rfl ?_;intro g5 cap5 w5 hown5 hg5 hat5 hlt5;have hb5:Below wr.heap.size wr w5:=below_app0 ((Below.refl wr.heap.size wr).drew.trans HbC.out) HoC.out hg5 HbC.out.size;have h57:w5.cell? ⟨Y,7,none⟩=some vU:=(hb5.cell (p:=⟨Y,7,none⟩) hYd).trans y7;have h59:w5.cell? ⟨Y,9,none⟩=some (.slice (some ⟨bV,oV,none⟩) V.length cV):=(hb5.cell (p:=⟨Y,9,none⟩) hYd).trans y9;have Ho5:=Lib.hid hown5;have Hb5:=Lib.hid hb5;clear hown5 hg5 hat5 hlt5 hb5)
             | (go_at_call 38;(with_reducible refine Hcl.out.mono ?_);rintro _ wC ⟨aC,cC,rfl,hoC,hcC,hbC⟩;have h7:wC.cell? ⟨Y,7,none⟩=some vU:=(hbC.cell (p:=⟨Y,7,none⟩) hYd).trans y7;have h9:wC.cell? ⟨Y,9,none⟩=some (.slice (some ⟨bV,oV,none⟩) V.length cV):=(hbC.cell (p:=⟨Y,9,none⟩) hYd).trans y9;have Hn:=Lib.hid (strs_news V wC bV oV fun j' hj'=>(hbC.cell (p:=⟨bV,_,none⟩) hbVd).trans (HzV.out j' hj'));have HoC:=Lib.hid hoC;have HbC:=Lib.hid hbC;clear hoC hcC hbC)))
          all_goals
           (have hUV:U.length+V.length=(U ++ V).length:=by simp
            have hown:w5.ownsRow wr.heap.size 9 1 (.slice (some ⟨g5,0,none⟩) (U ++ V).length cap5) (U ++ V).length (strCs (U ++ V)):=by
             have h:=Ho5.out
             rw [hUV] at h
             have e:strCs (U ++ V)=strCs U ++ strCs V:=by simp [strCs]
             rw [e];exact h
            have HR:=Lib.hid ((own_strs hown).mono (G':=Un2 w5 cc) (fun _ _ _=>rfl) fun b h=>⟨h.2,HT.out.fresh h.1⟩)
            have HG:=Lib.hid (HT.out.grow Hb5.out)
            clear hown Ho5 Hb5
            go_wp2_with fail
            go_meet
            case rel=>exact ⟨some ⟨g5,0,none⟩,cap5,by rw [← hUV],by rw [← hUV];simp,rfl,HR.out,HG.out.1,HG.out.2⟩)
       case rest=>
        obtain ⟨ar0,cr0,rfl,rfl,rfl,hRow,hT9,hS9⟩:=hcut
        have HRow:=Lib.hid hRow;have HT9:=Lib.hid hT9;have HS9:=Lib.hid hS9
        clear hRow hT9 hS9
        skip
        obtain ⟨_,_,hv0,_,hr0⟩:=HRow.out
        injection hv0 with e1 _ e2
        subst e1 e2
        have HRr:=Lib.hid hr0
        have HmemL:=Lib.hid (show ∀ m ∈ U ++ V,m ∈ allNames fr from fun m hm=>mem_allNames hil (by rw [← HU.out,← HV.out];exact hm))
        clear hr0
        obtain ⟨LN,hLN⟩:∃ LN,LN=U ++ V:=⟨_,rfl⟩
        have hLl:LN.length≤80000000:=by rw [hLN];simp;omega
        have HstU:=Lib.hid (show UF fr (i+1)=LN.foldl (useF fr i) (UF fr i) by rw [hLN,HU.out,HV.out];exact UF_succ fr i)
        rw [← hLN] at HRr HmemL HRow ⊢
        clear hLN HrV hlU hlV
        go_wp2_with fail
        go_loopw [61,11,12,13] (fun t _ _ _ wr=>∃ (q:Nat) (cd:Cl2) (v3 v4:Nat→Value),q≤LN.length∧t= .int .i64 q∧Tb2 wr W.heap.size W.heap.size (W.heap.size+1) cd ((LN.take q).foldl (useF fr i) (UF fr i)) v3 v4∧TStp cc cd wc wr) (fun t _ _ _ _=>LN.length - (intOf t).toNat)
        case atStart=>exact ⟨0,_,_,_,by omega,rfl,HT9.out,TStp.refl _ _⟩
        case round=>
         obtain ⟨q,cd,v3,v4,hq,rfl,hT,hS⟩:=hrel
         by_cases hql:q < LN.length
         · have t1':decide ((q:Int) < (LN.length:Int))=true:=by simp;omega
           obtain ⟨bz,oz,rfl,hbz,hz⟩:=HRr.out (by omega)
           have hz:=(hS.cell hbz).trans (hz q hql)
           have hBw:=HB2.out.trans (((HS.out.trans HS9.out).trans hS).below HT0.out HB2.out.size)
           have hFq:=(HF.out.grow hBw).1
           have hmem:=HmemL.out LN[q] (List.getElem_mem hql)
           have hRI:=RI.fold i (LN.take q) (fun m hm=>HmemL.out m (List.mem_of_mem_take hm)) _ (UF_RI fr i (by omega))
           have hstep:=fold_take (useF fr i) LN (UF fr i) q hql
           obtain ⟨n,hn⟩:∃ n,n=LN[q]:=⟨_,rfl⟩
           obtain ⟨C,hC⟩:∃ C,C=(LN.take q).foldl (useF fr i) (UF fr i):=⟨_,rfl⟩
           rw [← hn] at hz hmem hstep
           rw [← hC] at hstep hRI hT
           have how:=owner_any hFq rfl Har.out (i:Int) (by omega) (by omega) n HSm.out (by omega)
           rw [show (A.fd fr).fr=fr from rfl] at how
           obtain ⟨own,hown⟩:∃ own,own=ownerF fr i n:=⟨_,rfl⟩
           rw [← hown] at how
           have How:=Lib.hid how;have HT3:=Lib.hid hT;have HS3:=Lib.hid hS
           have hle:=owner_le (fr.length+1) fr i i n Har.out (by omega)
           change (ownerF fr i n:Int)≤i∨ownerF fr i n=0 at hle
           rw [← hown] at hle
           have Hgo:=Lib.hid (show ownerGo (fr.length+1) fr i i n=own from hown.symm)
           have i0':(0:Int)≤(own:Int):=Int.natCast_nonneg _
           clear how hS hFq hn hC
           by_cases h0:own=0
           · have t2':((own:Int) == 0)=true:=by rw [h0];rfl
             rw [useF_no hown (.inl h0)] at hstep
             have Hstep:=Lib.hid hstep
             clear hstep h0 hT hmem hRI hown hle
             go_wp2_with fail
             refine How.out.mono ?_
             rintro _ w5 ⟨rfl,rfl⟩
             go_wp2_with fail
             go_roundw
             case rel=>exact ⟨q+1,_,_,_,by omega,by go_num,by rw [Hstep.out];exact HT3.out,HS3.out⟩
             case measure=>simp [intOf];omega
           · have t2':((own:Int) == 0)=false:=by rw [beq_eq_false_iff_ne];omega
             by_cases h1:own=i
             · have t3':((own:Int) == (i:Int))=true:=by rw [h1];simp
               rw [useF_no hown (.inr h1)] at hstep
               have Hstep:=Lib.hid hstep
               clear hstep h0 h1 hT hmem hRI hown hle
               go_wp2_with fail
               refine How.out.mono ?_
               rintro _ w5 ⟨rfl,rfl⟩
               go_wp2_with fail
               go_roundw
               case rel=>exact ⟨q+1,_,_,_,by omega,by go_num,by rw [Hstep.out];exact HT3.out,HS3.out⟩
               case measure=>simp [intOf];omega
             · have t3':((own:Int) == (i:Int))=false:=by rw [beq_eq_false_iff_ne];omega
               rw [useF_yes hown h0 h1] at hstep
               have hol:own < fr.length:=by omega
               have hlt:own < C.cells.length:=by rw [hRI.lc];exact hol
               have r1:=hT.a.row.cell (i:=own) hlt
               obtain ⟨R,hR⟩:∃ R,R=C.cells.getD own []:=⟨_,rfl⟩
               have hRl:R.length≤1100000:=by rw [hR];exact Nat.le_trans (hRI.c.len own) HL.out
               have hownR:wr.ownsRow W.heap.size 9 1 (v3 own) R.length (strCs R):=by rw [hR];exact hT.a.own own hlt
               have hadd:=add_any hownR n (by omega) hBw.size
               have hne1:some (W.heap.size)≠(v3 own).ownBlock:=fun e=>by
                have e1:=hT.a.cr own hlt _ e.symm
                rw [hT.a.ct] at e1;cases e1
               have htl1:=(hT.lo _ _ hT.a.ct).2
               obtain ⟨vk,hvk⟩:∃ vk,vk=v3 own:=⟨_,rfl⟩
               rw [← hvk] at r1 hadd
               obtain ⟨FF,hFF⟩:∃ FF,FF=C.frees:=⟨_,rfl⟩
               obtain ⟨FS,hFS⟩:∃ FS,FS=chainF (fr.length+1) fr i own n C.frees:=⟨_,rfl⟩
               obtain ⟨CC,hCC⟩:∃ CC,CC=C.cells.modify own (addL · n):=⟨_,rfl⟩
               rw [← hFS,← hCC] at hstep
               have o1:(own:Int) < (fr.length:Int):=by omega
               have Hstep:=Lib.hid hstep;have Hmem:=Lib.hid hmem;have Hown0:=Lib.hid h0;have HR:=Lib.hid hR;have Hvk:=Lib.hid hvk;have Hne1:=Lib.hid hne1;have Hlt:=Lib.hid hlt;have Hadd:=Lib.hid hadd
               have HFS:=Lib.hid (show chainF (fr.length+1) fr i own n FF=FS by rw [hFF,hFS]);have HRf:=Lib.hid (show RowsIn (allNames fr) FF by rw [hFF];exact hRI.f);have HLf:=Lib.hid (show FF.length=fr.length by rw [hFF];exact hRI.lf);have HCC:=Lib.hid hCC;have HFF:=Lib.hid hFF
               clear hstep hmem h0 hR hvk hne1 hlt hadd hFS hFF hCC hT hRI hown hle hownR
               go_wp2_with fail
               refine How.out.mono ?_
               rintro _ w5 ⟨rfl,rfl⟩
               go_wp2_with fail
               refine Hadd.out.mono ?_
               rintro _ w5 ⟨ao5,cp5,rfl,hown5,hgr5,hat5⟩
               rw [Hvk.out] at hgr5 hat5
               have hrow5:=HT3.out.a.row.of_block (hgr5.block _ htl1 Hne1.out)
               have z5:=hrow5.cell (i:=own) Hlt.out
               have f5:=hrow5.frozen own
               have l5:=hrow5.lt
               rw [← Hvk.out] at z5
               have hs:=HT3.out.setCell1 own Hlt.out (.slice ao5 (addL R n).length cp5) (addL · n) hgr5 (by show w5.ownsRow _ _ _ _ (addL (C.cells.getD own []) n).length (strCs (addL (C.cells.getD own []) n));rw [← HR.out];exact hown5) hat5
               rw [← HCC.out,← HFF.out] at hs
               have HT6:=Lib.hid hs.1;have HS6:=Lib.hid (HS3.out.trans hs.2)
               clear hs hrow5 hown5 hgr5 hat5 Hadd r1
               go_wp2_with fail
               go_loopw [13] (fun t wr=>∃ (kk f f2:Nat) (ce:Cl2) (v5 v6:Nat→Value) (fs:List (List (List UInt8))),t= .int .i64 kk∧kk < fr.length∧kk < f∧kk < f2∧ownerGo f2 fr i kk n=own∧chainF f fr kk own n fs=FS∧RowsIn (allNames fr) fs∧fs.length=fr.length∧Tb2 wr W.heap.size W.heap.size (W.heap.size+1) ce ⟨CC,fs⟩ v5 v6∧TStp cc ce wc wr) (fun t _=>(intOf t).toNat)
               case atStart=>exact ⟨i,fr.length+1,fr.length+1,_,_,_,FF,rfl,by omega,by omega,by omega,Hgo.out,HFS.out,HRf.out,HLf.out,HT6.out,HS6.out⟩
               case round=>
                obtain ⟨kk,f,f2,ce,v5,v6,fs,rfl,hkl,hkf,hkf2,hgo,hch,hrf,hlf,hT,hS⟩:=hrel
                by_cases hke:kk=own
                · have t1':((kk:Int) != (own:Int))=false:=by simp [hke]
                  rw [hke,chainF_stop] at hch
                  rw [hch] at hT
                  have HTe:=Lib.hid hT;have HSe:=Lib.hid hS
                  clear hT hS hgo hch hrf
                  go_wp2_with fail
                  go_roundw
                  case rel=>exact ⟨q+1,_,_,_,by omega,by go_num,by rw [Hstep.out];exact HTe.out,HSe.out⟩
                  case measure=>simp [intOf];omega
                · have t1':((kk:Int) != (own:Int))=true:=by simp;omega
                  obtain ⟨f2,rfl⟩:∃ q,f2=q+1:=⟨f2 - 1,by omega⟩
                  obtain ⟨f,rfl⟩:∃ q,f=q+1:=⟨f - 1,by omega⟩
                  obtain ⟨hk0,ha0,ha1,hgo2⟩:=owner_on Har.out hkl hgo Hown0.out hke
                  rw [chainF_step _ _ _ _ _ _ hke] at hch
                  obtain ⟨an,hane⟩:∃ an:Nat,(an:Int)=(fr.getD kk dfr).around:=⟨(fr.getD kk dfr).around.toNat,by omega⟩
                  rw [← hane] at ha0 ha1 hgo2 hch
                  rw [Int.toNat_natCast] at hch
                  have hBw:=HB2.out.trans (((HS.out.trans HS9.out).trans hS).below HT0.out HB2.out.size)
                  have hlt2:kk < (⟨CC,fs⟩:CF).frees.length:=by show kk < fs.length;omega
                  have r2:=hT.b.row.cell (i:=kk) hlt2
                  obtain ⟨R,hR⟩:∃ R,R=fs.getD kk []:=⟨_,rfl⟩
                  have hRl:R.length≤1100000:=by rw [hR];exact Nat.le_trans (hrf.len kk) HL.out
                  have hownR:wr.ownsRow W.heap.size 9 1 (v6 kk) R.length (strCs R):=by rw [hR];exact hT.b.own kk hlt2
                  have hadd:=add_any hownR n (by omega) hBw.size
                  have hne2:some ((W.heap.size+1))≠(v6 kk).ownBlock:=fun e=>by
                   have e1:=hT.b.cr kk hlt2 _ e.symm
                   rw [hT.b.ct] at e1;cases e1
                  have htl2:=(hT.lo _ _ hT.b.ct).2
                  obtain ⟨vk,hvk⟩:∃ vk,vk=v6 kk:=⟨_,rfl⟩
                  rw [← hvk] at r2 hadd
                  have k0:(0:Int)≤(kk:Int):=Int.natCast_nonneg _
                  have k1:(kk:Int) < (fr.length:Int):=by omega
                  have HT:=Lib.hid hT;have HSk:=Lib.hid hS;have Hadd:=Lib.hid hadd;have Hgo2:=Lib.hid hgo2;have Hch:=Lib.hid hch;have HRf2:=Lib.hid hrf;have Hlf2:=Lib.hid hlf;have HR:=Lib.hid hR;have Hvk:=Lib.hid hvk;have Hlt2:=Lib.hid hlt2;have Hne2:=Lib.hid hne2;have Hane:=Lib.hid hane;have Hkl:=Lib.hid hkl
                  clear hT hS hadd hgo hgo2 hch hrf hlf hR hvk hlt2 hne2 hownR hBw hane
                  go_wp2_with fail
                  refine Hadd.out.mono ?_
                  rintro _ w5 ⟨ao5,cp5,rfl,hown5,hgr5,hat5⟩
                  rw [Hvk.out] at hgr5 hat5
                  have hrow5:=HT.out.b.row.of_block (hgr5.block _ htl2 Hne2.out)
                  have z5:=hrow5.cell (i:=kk) Hlt2.out
                  have f5:=hrow5.frozen kk
                  have l5:=hrow5.lt
                  rw [← Hvk.out] at z5
                  have hs:=HT.out.setCell2 kk Hlt2.out (.slice ao5 (addL R n).length cp5) (addL · n) hgr5 (by show w5.ownsRow _ _ _ _ (addL (fs.getD kk []) n).length (strCs (addL (fs.getD kk []) n));rw [← HR.out];exact hown5) hat5
                  have hS8:=HSk.out.trans hs.2
                  have hB8:=HB2.out.trans (((HS.out.trans HS9.out).trans hS8).below HT0.out HB2.out.size)
                  have hF8:=(HF.out.grow hB8).1
                  have x0:(w5.setCell ⟨(W.heap.size+1),kk,none⟩ (.slice ao5 (addL R n).length cp5)).cell? ⟨x,0,none⟩=some (.slice (some ⟨g,0,none⟩) fr.length cap):=cell_of_blk (o:=0) hF8.blk
                  have cg:=hF8.gcell Hkl.out
                  have yy:=(hF8.fcell Hkl.out).1
                  generalize ys.getD kk 0=Y at cg yy
                  have y1:(w5.setCell ⟨(W.heap.size+1),kk,none⟩ (.slice ao5 (addL R n).length cp5)).cell? ⟨Y,1,none⟩=some (.int .i64 (an:Int)):=by rw [Hane.out];exact yy
                  have Hs:=Lib.hid hs;have HS8:=Lib.hid hS8
                  clear hs hS8 hB8 hF8 yy hrow5 hown5 hgr5 hat5 Hadd r2
                  go_wp2_with fail
                  go_roundw
                  case rel=>exact ⟨an,f,f2,_,_,_,_,by go_num,by omega,by omega,by omega,Hgo2.out,Hch.out,HRf2.out.mod kk Hmem.out,by rw [List.length_modify];exact Hlf2.out,Hs.out.1,HS8.out⟩
                  case measure=>simp [intOf];omega
         · have t1':decide ((q:Int) < (LN.length:Int))=false:=by simp;omega
           obtain rfl:q=LN.length:=by omega
           rw [List.take_of_length_le (Nat.le_refl _),← HstU.out] at hT
           have HTe:=Lib.hid hT;have HSe:=Lib.hid ((HS.out.trans HS9.out).trans hS)
           clear hT hS
           go_wp2_with fail
           go_roundw
           case rel=>exact ⟨i+1,_,_,_,by omega,by go_num,HTe.out,HSe.out⟩
           case measure=>simp [intOf];omega
     · have t1':decide ((i:Int) < (fr.length:Int))=false:=by simp;omega
       obtain rfl:i=fr.length:=by omega
       have HTe:=Lib.hid hT;have HSe:=Lib.hid hS
       clear hT hS
       go_wp2_with fail
       go_meet
       case rel=>exact ⟨_,_,_,HTe.out,HSe.out⟩
   case rest=>
    obtain ⟨cc,v1,v2,hTc,hSc⟩:=hcut
    have hBc:=HB2.out.trans (hSc.below HT0.out HB2.out.size)
    have hFc:=(HF.out.grow hBc).1
    have x0c:wc.cell? ⟨x,0,none⟩=some (.slice (some ⟨g,0,none⟩) fr.length cap):=cell_of_blk (o:=0) hFc.blk
    have hri:RI fr (usesF fr):=UF_RI fr fr.length (Nat.le_refl _)
    obtain ⟨C,hC⟩:∃ C,C=usesF fr:=⟨_,rfl⟩
    rw [← hC] at hTc hri
    have HTc:=Lib.hid hTc;have HBc:=Lib.hid hBc;have HRI:=Lib.hid hri;have HC:=Lib.hid hC
    clear hTc hSc hBc hFc hri hC x0 x01 x02 hmk
    go_wp2_with fail
    skip
    go_loopw [116,14,15,16,19,140,143] (fun t vo _ _ _ _ _ wr=>∃ (i:Nat) (fs:List (List (List UInt8))) (D:Nat→Prop) (ps:List ScP),i≤fr.length∧t= .int .i64 i∧Tb2 wr W.heap.size W.heap.size (W.heap.size+1) cc ⟨C.cells,fs⟩ v1 v2∧fs.length=fr.length∧(∀ j,i≤j→fs.getD j []=C.frees.getD j [])∧ScSt wr W.heap.size D vo ((List.range i).map (scF fr C)) ps∧DOk W wc wr cc vo i D∧KStp cc wc wr) (fun t _ _ _ _ _ _ _=>fr.length - (intOf t).toNat)
    case atStart=>exact ⟨0,C.frees,fun _=>False,[],by omega,rfl,HTc.out,HRI.out.lf,fun _ _=>rfl,ScSt.nil _ _ _,⟨(fun b e=>by cases e),fun b e=>e.elim⟩,KStp.refl _ _⟩
    case round=>
     obtain ⟨i,fs,D,ps,hi,rfl,hT,hfl,hfs,hSt,hD,hK⟩:=hrel
     by_cases hil:i < fr.length
     · have t1':decide ((i:Int) < (fr.length:Int))=true:=by simp;omega
       have hBw:=HBc.out.trans (hK.below HTc.out HBc.out.size)
       have hFi:=(HF.out.grow hBw).1
       have cg:=hFi.gcell hil
       obtain ⟨nm,hbY⟩:=(hFi.frs i hil).blk
       have hrB:=row_slice ((HF.out.frs i hil).own 0 (by decide))
       have hcB:=(HF.out.frs i hil).cr 0 (by decide)
       have hlo:=HF.out.lo
       obtain ⟨Y,hY⟩:∃ Y,Y=ys.getD i 0:=⟨_,rfl⟩
       rw [← hY] at cg hbY
       obtain ⟨ar,har⟩:∃ ar,ar=(fr.getD i dfr).around:=⟨_,rfl⟩
       obtain ⟨pr,hpr⟩:∃ pr,pr=(fr.getD i dfr).params:=⟨_,rfl⟩
       obtain ⟨bd,hbd⟩:∃ bd,bd=(fr.getD i dfr).bound:=⟨_,rfl⟩
       obtain ⟨CS,hCS⟩:∃ CS,CS=C.cells.getD i []:=⟨_,rfl⟩
       have hsc:scF fr C i=⟨ar,pr,locQ i CS bd,celQ i CS bd,(C.frees.getD i []).mergeSort leL⟩:=by rw [har,hpr,hbd,hCS];rfl
       have hbdl:bd.length≤40000000:=by rw [hbd];have:=HSm.out.row i 0;exact Nat.le_trans this (by omega)
       obtain ⟨aB,cB,hvB,hcB2,hrB⟩:=hrB
       have hrB2:0 < bd.length→∃ b o,aB=some ⟨b,o,none⟩∧b < W.heap.size∧∀ j (hj:j < bd.length),W.cell? ⟨b,o+j,none⟩=some (.string (toBA bd[j])):=by
        subst hbd
        intro hp
        obtain ⟨b,o,h1,_,h3⟩:=hrB hp
        exact ⟨b,o,h1,(hlo b _ (hcB b (by rw [hvB,h1];rfl))).2,h3⟩
       have y0:wr.cell? ⟨Y,0,none⟩=some (.string nm):=by rw [cell_of_blk hbY];rfl
       have y1:wr.cell? ⟨Y,1,none⟩=some (.int .i64 ar):=by rw [cell_of_blk hbY,har];rfl
       have y2:wr.cell? ⟨Y,2,none⟩=some (.int .i64 (pr:Int)):=by rw [cell_of_blk hbY,hpr];rfl
       have y3:wr.cell? ⟨Y,3,none⟩=some (.slice none 0 0):=by rw [cell_of_blk hbY];rfl
       have y4:wr.cell? ⟨Y,4,none⟩=some (.slice none 0 0):=by rw [cell_of_blk hbY];rfl
       have y5:wr.cell? ⟨Y,5,none⟩=some (.slice none 0 0):=by rw [cell_of_blk hbY];rfl
       have hbA:=(Below.refl wr.heap.size wr).alloc (Nat.le_refl _) (.cells #[.string nm,.int .i64 ar,.int .i64 (pr:Int),.slice none 0 0,.slice none 0 0,.slice none 0 0] 38)
       have y6:(wr.alloc (.cells #[.string nm,.int .i64 ar,.int .i64 (pr:Int),.slice none 0 0,.slice none 0 0,.slice none 0 0] 38)).cell? ⟨Y,6,none⟩=some (.slice aB bd.length cB):=by
        rw [hbA.cell (p:=⟨Y,6,none⟩) (lt_of_blk hbY),cell_of_blk hbY,hbd]
        show some (vss i 0)=_
        rw [hvB];rfl
       have hini:=ScBx.init (wr:=wr) (nm:=nm) (ar:=ar) (pr:=pr)
       have hszw:=hBw.size
       have hszk:=hK.size
       obtain ⟨hTA,_⟩:=hT.grow hbA
       have hcb:cc wr.heap.size=none:=hT.fresh (Nat.le_refl _)
       have hwA:(wr.alloc (.cells #[.string nm,.int .i64 ar,.int .i64 (pr:Int),.slice none 0 0,.slice none 0 0,.slice none 0 0] 38)).heap.size=wr.heap.size+1:=by simp
       have hl0:locQ i CS []= []∧celQ i CS []= []:=by constructor <;> (first | (unfold locQ;split <;> rfl) | (unfold celQ;split <;> rfl))
       have HT:=Lib.hid hT;have Hfl:=Lib.hid hfl;have Hfs:=Lib.hid hfs;have HSt:=Lib.hid hSt;have HD:=Lib.hid hD;have HK:=Lib.hid hK;have HrB:=Lib.hid hrB2;have Hini:=Lib.hid hini;have HTA:=Lib.hid hTA;have HcB:=Lib.hid hcb;have HwA:=Lib.hid hwA;have Hl0:=Lib.hid hl0;have Hsc:=Lib.hid hsc;have HBA:=Lib.hid (hBw.trans (hbA.mono hszw));have HCS:=Lib.hid hCS;have HbA:=Lib.hid hbA
       have HCSl:=Lib.hid (show CS.length≤1100000 by rw [hCS];exact Nat.le_trans (HRI.out.c.len i) HL.out);have HiC:=Lib.hid (show i < C.cells.length by rw [HRI.out.lc];exact hil)
       have HFl:=Lib.hid (show (C.frees.getD i []).length≤1100000 from Nat.le_trans (HRI.out.f.len i) HL.out)
       have i0n:(0:Int)≤(i:Int):=Int.natCast_nonneg _
       have i1n:(i:Int) < (fr.length:Int):=by omega
       clear hT hfl hfs hSt hD hK hrB2 hrB hini hTA hcb hwA hl0 hsc hBw hFi hbY hcB hlo hY har hpr hbd hCS hvB hcB2 hbA
       go_upto_region 26 with fail
       generalize hwr:(wr.alloc (.cells #[.string nm,.int .i64 ar,.int .i64 (pr:Int),.slice none 0 0,.slice none 0 0,.slice none 0 0] 38))=wA at *
       clear hwr y0 y1 y2 y3 y4 y5 cg
       have hwAs:=HwA.out
       have hWA:=HBA.out.size
       generalize hbs:wr.heap.size=bs at *
       go_wp2_with fail
       skip
       go_loopw [130,19,140,143] (fun t _ _ _ wr=>∃ (q:Nat) (vL vC:Value),q≤bd.length∧t= .int .i64 q∧ScBx wA wr bs nm ar pr (locQ i CS (bd.take q)) (celQ i CS (bd.take q)) vL vC) (fun t _ _ _ _=>bd.length - (intOf t).toNat)
       case atStart=>exact ⟨0,_,_,by omega,rfl,by rw [List.take_zero,Hl0.out.1,Hl0.out.2];exact Hini.out⟩
       case round=>
        obtain ⟨q,vL,vC,hq,rfl,hX⟩:=hrel
        by_cases hql:q < bd.length
        · have t1':decide ((q:Int) < (bd.length:Int))=true:=by simp;omega
          obtain ⟨bz,oz,rfl,hbz,hz⟩:=HrB.out (by omega)
          have hz:=((hX.stp.cell (b:=bz) ⟨by omega,by omega⟩).trans (HBA.out.cell (p:=⟨bz,_,none⟩) hbz)).trans (hz q hql)
          have hlq:=locQ_snoc i CS bd q hql
          have hcq:=celQ_snoc i CS bd q hql
          have hLl:=locQ_len i CS (bd.take q)
          have hCl:=celQ_len i CS (bd.take q)
          have htl:(bd.take q).length≤bd.length:=by simp;omega
          obtain ⟨n,hn⟩:∃ n,n=bd[q]:=⟨_,rfl⟩
          rw [← hn] at hz hlq hcq
          obtain ⟨LL,hLL⟩:∃ LL,LL=locQ i CS (bd.take q):=⟨_,rfl⟩
          obtain ⟨LC,hLC⟩:∃ LC,LC=celQ i CS (bd.take q):=⟨_,rfl⟩
          rw [← hLL] at hX hlq hLl
          rw [← hLC] at hX hcq hCl
          have hszx:=hX.stp.size
          clear hn hLL hLC
          by_cases hi0:i=0
          · have t0:((i:Int) == 0)=true:=by rw [hi0];rfl
            rw [if_pos hi0,List.append_nil] at hlq hcq
            have HX:=Lib.hid hX;have Hlq:=Lib.hid hlq;have Hcq:=Lib.hid hcq
            clear hX hlq hcq hi0
            go_wp2_with fail
            go_roundw
            case rel=>exact ⟨q+1,_,_,by omega,by go_num,by rw [Hlq.out,Hcq.out];exact HX.out⟩
            case measure=>simp [intOf];omega
          · have t0:((i:Int) == 0)=false:=by rw [beq_eq_false_iff_ne];omega
            rw [if_neg hi0] at hlq hcq
            have hT5:=HTA.out.ystp HcB.out hX.stp
            have r1:=hT5.a.row.cell (i:=i) HiC.out
            have hhas:=has_any CS (v1 i) n _ (own_strs (by rw [HCS.out];exact hT5.a.own i HiC.out)) (by have:=HCSl.out;omega)
            obtain ⟨i0,hi,hz0,hz1,hz2⟩:=info_parts Tryz.infoStrg
            obtain ⟨vk,hvk⟩:∃ vk,vk=v1 i:=⟨_,rfl⟩
            rw [← hvk] at r1 hhas
            clear hT5 hvk
            rcases hb:CS.contains n with _ | _
            · rw [hb] at hhas hlq hcq
              simp only [Bool.false_eq_true,if_false,List.append_nil] at hlq hcq
              have c3:=cell_of_blk (o:=3) hX.blk
              have Hhas:=Lib.hid hhas;have Hlq:=Lib.hid hlq;have Hcq:=Lib.hid hcq;have HX:=Lib.hid hX
              have hownL:=hX.oL
              clear hhas hlq hcq hb
              go_wp2_with fail
              refine Hhas.out.mono ?_
              rintro _ w4 ⟨rfl,rfl⟩
              go_wp2_with (at_builtin;refine wpList_append_lies (wr.alloc (.cells #[.string (toBA n)] 9)) rfl (.tmp 135) (.tmp 137) 36 rfl (bs+1) 9 i0 _ 1 16 Tryz.underlying36 hi hz0 hz1 hz2 rfl (by decide) vL LL.length (strCs LL) rfl (hownL.alloc _) ⟨wr.heap.size,0,none⟩ 1 1 [.string (toBA n)] rfl rfl (World.news_of_block (cs:= #[.string (toBA n)]) (heap_alloc_new wr _)) (by simp [Value.oneCell']) (by decide) (by unfold maxLen;omega) (by omega) (by simp;omega) (wr.heap.size+1) (by simp) ?_;intro g5 cap5 w5 hown5 hg5 hat5 hlt5;have hb5:=(hg5.block bs (by simp;omega) (fun e=>by have:=(hownL.lt bs e.symm).1;omega)).trans ((Below.heap_alloc _ _ _ (by omega)).trans HX.out.blk);have z5:=cell_of_blk (o:=3) hb5;have f5:=frozen_of_blk (o:=3) hb5;have l5:=lt_of_blk hb5)
              have hX2:=Lib.hid (HX.out.putL HwA.out hg5 hown5 hat5)
              clear hown5 hg5 hat5 hlt5 hb5 z5 f5 l5
              go_roundw
              case rel=>exact ⟨q+1,_,_,by omega,by go_num,by rw [Hlq.out,Hcq.out];exact hX2.out⟩
              case measure=>simp [intOf];omega
            · rw [hb] at hhas hlq hcq
              simp only [if_true,List.append_nil] at hlq hcq
              have c4:=cell_of_blk (o:=4) hX.blk
              have Hhas:=Lib.hid hhas;have Hlq:=Lib.hid hlq;have Hcq:=Lib.hid hcq;have HX:=Lib.hid hX
              have hownC:=hX.oC
              clear hhas hlq hcq hb
              go_wp2_with fail
              refine Hhas.out.mono ?_
              rintro _ w4 ⟨rfl,rfl⟩
              go_wp2_with (at_builtin;refine wpList_append_lies (wr.alloc (.cells #[.string (toBA n)] 9)) rfl (.tmp 151) (.tmp 153) 36 rfl (bs+1) 9 i0 _ 1 16 Tryz.underlying36 hi hz0 hz1 hz2 rfl (by decide) vC LC.length (strCs LC) rfl (hownC.alloc _) ⟨wr.heap.size,0,none⟩ 1 1 [.string (toBA n)] rfl rfl (World.news_of_block (cs:= #[.string (toBA n)]) (heap_alloc_new wr _)) (by simp [Value.oneCell']) (by decide) (by unfold maxLen;omega) (by omega) (by simp;omega) (wr.heap.size+1) (by simp) ?_;intro g5 cap5 w5 hown5 hg5 hat5 hlt5;have hb5:=(hg5.block bs (by simp;omega) (fun e=>by have:=(hownC.lt bs e.symm).1;omega)).trans ((Below.heap_alloc _ _ _ (by omega)).trans HX.out.blk);have z5:=cell_of_blk (o:=4) hb5;have f5:=frozen_of_blk (o:=4) hb5;have l5:=lt_of_blk hb5)
              have hX2:=Lib.hid (HX.out.putC HwA.out hg5 hown5 hat5)
              clear hown5 hg5 hat5 hlt5 hb5 z5 f5 l5
              go_roundw
              case rel=>exact ⟨q+1,_,_,by omega,by go_num,by rw [Hlq.out,Hcq.out];exact hX2.out⟩
              case measure=>simp [intOf];omega
        · have t1':decide ((q:Int) < (bd.length:Int))=false:=by simp;omega
          obtain rfl:q=bd.length:=by omega
          rw [List.take_of_length_le (Nat.le_refl _)] at hX
          rename World=>w6
          have hT6:=HTA.out.ystp HcB.out hX.stp
          have hi2:i < fs.length:=by rw [Hfl.out];exact hil
          obtain ⟨F,hFq⟩:∃ F,F=C.frees.getD i []:=⟨_,rfl⟩
          have hFs:fs.getD i []=F:=by rw [hFq];exact Hfs.out i (Nat.le_refl _)
          have hown2:w6.ownsRow W.heap.size 9 1 (v2 i) F.length (strCs F):=by rw [← hFs];exact hT6.b.own i hi2
          have hFl2:F.length≤1100000:=by rw [hFq];exact HFl.out
          have hsort:=sort_any hown2 (by omega)
          have r2:=hT6.b.row.cell (i:=i) hi2
          obtain ⟨aL,cL,rfl,_,_⟩:=row_slice hX.oL
          obtain ⟨aC,cC,rfl,_,_⟩:=row_slice hX.oC
          obtain ⟨aF,cF,hvF,_,_⟩:=row_slice hown2
          have hcr2:=hT6.b.cr i hi2
          have hszx:=hX.stp.size
          obtain ⟨LL,hLL⟩:∃ LL,LL=locQ i CS bd:=⟨_,rfl⟩
          obtain ⟨LC,hLC⟩:∃ LC,LC=celQ i CS bd:=⟨_,rfl⟩
          have hsc:=Hsc.out
          rw [← hLL,← hLC,← hFq] at hsc
          rw [← hLL,← hLC] at hX
          have Hsort:=Lib.hid hsort;have HT6:=Lib.hid hT6;have HX:=Lib.hid hX;have HvF:=Lib.hid hvF;have Hcr2:=Lib.hid hcr2;have HFs:=Lib.hid hFs;have Hi2:=Lib.hid hi2;have Hscq:=Lib.hid hsc
          rw [hvF] at r2
          clear hT6 hi2 hFq hown2 hsort hX hvF hcr2 hFs hLL hLC hsc
          go_wp2_with fail
          refine (HvF.out ▸ Hsort.out).mono ?_
          rintro _ w7 ⟨rfl,hg7,hown7⟩
          rw [← HvF.out] at hg7
          have hT7:=HT6.out.sort i Hi2.out (fun l=>l.mergeSort leL) hg7 (by show w7.ownsRow _ _ _ _ ((fs.getD i []).mergeSort leL).length (strCs ((fs.getD i []).mergeSort leL));rw [HFs.out,HvF.out];exact hown7)
          have hb7:=(hg7.block bs (by omega) (fun e=>by have:=Hcr2.out bs e.symm;rw [HcB.out] at this;cases this)).trans HX.out.blk
          have r2:w7.cell? ⟨(W.heap.size+1),i,none⟩=some (.slice aF F.length cF):=by rw [← HvF.out];exact hT7.b.row.cell (by show i < (fs.modify i _).length;rw [List.length_modify];exact Hi2.out)
          have z7:=cell_of_blk (o:=5) hb7
          have f7:=frozen_of_blk (o:=5) hb7
          have l7:=lt_of_blk hb7
          have hb8:=heap_setCell_at (o:=5) (v:= .slice aF F.length cF) hb7
          have hT8:=hT7.ystp HcB.out (YStp.setc (y:=bs) (o:=5) (.slice aF F.length cF))
          have hkeep8:∀ b,b < bs→cc b≠some (2,i+1)→(w7.setCell ⟨bs,5,none⟩ (.slice aF F.length cF)).heap[b]? =wr.heap[b]? :=fun b hb hc=>
           (Below.heap_setCell _ _ _ _ (by show b≠bs;omega)).trans ((hg7.block b (by omega) (fun e=>hc (Hcr2.out b e.symm))).trans ((HX.out.stp.keep b (by omega) (by omega)).trans (HbA.out.block b (by omega))))
          have hnew8:∀ b,bs+1≤b→b < w6.heap.size→(w7.setCell ⟨bs,5,none⟩ (.slice aF F.length cF)).heap[b]? =w6.heap[b]? :=fun b hb hc=>
           (Below.heap_setCell _ _ _ _ (by show b≠bs;omega)).trans (hg7.block b hc (fun e=>by
             have e1:=Hcr2.out b e.symm
             have:=(HT.out.lo b _ e1).2;omega))
          have hcol7:=strs_col hT7 (i:=i) (by show i < (fs.modify i _).length;rw [List.length_modify];exact Hi2.out)
          have hcol8:StrsAt (w7.setCell ⟨bs,5,none⟩ (.slice aF F.length cF)) (fun b=>cc b=some (2,i+1)) (v2 i) (F.mergeSort leL):=by
           have e:(fs.modify i fun l=>l.mergeSort leL).getD i []=F.mergeSort leL:=by rw [getD_mod _ _ _ _ Hi2.out,if_pos rfl,HFs.out]
           rw [← e]
           exact hcol7.mono (fun b o hb=>World.cell?_of_block (Below.heap_setCell _ _ _ _ (by show b≠bs;intro e2;rw [e2,HcB.out] at hb;cases hb))) fun _ h=>h
          have hos8:(w7.setCell ⟨bs,5,none⟩ (.slice aF F.length cF)).os=wr.os∧(w7.setCell ⟨bs,5,none⟩ (.slice aF F.length cF)).tape=wr.tape∧(w7.setCell ⟨bs,5,none⟩ (.slice aF F.length cF)).output=wr.output:=And.intro (hg7.os.trans (HX.out.stp.os.trans HbA.out.os)) (And.intro (hg7.tape.trans (HX.out.stp.tape.trans HbA.out.tape)) (hg7.output.trans (HX.out.stp.output.trans HbA.out.output)))
          have hsz8:w6.heap.size≤(w7.setCell ⟨bs,5,none⟩ (.slice aF F.length cF)).heap.size:=by simpa using hg7.size
          have Hb8:=Lib.hid hb8;have HT8:=Lib.hid hT8;have Hkeep8:=Lib.hid hkeep8;have Hnew8:=Lib.hid hnew8;have Hcol8:=Lib.hid hcol8;have Hos8:=Lib.hid hos8;have Hsz8:=Lib.hid hsz8
          clear hb8 hT8 hT7 hg7 hown7 hb7 hkeep8 hnew8 hcol7 hcol8 Hsort hos8 hsz8
          go_upto_region 36 with fail
          clear z7 f7 l7 r2
          generalize hW8:(w7.setCell ⟨bs,5,none⟩ (.slice aF F.length cF))=W8 at *
          clear hW8
          have z0:W8.cell? ⟨bs,0,none⟩=some (.string nm):=cell_of_blk (o:=0) Hb8.out
          have z1:W8.cell? ⟨bs,1,none⟩=some (.int .i64 ar):=cell_of_blk (o:=1) Hb8.out
          have z2:W8.cell? ⟨bs,2,none⟩=some (.int .i64 (pr:Int)):=cell_of_blk (o:=2) Hb8.out
          have z3:W8.cell? ⟨bs,3,none⟩=some (.slice aL LL.length cL):=cell_of_blk (o:=3) Hb8.out
          have z4:W8.cell? ⟨bs,4,none⟩=some (.slice aC LC.length cC):=cell_of_blk (o:=4) Hb8.out
          have z5:W8.cell? ⟨bs,5,none⟩=some (.slice aF F.length cF):=cell_of_blk (o:=5) Hb8.out
          have hlen:((List.range i).map (scF fr C)).length=i:=by simp
          have hlo4:∀ b,b < wc.heap.size∨cc b=none:=fun b=>by
           rcases Nat.lt_or_ge b wc.heap.size with h | h
           · exact .inl h
           · exact .inr (HTc.out.fresh h)
          have hu14:∀ b,u14.ownBlock=some b→wc.heap.size≤b∧b < bs:=fun b e=>by have:=HD.out.own b e;omega
          have hownO:W8.ownsRow W.heap.size 38 6 u14 i (scCells ((List.range i).map (scF fr C)) ps):=by
           have h:=own_same HSt.out.own (w':=W8) (fun b e=>Hkeep8.out b (hu14 b e).2 (fun e2=>by
            have:=(HTc.out.lo b _ e2).2
            have:=(hu14 b e).1;omega))
           rw [hlen] at h
           exact h
          obtain ⟨j0,hj,hj0,hj1,hj2⟩:=info_parts Tryz.infoScope
          have Hlen:=Lib.hid hlen;have Hu14:=Lib.hid hu14;have Hlo4:=Lib.hid hlo4
          have hW8s:=Hsz8.out
          clear hlen hu14 hlo4
          go_wp2_with (at_builtin;refine wpList_append_lies (W8.alloc (.cells #[.string nm,.int .i64 ar,.int .i64 (pr:Int),.slice aL LL.length cL,.slice aC LC.length cC,.slice aF F.length cF] 38)) rfl (.tmp 167) (.tmp 169) 32 rfl W.heap.size 38 j0 _ 6 104 Tryz.underlying32 hj hj0 hj1 hj2 rfl (by decide) u14 i (scCells ((List.range i).map (scF fr C)) ps) rfl (hownO.alloc _) ⟨W8.heap.size,0,none⟩ 1 1 [.string nm,.int .i64 ar,.int .i64 (pr:Int),.slice aL LL.length cL,.slice aC LC.length cC,.slice aF F.length cF] rfl rfl (World.news_of_block (cs:= #[.string nm,.int .i64 ar,.int .i64 (pr:Int),.slice aL LL.length cL,.slice aC LC.length cC,.slice aF F.length cF]) (heap_alloc_new W8 _)) (by simp [Value.oneCell']) (by decide) (by unfold maxLen;omega) (by omega) (by simp;omega) (W8.heap.size+1) (by simp) ?_;intro g9 cap9 w9 hown9 hg9 hat9 hlt9)
          have hsz9:=hg9.size
          simp at hsz9
          have hk9:∀ b,b < W8.heap.size→u14.ownBlock≠some b→w9.heap[b]? =W8.heap[b]? :=fun b hb hne=>(hg9.block b (by simp;omega) (Ne.symm hne)).trans (Below.heap_alloc _ _ _ hb)
          have hg9b:wc.heap.size≤g9:=by
           rcases hat9 with e | e
           · exact (Hu14.out g9 e).1
           · omega
          have hgne:∀ b,b < W8.heap.size→u14.ownBlock≠some b→g9≠b:=fun b hb hne e=>by
           rcases hat9 with e2 | e2
           · rw [e] at e2;exact hne e2
           · omega
          have hc:∀ b,D b→w9.heap[b]? =wr.heap[b]? :=fun b hb=>by
           obtain ⟨h1,h2,h3,h4⟩:=HD.out.d b hb
           refine (hk9 b (by omega) h3).trans (Hkeep8.out b (by omega) fun e=> ?_)
           rcases h4 with h4 | ⟨j,h4,h5⟩
           · have:=(HTc.out.lo b _ e).2;omega
           · rw [h5] at e;simp at e;omega
          have hnewc:∀ b,bs+1≤b→b < w6.heap.size→w9.heap[b]? =w6.heap[b]? :=fun b h1 h2=>(hk9 b (by omega) (fun e=>by have:=(Hu14.out b e).2;omega)).trans (Hnew8.out b h1 h2)
          have hSt:=HSt.out.put (w1:=w9) (D':=Dn cc D i bs w9.heap.size (.slice (some ⟨g9,0,none⟩) (i+1) cap9)) (g:=g9) (cap:=cap9) ⟨ar,pr,LL,LC,F.mergeSort leL⟩ (nm,.slice aL LL.length cL,.slice aC LC.length cC,.slice aF F.length cF) (by rw [Hlen.out];exact hown9) hc (fun b hb=> .inl hb)
           ((own_strs HX.out.oL).mono (fun b o hb=>World.cell?_of_block (hnewc b hb.1 hb.2)) fun b hb=> .inr (.inl ⟨by have:=hb.1;omega,by have:=hb.2;omega,fun e=>hgne b (by have:=hb.2;omega) (fun e2=>by have:=(Hu14.out b e2).2;have:=hb.1;omega) (Option.some.inj e)⟩))
           ((own_strs HX.out.oC).mono (fun b o hb=>World.cell?_of_block (hnewc b hb.1 hb.2)) fun b hb=> .inr (.inl ⟨by have:=hb.1;omega,by have:=hb.2;omega,fun e=>hgne b (by have:=hb.2;omega) (fun e2=>by have:=(Hu14.out b e2).2;have:=hb.1;omega) (Option.some.inj e)⟩))
           (by
             have h:=Hcol8.out
             rw [HvF.out] at h
             exact h.mono (fun b o hb=>World.cell?_of_block (hk9 b (by have:=(HTc.out.lo b _ hb).2;omega) (fun e2=>by have:=(Hu14.out b e2).1;have:=(HTc.out.lo b _ hb).2;omega))) fun b hb=> .inr (.inr hb))
          rw [Hlen.out,← Hscq.out,show (List.range i).map (scF fr C) ++ [scF fr C i]=(List.range (i+1)).map (scF fr C) by rw [List.range_succ,List.map_append];rfl] at hSt
          have hDn:DOk W wc w9 cc (.slice (some ⟨g9,0,none⟩) (i+1) cap9) (i+1) (Dn cc D i bs w9.heap.size (.slice (some ⟨g9,0,none⟩) (i+1) cap9)):=by
           refine ⟨fun b e=> ?_,fun b hb=> ?_⟩
           · have e1:g9=b:=Option.some.inj e
             subst e1
             exact ⟨hg9b,hlt9⟩
           · rcases hb with hb | ⟨h1,h2,h3⟩ | hb
             · obtain ⟨h1,h2,h3,h4⟩:=HD.out.d b hb
               refine ⟨h1,by omega,fun e=>hgne b (by omega) h3 (Option.some.inj e),h4.imp id fun ⟨j,h5,h6⟩=>⟨j,by omega,h6⟩⟩
             · exact ⟨by omega,h2,h3,.inl (by omega)⟩
             · have h1:=HTc.out.lo b _ hb
               refine ⟨h1.1,by omega,fun e=> ?_,.inr ⟨i,by omega,hb⟩⟩
               have e1:g9=b:=Option.some.inj e
               omega
          have hKn:KStp cc wc w9:=⟨hg9.os.trans (Hos8.out.1.trans HK.out.os),hg9.tape.trans (Hos8.out.2.1.trans HK.out.tape),hg9.output.trans (Hos8.out.2.2.trans HK.out.output),by omega,fun b hb hj=>(hk9 b (by omega) (fun e2=>by have:=(Hu14.out b e2).1;omega)).trans ((Hkeep8.out b (by omega) (hj i)).trans (HK.out.keep b hb hj))⟩
          have hTn:=HT8.out.same (w':=w9) (by omega) (fun b r e=>hk9 b (HT8.out.lo b _ e).2 (fun e2=>by have:=(Hu14.out b e2).1;have:=(HTc.out.lo b _ e).2;omega))
          have hfsn:∀ j,i+1≤j→(fs.modify i fun l=>l.mergeSort leL).getD j []=C.frees.getD j []:=fun j hj=>by
           rw [getD_modifyL,if_neg (by omega)]
           exact Hfs.out j (by omega)
          have HZ1:=Lib.hid hSt;have HZ2:=Lib.hid hDn;have HZ3:=Lib.hid hKn;have HZ4:=Lib.hid hTn;have HZ5:=Lib.hid hfsn
          clear hSt hDn hKn hTn hfsn hown9 hg9 hat9 hlt9 hk9 hg9b hgne hc hnewc z0 z1 z2 z3 z4 z5 hownO
          go_wp2_with fail
          go_roundw
          case rel=>exact ⟨i+1,_,_,_,by omega,by go_num,HZ4.out,by rw [List.length_modify];exact Hfl.out,HZ5.out,HZ1.out,HZ2.out,HZ3.out⟩
          case measure=>simp [intOf];omega
     · have t1':decide ((i:Int) < (fr.length:Int))=false:=by simp;omega
       obtain rfl:i=fr.length:=by omega
       have hBw:=HBc.out.trans (hK.below HTc.out HBc.out.size)
       have hfin:=hSt.fin fun b hb=>⟨(hD.d b hb).1,(hD.d b hb).2.1⟩
       have hszW:=HbW.out.size
       have HE:=Lib.hid (show ScopesPost T w ss (.returned (.tuple #[u14,.nilIface])) wr from ⟨HbW.out.trans (hBw.mono hszW),.inr ⟨u14,rfl,HP.out.1,HP.out.2,by
        have e:scsF (firstF ss).fr=(List.range fr.length).map (scF fr C):=by rw [← Hfr.out,HC.out];rfl
        rw [e]
        exact hfin.mono (fun _ _ _=>rfl) fun b hb=>⟨Nat.le_trans hszW hb.1,hb.2⟩⟩⟩)
       clear hT hfl hfs hSt hD hK hBw hfin
       go_wp2_with fail
       refine bodyPost_ret (results_tmp2 rfl _ _ _) rfl ?_
       exact HE.out
end Go.Proofs.YtdoaeapahgmfoaaGreatDoor
