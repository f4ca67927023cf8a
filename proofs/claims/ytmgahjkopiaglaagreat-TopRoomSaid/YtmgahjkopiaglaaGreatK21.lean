/- Lemmas, walks and contracts by which the statement is proved. -/
import Derived.Test.YtmgahjkopiaglaaGreatK20
set_option maxRecDepth 100000
set_option maxHeartbeats 16000000
set_option linter.all false
namespace Go.Proofs.YtmgahjkopiaglaaGreat
open Go.RowKit Go.Proofs.Tryz
theorem seen_cells{seen:List Int}{n k:Nat}(hn:max seen.length (k+1)=n):((List.replicate n (Value.int .i64 0)).take 0++ints seen++(List.replicate n (Value.int .i64 0)).drop (0+(ints seen).length))=ints (seen++List.replicate (k+1-seen.length) 0):=by
 rw[sv,fW];have:n-seen.length=k+1-seen.length:=by omega
 simp[this,ints]
theorem ints_set(l:List Int)(i:Nat)(x:Int):(ints l).toArray.setIfInBounds i (.int .i64 x)=(ints (l.set i x)).toArray:=by simp[ints,wk]
theorem Nq(va vh:Value)(a:Ap)(h:Hu.Host)(seen:List Int)(sA:Option Addr)(sk link k:Nat)(fk fe fs fl fn fc:Int)(fp:List Pc.bG)(fq:List Int)(pA qA:Option Addr)(pk qk:Nat)(w:World)(S:Nat->Prop)(hS:∀b,S b->b<w.1.size)(ha:da Y.ap w S va a)(hh:da Y.ho w S vh h)(RL:ay Y.int false w S (.slice sA seen.length sk) seen)(hq:ay Y.int false w S (.slice qA fq.length qk) fq)(hL:a.az.length<=1000)(hlen:h.bD.length=(Gr.ins a.az h.node).length)(Eh:h.Z.length=(Gr.outs a.az h.node).length)(hw:(Tb.at_ a.T h.node h.state).waits.length<=1000)(rK:seen.length<=1000)(Q:k<=1000)(Ud:fq.length<=1000):
 Calls prog 158 #[va,vh,.slice sA seen.length sk,(link:Int),.agg #[fk,fe,fs,fl,.slice pA fp.length pk,(k:Int),fn,fc,.slice qA fq.length qk]] w λy w'=>(∃v1 v2 v3,y=.returned (.tuple #[v1,v2,v3])/\ay Y.int false w' (GY S w.1.size w'.1.size) v1 (V.nB a h seen link ⟨fk,fe,fs,fl,fp,k,fn,fc,fq⟩).1/\ay Y.Z false w' (bO w.1.size w'.1.size) v2 (V.nB a h seen link ⟨fk,fe,fs,fl,fp,k,fn,fc,fq⟩).2.1/\ay Y.int false w' (bO w.1.size w'.1.size) v3 (V.nB a h seen link ⟨fk,fe,fs,fl,fp,k,fn,fc,fq⟩).2.2)/\aY w w':=by
 obtain⟨nD,mU,mV,mm,rfl,kX,lM⟩:=ha.ap;obtain⟨gD,D',ma,uu,rfl,hh0,hh1⟩:=hh.ho;obtain⟨n,j6⟩:=cJ (max seen.length (k+1));have Nr:(max (seen.length:Int) ((k:Int)+1))=(n:Int):=by omega
 have xm:n<=1001:=by omega
 have Jr:k<n:=by omega
 have R8:=(λw2=>oI (P:=prog) 36 3 Tryz.eG underlying36 rfl (by omega) n (by omega) w2);obtain⟨ee,dO⟩:=RL.bounds;obtain⟨av,hR⟩:=cJ (V.nB a h seen link ⟨fk,fe,fs,fl,fp,k,fn,fc,fq⟩);rw[hR];replace RL:=U RL;change aK _ at hlen Eh j6 hR hS;go_in;go_upto_region 1 with fail
 refine OB λW1 ba bh bf I=>?_;have uD:=bf.lt;have J:=I;have z1:=I.size;clear I;have O:=iB ba bh bf;go_upto_region 2 with fail
 clear O;refine jt λW2 bs I=>?_;have zl2:=bs.lt;refine ja I ba bh bf J ?_;clear I ba bh bf J;intro z2 ba bh bf J;have O:=ld ba bh bf bs;go_upto_region 3 with fail
 clear O;obtain⟨c1,qX⟩:=cJ ((Gr.ins a.az h.node).contains (link:Int));obtain⟨c2,oW⟩:=cJ (V.blocked a h);obtain⟨gv,hgv⟩:=cJ (V.y9 a h (Gr.back a.az link));change aK _ at qX oW hgv;cases c1 with
 |false=>
  refine dr 1573968 (by kernel_rfl) λW3 hW=>?_;have I:aY W2 W3:=hW▸cT.drew;have K:=Ext.refl W3;clear hW;refine lD I ba bh bf bs J ?_;clear I ba bh bf bs J;intro z3 ba bh bf bs J;have O:=ld ba bh bf bs;refine aG [0,1,2,3] 21 ?_;go_wp2;clear O;refine rJ [5] 20 ?_;go_wp2;refine iJ ?_;refine oN 4 ?_;go_wp2_with fail;refine(mF a.n h.node _ a.az _ (kX.zero hS.Z J) (bT hL (by omega))).mono ?_;rintro e w4 ⟨⟨u,rfl,hu⟩,I⟩;refine xl I ba bh bf bs K J ?_;clear I ba bh bf bs K J;intro z4 ba bh bf bs K J;obtain⟨uA,uk,rfl,_⟩:=id hu;replace hu:=U hu;have hU:=bI w4.1.size w4;go_wp2;refine⟨λ_=>K,?_⟩;refine oN 6 ?_;go_wp2_with fail;refine(gG _ (link:Int) _ _ ((hu.aE λb _ q=>hU.block b q).aF (fH _) hU.size)).mono ?_;rintro e w5 ⟨rfl,I⟩;refine An I ba bh bf bs hU K J ?_;clear I ba bh bf bs hU K J;intro z5 ba bh bf bs hU K J;rw[qX.Z];go_wp2;refine⟨λ_=>K,?_⟩;refine aG [7,8,9] 15 ?_;go_wp2;refine oJ 10 ?_;go_wp2;refine⟨λ_=>K,?_⟩;have O:=ld ba bh bf bs;refine aG [11,12,13,16,17,18] 8 ?_;go_wp2;refine fX ?_;clear O;refine df K _ _ _ _ ?_;clear K;have K:=Ext.refl w5;have O:=ld ba bh bf bs;refine rD [14,15,21,22] 4 ?_;go_wp2;refine iJ ?_;clear O;refine oN 19 ?_;go_wp2;refine⟨λ_=>K,?_⟩;refine oN 20 ?_;go_wp2;refine⟨λ_=>K,?_⟩;refine aG [23,24] 0 ?_;go_wp2;refine eJ ?_;have HV:aK (av=(seen,[],[])):=U (by rw[<-hR.Z];unfold V.nB;rw[aS (.inl qX.Z)]);have O:=ld ba bh bf bs;go_wp2;go_ret3;exact⟨⟨_,_,_,rfl,by rw[HV.Z];exact((RL.aE (dx hS J))).aF λb q=> .inl q,by rw[HV.Z];exact ay.none_,by rw[HV.Z];exact ay.none_⟩,J⟩
 |true=>
  cases c2 with
  |false=>
   refine dr 1573968 (by kernel_rfl) λW3 hW=>?_;have I:aY W2 W3:=hW▸cT.drew;have K:=Ext.refl W3;clear hW;refine lD I ba bh bf bs J ?_;clear I ba bh bf bs J;intro z3 ba bh bf bs J;have O:=ld ba bh bf bs;refine aG [0,1,2,3] 21 ?_;go_wp2;clear O;refine rJ [5] 20 ?_;go_wp2;refine iJ ?_;refine oN 4 ?_;go_wp2_with fail;refine(mF a.n h.node _ a.az _ (kX.zero hS.Z J) (bT hL (by omega))).mono ?_;rintro e w4 ⟨⟨u,rfl,hu⟩,I⟩;refine xl I ba bh bf bs K J ?_;clear I ba bh bf bs K J;intro z4 ba bh bf bs K J;obtain⟨uA,uk,rfl,_⟩:=id hu;replace hu:=U hu;have hU:=bI w4.1.size w4;go_wp2;refine⟨λ_=>K,?_⟩;refine oN 6 ?_;go_wp2_with fail;refine(gG _ (link:Int) _ _ ((hu.aE λb _ q=>hU.block b q).aF (fH _) hU.size)).mono ?_;rintro e w5 ⟨rfl,I⟩;refine An I ba bh bf bs hU K J ?_;clear I ba bh bf bs hU K J;intro z5 ba bh bf bs hU K J;rw[qX.Z];go_wp2;refine⟨λ_=>K,?_⟩;refine aG [7,8,9] 15 ?_;go_wp2;refine oJ 10 ?_;go_wp2_with fail;refine(pD a h _ _ _ _ _ _ _ _ _ S (j2 hS J.size) (lM.aE (dx hS J))).mono ?_;rintro e w6 ⟨rfl,I⟩;refine An I ba bh bf bs hU K J ?_;clear I ba bh bf bs hU K J;intro z6 ba bh bf bs hU K J;rw[oW.Z];go_wp2;refine⟨λ_=>K,?_⟩;have O:=ld ba bh bf bs;refine aG [11,12,13,16,17,18] 8 ?_;go_wp2;refine fX ?_;clear O;refine df K _ _ _ _ ?_;clear K;have K:=Ext.refl w6;have O:=ld ba bh bf bs;refine rD [14,15,21,22] 4 ?_;go_wp2;refine iJ ?_;clear O;refine oN 19 ?_;go_wp2;refine⟨λ_=>K,?_⟩;refine oN 20 ?_;go_wp2;refine⟨λ_=>K,?_⟩;refine aG [23,24] 0 ?_;go_wp2;refine eJ ?_;have HV:aK (av=(seen,[],[])):=U (by rw[<-hR.Z];unfold V.nB;rw[aS (.inr (.inl oW.Z))]);have O:=ld ba bh bf bs;go_wp2;go_ret3;exact⟨⟨_,_,_,rfl,by rw[HV.Z];exact((RL.aE (dx hS J))).aF λb q=> .inl q,by rw[HV.Z];exact ay.none_,by rw[HV.Z];exact ay.none_⟩,J⟩
  |true=>
   by_cases RM:gv=fc
   case neg=>
    have q9:(gv !=fc)=true:=by simp[RM]
    replace RM:=U RM;refine dr 1573968 (by kernel_rfl) λW3 hW=>?_;have I:aY W2 W3:=hW▸cT.drew;have K:=Ext.refl W3;clear hW;refine lD I ba bh bf bs J ?_;clear I ba bh bf bs J;intro z3 ba bh bf bs J;have O:=ld ba bh bf bs;refine aG [0,1,2,3] 21 ?_;go_wp2;clear O;refine rJ [5] 20 ?_;go_wp2;refine iJ ?_;refine oN 4 ?_;go_wp2_with fail;refine(mF a.n h.node _ a.az _ (kX.zero hS.Z J) (bT hL (by omega))).mono ?_;rintro e w4 ⟨⟨u,rfl,hu⟩,I⟩;refine xl I ba bh bf bs K J ?_;clear I ba bh bf bs K J;intro z4 ba bh bf bs K J;obtain⟨uA,uk,rfl,_⟩:=id hu;replace hu:=U hu;have hU:=bI w4.1.size w4;go_wp2;refine⟨λ_=>K,?_⟩;refine oN 6 ?_;go_wp2_with fail;refine(gG _ (link:Int) _ _ ((hu.aE λb _ q=>hU.block b q).aF (fH _) hU.size)).mono ?_;rintro e w5 ⟨rfl,I⟩;refine An I ba bh bf bs hU K J ?_;clear I ba bh bf bs hU K J;intro z5 ba bh bf bs hU K J;rw[qX.Z];go_wp2;refine⟨λ_=>K,?_⟩;refine aG [7,8,9] 15 ?_;go_wp2;refine oJ 10 ?_;go_wp2_with fail;refine(pD a h _ _ _ _ _ _ _ _ _ S (j2 hS J.size) (lM.aE (dx hS J))).mono ?_;rintro e w6 ⟨rfl,I⟩;refine An I ba bh bf bs hU K J ?_;clear I ba bh bf bs hU K J;intro z6 ba bh bf bs hU K J;rw[oW.Z];go_wp2;refine⟨λ_=>K,?_⟩;have O:=ld ba bh bf bs;refine aG [11,12,13,16,17,18] 8 ?_;go_wp2;refine fX ?_;clear O;refine df K _ _ _ _ ?_;clear K;have K:=Ext.refl w6;have O:=ld ba bh bf bs;refine rD [14,15,21,22] 4 ?_;go_wp2;refine iJ ?_;clear O;refine oN 19 ?_;go_wp2_with fail;refine(tU a.n (link:Int) _ a.az _ (kX.zero hS.Z J)).mono ?_;rintro e w7 ⟨rfl,I⟩;refine An I ba bh bf bs hU K J ?_;clear I ba bh bf bs hU K J;intro z7 ba bh bf bs hU K J;go_wp2;refine⟨λ_=>K,?_⟩;refine oN 20 ?_;go_wp2_with fail;refine(BM _ _ a h (Gr.back a.az link) _ S (j2 hS J.size) (da.PY (kX.aE (dx hS J)) (lM.aE (dx hS J))) (da.Jo (hh0.aE (dx hS J)) (hh1.aE (dx hS J))) hL Eh.Z).mono ?_;rintro e w8 ⟨rfl,I⟩;refine An I ba bh bf bs hU K J ?_;clear I ba bh bf bs hU K J;intro z8 ba bh bf bs hU K J;rw[hgv.Z];go_wp2;refine⟨λ_=>K,?_⟩;refine aG [23,24] 0 ?_;go_wp2;refine eJ ?_;have HV:aK (av=(seen,[],[])):=U (by rw[<-hR.Z];unfold V.nB;rw[aS (.inr (.inr (by rw[hgv.Z];exact RM.Z)))]);have O:=ld ba bh bf bs;go_wp2;go_ret3;exact⟨⟨_,_,_,rfl,by rw[HV.Z];exact((RL.aE (dx hS J))).aF λb q=> .inl q,by rw[HV.Z];exact ay.none_,by rw[HV.Z];exact ay.none_⟩,J⟩
   case pos=>
    have q9:(gv !=fc)=false:=by simp[RM]
    replace RM:=U RM;refine dr 1573968 (by kernel_rfl) λW3 hW=>?_;have I:aY W2 W3:=hW▸cT.drew;have K:=Ext.refl W3;clear hW;refine lD I ba bh bf bs J ?_;clear I ba bh bf bs J;intro z3 ba bh bf bs J;have O:=ld ba bh bf bs;refine aG [0,1,2,3] 21 ?_;go_wp2;clear O;refine rJ [5] 20 ?_;go_wp2;refine iJ ?_;refine oN 4 ?_;go_wp2_with fail;refine(mF a.n h.node _ a.az _ (kX.zero hS.Z J) (bT hL (by omega))).mono ?_;rintro e w4 ⟨⟨u,rfl,hu⟩,I⟩;refine xl I ba bh bf bs K J ?_;clear I ba bh bf bs K J;intro z4 ba bh bf bs K J;obtain⟨uA,uk,rfl,_⟩:=id hu;have HU:=U hu;clear hu;have hU:=bI w4.1.size w4;go_wp2;refine⟨λ_=>K,?_⟩;refine oN 6 ?_;go_wp2_with fail;refine(gG _ (link:Int) _ _ ((HU.aE λb _ q=>hU.block b q).aF (fH _) hU.size)).mono ?_;rintro e w5 ⟨rfl,I⟩;refine An I ba bh bf bs hU K J ?_;clear I ba bh bf bs hU K J;intro z5 ba bh bf bs hU K J;rw[qX.Z];go_wp2;refine⟨λ_=>K,?_⟩;refine aG [7,8,9] 15 ?_;go_wp2;refine oJ 10 ?_;go_wp2_with fail;refine(pD a h _ _ _ _ _ _ _ _ _ S (j2 hS J.size) (lM.aE (dx hS J))).mono ?_;rintro e w6 ⟨rfl,I⟩;refine An I ba bh bf bs hU K J ?_;clear I ba bh bf bs hU K J;intro z6 ba bh bf bs hU K J;rw[oW.Z];go_wp2;refine⟨λ_=>K,?_⟩;have O:=ld ba bh bf bs;refine aG [11,12,13,16,17,18] 8 ?_;go_wp2;refine fX ?_;clear O;refine df K _ _ _ _ ?_;clear K;have K:=Ext.refl w6;have O:=ld ba bh bf bs;refine rD [14,15,21,22] 4 ?_;go_wp2;refine iJ ?_;clear O;refine oN 19 ?_;go_wp2_with fail;refine(tU a.n (link:Int) _ a.az _ (kX.zero hS.Z J)).mono ?_;rintro e w7 ⟨rfl,I⟩;refine An I ba bh bf bs hU K J ?_;clear I ba bh bf bs hU K J;intro z7 ba bh bf bs hU K J;go_wp2;refine⟨λ_=>K,?_⟩;refine oN 20 ?_;go_wp2_with fail;refine(BM _ _ a h (Gr.back a.az link) _ S (j2 hS J.size) (da.PY (kX.aE (dx hS J)) (lM.aE (dx hS J))) (da.Jo (hh0.aE (dx hS J)) (hh1.aE (dx hS J))) hL Eh.Z).mono ?_;rintro e w8 ⟨rfl,I⟩;refine An I ba bh bf bs hU K J ?_;clear I ba bh bf bs hU K J;intro z8 ba bh bf bs hU K J;rw[hgv.Z];go_wp2;refine⟨λ_=>K,?_⟩;refine aG [23,24] 0 ?_;go_wp2;refine eJ ?_;have uf:¬((Gr.ins a.az h.node).contains (link:Int)=false\/V.blocked a h=false\/V.y9 a h (Gr.back a.az link)≠fc):=by rw[qX.Z,oW.Z,hgv.Z,RM.Z];simp
    replace uf:=U uf;clear q9;by_cases hi:(k:Int)=h.node
    ·have q8:((k:Int)==h.node)=true:=by simp[hi]
     replace hi:=U hi;have O:=ld ba bh bf bs;go_wp2_with fail;refine(PC _ fq _ (hq.zero hS.Z J) (by omega)).mono ?_;clear O;rintro e w9 ⟨⟨u,rfl,hu⟩,I⟩;refine xl I ba bh bf bs hU J ?_;clear I ba bh bf bs hU J;intro z9 ba bh bf bs hU J;obtain⟨uA2,uk2,rfl,_⟩:=id hu;replace hu:=U hu;have HV:aK (av=(seen,[],fq)):=U (by rw[<-hR.Z];unfold V.nB;rw[aO uf.Z,aS hi.Z]);have O:=ld ba bh bf bs;go_wp2;go_ret3;exact⟨⟨_,_,_,rfl,by rw[HV.Z];exact((RL.aE (dx hS J))).aF λb q=> .inl q,by rw[HV.Z];exact ay.none_,by rw[HV.Z];exact hu.soft.on.aF λb q=>⟨by have:=bO.lo q;omega,bO.hi q⟩⟩,J⟩
    ·have q8:((k:Int)==h.node)=false:=by simp[hi]
     replace hi:=U hi;have O:=ld ba bh bf bs;go_upto_region 7 with fail
     clear O;clear q8;obtain⟨lv,hlv⟩:=cJ (seen.getD k 0);change aK _ at hlv;refine dr 8 (by kernel_rfl) λW9 hW=>?_;have I:aY w8 W9:=hW▸cT.drew;have K:=Ext.refl W9;clear hW;refine xl I ba bh bf bs hU J ?_;clear I ba bh bf bs hU J;intro z9 ba bh bf bs hU J;have O:=ld ba bh bf bs;refine aG [0,1,2] 4 ?_;go_wp2;clear O;have O:=ld ba bh bf bs;refine rJ [4,5] 2 ?_;go_wp2;refine iJ ?_;clear O;refine oN 3 ?_;go_wp2_with fail;refine(Np _ seen k _ (RL.zero hS.Z J)).mono ?_;rintro e Ei ⟨rfl,I⟩;refine An I ba bh bf bs hU K J ?_;clear I ba bh bf bs hU K J;intro z10 ba bh bf bs hU K J;rw[hlv.Z];go_wp2;refine⟨λ_=>K,?_⟩;refine aG [6] 0 ?_;go_wp2;refine eJ ?_;by_cases H7:fn<=lv
     ·have q7:lv>=fn:=H7;have HV:aK (av=(seen,[],[])):=U (by rw[<-hR.Z];unfold V.nB;rw[aO uf.Z,aO hi.Z];exact aS (by rw[dG,hlv.Z];exact H7));have O:=ld ba bh bf bs;go_wp2;go_ret3;exact⟨⟨_,_,_,rfl,by rw[HV.Z];exact((RL.aE (dx hS J))).aF λb q=> .inl q,by rw[HV.Z];exact ay.none_,by rw[HV.Z];exact ay.none_⟩,J⟩
     ·have q7:¬lv>=fn:=H7;have HV:aK (av=(V.AB seen k fn,V.dp a h k fn fq,[])):=U (by rw[<-hR.Z];unfold V.nB;rw[aO uf.Z,aO hi.Z];exact(aO (by rw[dG,hlv.Z];exact H7)).trans (by rw[dG]));have O:=ld ba bh bf bs;go_upto_region 10 with fail
      clear O;refine bK λQn hW=>?_;replace ba:=G.eqv hW (ba.alloc _);replace bh:=G.eqv hW (bh.alloc _);replace bf:=G.eqv hW (bf.alloc _);replace bs:=G.eqv hW (bs.alloc _);have m1:G Qn (Ei.1.size) (List.replicate n (.int .i64 0)).toArray 3:=hW▸G.kZ _ _ (by simp);replace J:=Below.eqv hW (J.alloc (by have:=J.size;simp;omega) _);replace hU:=Below.eqv hW (hU.alloc (by have:=hU.size;simp;omega) _);have z11:Ei.1.size+1<=Qn.1.size:=hW▸(by simp[World.setCell]);clear hW;clear R8 Nr q7 H7;obtain⟨bac,baf,bal⟩:=ba.open_;obtain⟨bhc,bhf,bhl⟩:=bh.open_;obtain⟨bfc,bff,bfl⟩:=bf.open_;obtain⟨bsc,bsf,bsl⟩:=bs.open_;obtain⟨m1c,XG,XH⟩:=m1.open_;by_cases Gs:seen.length=0;focus
       replace Gs:=U Gs;go_upto_region 11 with(refine wpList_copy_nothing rfl (.tmp 71) (.tmp 72) 36 36 rfl 3 underlying36 (by kernel_rfl) _ _ _ _ _ _ rfl rfl (by rw[Gs.Z];exact Nat.zero_min _) ?_)
       clear bac baf bal bhc bhf bhl bfc bff bfl bsc bsf bsl m1c XG XH;have m1':G Qn (Ei.1.size) (ints (seen++List.replicate (k+1-seen.length) 0)).toArray 3:=by
        have e1:seen=[]:=ib Gs.Z;have e2:n=k+1:=by have:=j6.Z;rw[e1] at this;simp at this;omega
        rw[e1];rw[e2] at m1;simpa[ints] using m1
       clear m1;have m1:=m1';clear m1';have sM:(seen++List.replicate (k+1-seen.length) 0).length=n:=by have:=j6.Z;simp;omega
       obtain⟨b0,iv⟩:=Pc.get_at (show k<(seen++List.replicate (k+1-seen.length) 0).length by omega);change aK _ at sM;have c9:Qn.cell? ⟨Ei.1.size,k,none⟩=some (.int .i64 b0):=(aD m1 k).trans (by simp only[dY,ints,z',iv];rfl);clear iv;have O:=ld ba bh bf bs;have XG:=m1.mO k;have XH:=m1.lt;go_upto_region 12 with fail
       clear O;clear c9 XG XH;refine bK λrq hW=>?_;have vO:∀k,k≠Ei.1.size->rq.1[k]?=Qn.1[k]?:=λk Q=>hW▸dF _ _ _ _ (by simpa using Q);have mW:Below (Ei.1.size) Qn rq:=hW▸(bI (Ei.1.size) Qn).setCell (show Ei.1.size<=Ei.1.size from bE) _;have m2:G rq (Ei.1.size) (ints ((seen++List.replicate (k+1-seen.length) 0).set k fn)).toArray 3:=by have:=m1.bd k (.int .i64 fn);rw[ints_set] at this;exact hW▸this
       clear hW m1;have m1:=m2;clear m2;replace ba:=G.tr (vO _ (by omega)) ba;replace bh:=G.tr (vO _ (by omega)) bh;replace bf:=G.tr (vO _ (by omega)) bf;replace bs:=G.tr (vO _ (by omega)) bs;replace J:=J.trans (mW.mono (by omega));replace hU:=hU.trans (mW.mono (by omega));have aiu:Qn.1.size<=rq.1.size:=by first |exact mW.size|omega
       clear vO mW;have HM:=U m1;have O:=ld ba bh bf bs;go_wp2_with fail;have hM:=bI rq.1.size rq;refine(vo a h _ _ _ _ qA _ _ _ _ qk (k:Int) fn fq _ S (j2 hS J.size) (da.PY (kX.aE (dx hS J)) (lM.aE (dx hS J))) (da.Jo (hh0.aE (dx hS J)) (hh1.aE (dx hS J))) (hq.aE (dx hS J)) hL hlen.Z hw Ud).mono ?_;clear O;rintro e w13 ⟨⟨u,rfl,hu⟩,I⟩;refine Xq I ba bh bf bs m1 hU hM J ?_;clear I ba bh bf bs m1 hU hM J;intro z13 ba bh bf bs m1 hU hM J;obtain⟨uA3,uk3,rfl,_⟩:=id hu;replace hu:=U hu;go_wp2;go_ret3;have uh:=ay.vj (r:=Y.int) (fr:=false) (S:=GY S w.1.size w13.1.size) (HM.next hM) (kt _ _ _ _) (.inr ⟨by omega,by have:=(HM.next hM).lt;omega⟩) (by rw[fG,sM.Z];omega)
      rotate_left;focus
       obtain⟨cells,hc1a,hc2a⟩:=((RL.aE (dx hS J))).arr;obtain⟨g3,o3,Y0,_,Kk⟩:=hc2a (by omega);obtain rfl:=wA hc1a;replace Kk:=U Kk;clear hc1a hc2a;subst Y0;go_upto_region 11 with(refine fQ rfl (.tmp 71) (.tmp 72) 36 36 rfl 3 1 underlying36 (by kernel_rfl) (Ei.1.size) 0 n n ⟨g3,o3,none⟩ seen.length sk seen.length rfl rfl (by have:=j6.Z;exact qJ (by omega)) _ 3 m1 (ints seen) (by rw[fW];omega) (λj v hj=>by rw[kB];exact(Kk j v hj).1) (by have:=j6.Z;rw[fW];simp;omega) (Pa _) ?_;intro KE Up Ni qo)
       clear bac baf bal bhc bhf bhl bfc bff bfl bsc bsf bsl m1c XG XH;replace m1:G KE (Ei.1.size) (ints (seen++List.replicate (k+1-seen.length) 0)).toArray 3:=by
        have:=seen_cells j6.Z;unfold G;rw[<-this];exact Up
       clear Up;replace ba:=G.tr (Ni _ (by omega)) ba;replace bh:=G.tr (Ni _ (by omega)) bh;replace bf:=G.tr (Ni _ (by omega)) bf;replace bs:=G.tr (Ni _ (by omega)) bs;replace J:=J.trans (qo.mono (by omega));replace hU:=hU.trans (qo.mono (by omega));have aiv:Qn.1.size<=KE.1.size:=by first |exact qo.size|omega
       clear Ni qo;have sM:(seen++List.replicate (k+1-seen.length) 0).length=n:=by have:=j6.Z;simp;omega
       obtain⟨b0,iv⟩:=Pc.get_at (show k<(seen++List.replicate (k+1-seen.length) 0).length by omega);change aK _ at sM;have c9:KE.cell? ⟨Ei.1.size,k,none⟩=some (.int .i64 b0):=(aD m1 k).trans (by simp only[dY,ints,z',iv];rfl);clear iv;have O:=ld ba bh bf bs;have XG:=m1.mO k;have XH:=m1.lt;go_upto_region 12 with fail
       clear O;clear c9 XG XH;refine bK λVN hW=>?_;have vO:∀k,k≠Ei.1.size->VN.1[k]?=KE.1[k]?:=λk Q=>hW▸dF _ _ _ _ (by simpa using Q);have mW:Below (Ei.1.size) KE VN:=hW▸(bI (Ei.1.size) KE).setCell (show Ei.1.size<=Ei.1.size from bE) _;have m2:G VN (Ei.1.size) (ints ((seen++List.replicate (k+1-seen.length) 0).set k fn)).toArray 3:=by have:=m1.bd k (.int .i64 fn);rw[ints_set] at this;exact hW▸this
       clear hW m1;have m1:=m2;clear m2;replace ba:=G.tr (vO _ (by omega)) ba;replace bh:=G.tr (vO _ (by omega)) bh;replace bf:=G.tr (vO _ (by omega)) bf;replace bs:=G.tr (vO _ (by omega)) bs;replace J:=J.trans (mW.mono (by omega));replace hU:=hU.trans (mW.mono (by omega));have aiw:KE.1.size<=VN.1.size:=by first |exact mW.size|omega
       clear vO mW;have HM:=U m1;have O:=ld ba bh bf bs;go_wp2_with fail;have hM:=bI VN.1.size VN;refine(vo a h _ _ _ _ qA _ _ _ _ qk (k:Int) fn fq _ S (j2 hS J.size) (da.PY (kX.aE (dx hS J)) (lM.aE (dx hS J))) (da.Jo (hh0.aE (dx hS J)) (hh1.aE (dx hS J))) (hq.aE (dx hS J)) hL hlen.Z hw Ud).mono ?_;clear O;rintro e w33 ⟨⟨u,rfl,hu⟩,I⟩;refine Xq I ba bh bf bs m1 hU hM J ?_;clear I ba bh bf bs m1 hU hM J;intro YT ba bh bf bs m1 hU hM J;obtain⟨uA3,uk3,rfl,_⟩:=id hu;replace hu:=U hu;go_wp2;go_ret3;have uh:=ay.vj (r:=Y.int) (fr:=false) (S:=GY S w.1.size w33.1.size) (HM.next hM) (kt _ _ _ _) (.inr ⟨by omega,by have:=(HM.next hM).lt;omega⟩) (by rw[fG,sM.Z];omega)
      all_goals
       rw[fG,sM.Z] at uh;exact⟨⟨_,_,_,rfl,by rw[HV.Z];exact uh,by rw[HV.Z];exact hu.aF λb q=>⟨by have:=bO.lo q;omega,bO.hi q⟩,by rw[HV.Z];exact ay.none_⟩,J⟩
theorem dm.mw{fr:Bool}{w:World}{S:Nat->Prop}{k:Nat}{A:Option Addr}{xs:List Pc.bG}{x:Pc.bG}(h:dm Y.piece fr w S A xs)(D:xs[k]?=some x):
 ∃g o B0 c0 B1 c1 B2 c2,A=some ⟨g,o,none⟩/\S g/\(∀i,i<6->w.cell? ⟨g,o+k * 6+i,none⟩=[Value.int .i64 x.node,.int .i64 x.state,.int .i64 x.steps,.slice B0 x.aQ.length c0,.slice B1 x.bD.length c1,.slice B2 x.Z.length c2][i]?)/\
  ay Y.int fr w S (.slice B0 x.aQ.length c0) x.aQ/\ay Y.msg.slice fr w S (.slice B1 x.bD.length c1) x.bD/\ay Y.int.slice fr w S (.slice B2 x.Z.length c2) x.Z:=by
 obtain⟨g,o,cs,rfl,F,⟨a,b,c,rfl,R,h3,h4⟩,h5⟩:=dm.at_ h D;obtain⟨B0,c0,rfl,_⟩:=id R;obtain⟨B1,c1,rfl,_⟩:=id h3;obtain⟨B2,c2,rfl,_⟩:=id h4;refine⟨g,o,B0,c0,B1,c1,B2,c2,rfl,F,λi hi=>?_,R,h3,h4⟩;have e:∀u,[Value.int .i64 x.node,x.state,x.steps,.slice B0 x.aQ.length c0,.slice B1 x.bD.length c1,.slice B2 x.Z.length c2][i]?=some u->w.cell? ⟨g,o+k * 6+i,none⟩=some u:=λu hu=>by simpa[Y.piece,fK] using(h5 i u hu).1
 obtain⟨u,hu⟩:∃u,[Value.int .i64 x.node,x.state,x.steps,.slice B0 x.aQ.length c0,.slice B1 x.bD.length c1,.slice B2 x.Z.length c2][i]?=some u:=⟨_,eu (by simpa using hi)⟩;rw[hu];exact e u hu
theorem da.mw{w:World}{S:Nat->Prop}{x:Pc.bG}{a b c:Value}(h0:ay Y.int false w S a x.aQ)(F:ay Y.msg.slice false w S b x.bD)(R:ay Y.int.slice false w S c x.Z):da Y.piece w S (.agg #[x.node,x.state,x.steps,a,b,c]) x:=
 ⟨[_,_,_,_,_,_],rfl,a,b,c,rfl,h0,F,R⟩
theorem KK(x:Pc.bG)(v:Value)(w:World)(S:Nat->Prop)(hS:∀b,S b->b<w.1.size)(h:da Y.piece w S v x):
 Calls prog 163 #[v] w λy w'=>y=.returned (.int .i64 x.state)/\aY w w':=by
 obtain⟨cs,rfl,a,b,c,rfl,F,R,h3⟩:=h;change aK _ at hS;go_in;go_upto_region 1 with fail
 refine jt λW1 bp I=>?_;have uD:=bp.lt;have J:=I;have z1:=I.size;clear I;have O:=ch bp;go_wp2;go_ret;exact⟨rfl,J⟩
theorem KM(x:Pc.bG)(v:Value)(w:World)(S:Nat->Prop)(hS:∀b,S b->b<w.1.size)(h:da Y.piece w S v x):
 Calls prog 166 #[v] w λy w'=>y=.returned (.int .i64 x.steps)/\aY w w':=by
 obtain⟨cs,rfl,a,b,c,rfl,F,R,h3⟩:=h;change aK _ at hS;go_in;go_upto_region 1 with fail
 refine jt λW1 bp I=>?_;have uD:=bp.lt;have J:=I;have z1:=I.size;clear I;have O:=ch bp;go_wp2;go_ret;exact⟨rfl,J⟩
theorem KN(ps:List Pc.bG)(A:Option Addr)(c:Nat)(w:World)(S:Nat->Prop)(hS:∀b,S b->b<w.1.size)(h:ay Y.piece false w S (.slice A ps.length c) ps)(hn:ps.length<=1000000):
 Calls prog 162 #[.slice A ps.length c,.func (.func 163) #[] #[]] w λy w'=>(∃u,y=.returned u/\aM Y.int true w' w.1.size w'.1.size u (ps.map (·.state)))/\aY w w':=by
 have J:=bI w.1.size w;obtain⟨ee,dO⟩:=h.bounds;replace h:=U h;change aK _ at hS;go_in;go_wp2;go_loopg [5,7,10] ps.length (λq s _ i wr=>∃j:Nat,i=.int .i64 (j:Int)/\j<=ps.length/\q=ps.length-j/\wr.ownsRow w.1.size 3 1 s ((ps.take j).map (·.state)).length (ints ((ps.take j).map (·.state)))/\aY w wr)
 case atStart=>exact⟨0,rfl,by omega,by omega,⟨rfl,.inl ⟨rfl,rfl⟩⟩,J⟩
 case round=>
  clear J;obtain⟨j,rfl,hj,Q,hr,J⟩:=hrel;have Hr:=U hr;clear hr;change aK _ at Q;by_cases bY:j<ps.length
  ·obtain⟨x,D⟩:=Pc.get_at bY;obtain⟨gx,ox,B0,c0,B1,c1,B2,c2,hA,jy,hc,AE,iP,iF⟩:=((h.aE (dx hS J))).arr.mw D;subst hA;have L6:∀b,S b->b<wr.1.size:=λb q=>aU (hS b q) J.size;change aK _ at L6;have gg:gx<wr.1.size:=aU (hS gx jy) J.size;have kH:=Pc.de D;have d0:=hc 0 (by omega);have d1:=hc 1 (by omega);have d2:=hc 2 (by omega);have d3:=hc 3 (by omega);have d4:=hc 4 (by omega);have d5:=hc 5 (by omega);simp only[eR,eZ,iS] at d0 d1 d2 d3 d4 d5;clear hc;replace kH:=U kH;replace D:=U D;replace AE:=U AE;replace iP:=U iP;replace iF:=U iF;have hO:=bI wr.1.size wr;go_upto_region 5 with fail
   refine jt λW6 bx I=>?_;have zl6:=bx.lt;refine lW I hO J ?_;clear I hO J;intro z6 hO J;clear d0 d1 d2 d3 d4 d5;have O:=ch bx;go_wp2_with fail;refine(KK x _ _ S (j2 hS J.size) (da.mw (AE.aE (dx L6 hO)) (iP.aE (dx L6 hO)) (iF.aE (dx L6 hO)))).mono ?_;clear O;rintro e w7 ⟨rfl,I⟩;refine iX I bx hO J ?_;clear I bx hO J;intro z7 bx hO J;have Az:=mK Hr.Z λb _ q=>hO.block b q;have qT:((ps.take j).map (·.state)).length=j:=by simp;omega
   have RI:=J.size;have O:=ch bx;go_wp2_with (at_builtin;refine jS rfl _ _ 36 rfl w.1.size 3 Tryz.eG underlying36 rfl _ _ _ rfl Az (.int .i64 x.state) rfl rfl (by omega) (by omega) (by omega) ?_;intro v1 w9 ik lV ee);clear O;go_roundg (ps.length-(j+1))
   case rel=>
    rw[qg] at ik;have he:(ps.take (j+1)).map (·.state)=(ps.take j).map (·.state)++[x.state]:=by rw[kH.Z,jP];rfl
    exact⟨j+1,by simp,by omega,rfl,by rw[he,dh];exact ik,J.trans ee⟩
   case measure=>have:=Q.Z;omega
  ·have jx:j=ps.length:=by omega
   subst jx;have hr:=Hr.Z;rw[iw] at hr;replace hr:=U hr;go_wp2;go_ret;exact⟨⟨_,rfl,aM.ie hr.Z (kt _ _ _ _) bE bE⟩,J⟩
theorem KO(ps:List Pc.bG)(A:Option Addr)(c:Nat)(w:World)(S:Nat->Prop)(hS:∀b,S b->b<w.1.size)(h:ay Y.piece false w S (.slice A ps.length c) ps)(hn:ps.length<=1000000):
 Calls prog 162 #[.slice A ps.length c,.func (.func 166) #[] #[]] w λy w'=>(∃u,y=.returned u/\aM Y.int true w' w.1.size w'.1.size u (ps.map (·.steps)))/\aY w w':=by
 have J:=bI w.1.size w;obtain⟨ee,dO⟩:=h.bounds;replace h:=U h;change aK _ at hS;go_in;go_wp2;go_loopg [5,7,10] ps.length (λq s _ i wr=>∃j:Nat,i=.int .i64 (j:Int)/\j<=ps.length/\q=ps.length-j/\wr.ownsRow w.1.size 3 1 s ((ps.take j).map (·.steps)).length (ints ((ps.take j).map (·.steps)))/\aY w wr)
 case atStart=>exact⟨0,rfl,by omega,by omega,⟨rfl,.inl ⟨rfl,rfl⟩⟩,J⟩
 case round=>
  clear J;obtain⟨j,rfl,hj,Q,hr,J⟩:=hrel;have Hr:=U hr;clear hr;change aK _ at Q;by_cases bY:j<ps.length
  ·obtain⟨x,D⟩:=Pc.get_at bY;obtain⟨gx,ox,B0,c0,B1,c1,B2,c2,hA,jy,hc,AE,iP,iF⟩:=((h.aE (dx hS J))).arr.mw D;subst hA;have L6:∀b,S b->b<wr.1.size:=λb q=>aU (hS b q) J.size;change aK _ at L6;have gg:gx<wr.1.size:=aU (hS gx jy) J.size;have kH:=Pc.de D;have d0:=hc 0 (by omega);have d1:=hc 1 (by omega);have d2:=hc 2 (by omega);have d3:=hc 3 (by omega);have d4:=hc 4 (by omega);have d5:=hc 5 (by omega);simp only[eR,eZ,iS] at d0 d1 d2 d3 d4 d5;clear hc;replace kH:=U kH;replace D:=U D;replace AE:=U AE;replace iP:=U iP;replace iF:=U iF;have hO:=bI wr.1.size wr;go_upto_region 5 with fail
   refine jt λW6 bx I=>?_;have zl6:=bx.lt;refine lW I hO J ?_;clear I hO J;intro z6 hO J;clear d0 d1 d2 d3 d4 d5;have O:=ch bx;go_wp2_with fail;refine(KM x _ _ S (j2 hS J.size) (da.mw (AE.aE (dx L6 hO)) (iP.aE (dx L6 hO)) (iF.aE (dx L6 hO)))).mono ?_;clear O;rintro e w7 ⟨rfl,I⟩;refine iX I bx hO J ?_;clear I bx hO J;intro z7 bx hO J;have Az:=mK Hr.Z λb _ q=>hO.block b q;have qT:((ps.take j).map (·.steps)).length=j:=by simp;omega
   have RI:=J.size;have O:=ch bx;go_wp2_with (at_builtin;refine jS rfl _ _ 36 rfl w.1.size 3 Tryz.eG underlying36 rfl _ _ _ rfl Az (.int .i64 x.steps) rfl rfl (by omega) (by omega) (by omega) ?_;intro v1 w9 ik lV ee);clear O;go_roundg (ps.length-(j+1))
   case rel=>
    rw[qg] at ik;have he:(ps.take (j+1)).map (·.steps)=(ps.take j).map (·.steps)++[x.steps]:=by rw[kH.Z,jP];rfl
    exact⟨j+1,by simp,by omega,rfl,by rw[he,dh];exact ik,J.trans ee⟩
   case measure=>have:=Q.Z;omega
  ·have jx:j=ps.length:=by omega
   subst jx;have hr:=Hr.Z;rw[iw] at hr;replace hr:=U hr;go_wp2;go_ret;exact⟨⟨_,rfl,aM.ie hr.Z (kt _ _ _ _) bE bE⟩,J⟩
theorem Us(ps:List Pc.bG)(A:Option Addr)(c:Nat)(w:World)(S:Nat->Prop)(hS:∀b,S b->b<w.1.size)(h:ay Y.piece false w S (.slice A ps.length c) ps)(hn:ps.length<=1000000)(hz:∀p∈ps,Pc.sized p):
 Calls prog 202 #[.slice A ps.length c,.func (.func 135) #[] #[]] w λy w'=>(∃u,y=.returned u/\ay Y.piece false w' (bO w.1.size w'.1.size) u ps)/\aY w w':=by
 have J:=bI w.1.size w;obtain⟨ee,dO⟩:=h.bounds;replace h:=U h;replace hz:=U hz;change aK _ at hS;go_in;go_wp2;go_loopg [5,7,10] ps.length (λq v _ i wr=>∃(j:Nat)(As:Option Addr)(ks:Nat),i=.int .i64 (j:Int)/\j<=ps.length/\q=ps.length-j/\v=.slice As j ks/\cj Y.piece 112 w.1.size wr (NS w.1.size wr (.slice As j ks)) (.slice As j ks) (ps.take j)/\aY w wr)
 case atStart=>exact⟨0,none,0,rfl,by omega,by omega,rfl,cj.nil _ _ _ _ _,J⟩
 case round=>
  clear J;obtain⟨j,As,ks,rfl,hj,Q,rfl,H6,J⟩:=hrel;replace H6:=U H6;change aK _ at Q;have Gf:=J.size;by_cases bY:j<ps.length
  ·obtain⟨x,D⟩:=Pc.get_at bY;obtain⟨gx,ox,B0,c0,B1,c1,B2,c2,hA,jy,hc,AE,iP,iF⟩:=((h.aE (dx hS J))).arr.mw D;subst hA;have L6:∀b,S b->b<wr.1.size:=λb q=>aU (hS b q) J.size;change aK _ at L6;have gg:gx<wr.1.size:=aU (hS gx jy) J.size;have kH:=Pc.de D;have fM:=hz.Z x (dV D);have d0:=hc 0 (by omega);have d1:=hc 1 (by omega);have d2:=hc 2 (by omega);have d3:=hc 3 (by omega);have d4:=hc 4 (by omega);have d5:=hc 5 (by omega);simp only[eR,eZ,iS] at d0 d1 d2 d3 d4 d5;clear hc;replace kH:=U kH;replace D:=U D;replace AE:=U AE;replace iP:=U iP;replace iF:=U iF;replace fM:=U fM;have hO:=bI wr.1.size wr;go_upto_region 5 with fail
   refine jt λW6 bx I=>?_;have zl6:=bx.lt;refine lW I hO J ?_;clear I hO J;intro z6 hO J;clear d0 d1 d2 d3 d4 d5;have O:=ch bx;go_wp2_with fail;refine(Hp _ x _ S (j2 hS J.size) (da.mw (AE.aE (dx L6 hO)) (iP.aE (dx L6 hO)) (iF.aE (dx L6 hO))) fM.Z).mono ?_;clear O;rintro e w7 ⟨lo,E0,k0,E1,k1,E2,k2,rfl,pe,OH,uh,vi,I⟩;refine iX I bx hO J ?_;clear I bx hO J;intro z7 bx hO J;have qT:(ps.take j).length=j:=by simp;omega
   have RI:=J.size;change aK _ at qT;have ct:=H6.Uq hO;replace ct:=U ct;have jr:Y.piece.is false w7 (NS w.1.size w7 (.slice As j ks)) [x.node,x.state,x.steps,.slice E0 x.aQ.length k0,.slice E1 x.bD.length k1,.slice E2 x.Z.length k2] x:=by
    have ac9:=λb e=>(H6.lt b e).2;refine⟨_,_,_,rfl,OH.soft.on.aF λb q=>⟨by have:=bO.lo q;omega,by have:=bO.hi q;omega,λe=>?_⟩,uh.1.slice.soft.on.aF λb q=>⟨by have:=bO.lo q;omega,bO.hi q,λe=>?_⟩,uh.2.slice.soft.on.aF λb q=>⟨by have:=bO.lo q;omega,bO.hi q,λe=>?_⟩⟩;all_goals (have:=bO.lo q;have:=ac9 b e;omega)
   replace jr:=U jr;clear OH uh;have O:=ch bx;go_wp2_with (go_loud (at_builtin;refine yD (r:=Y.piece) (y:=x) rfl (.tmp 14) (.tmp 18) 119 rfl w.1.size 112 Tryz.rn underlying119 rfl (by omega) _ rfl ct.Z (λb q=>q.2.1) (by omega) 1 _ _ rfl rfl jr.Z (by rw[qT.Z];omega) ?_;intro v2 w9 j1 fh fu CP;obtain⟨A8,c8,lz,_,_⟩:=j1.form;rw[dh,qT.Z] at lz;subst lz));clear O;go_roundg (ps.length-(j+1))
   case rel=>exact⟨j+1,A8,c8,by simp,by omega,rfl,rfl,by rw[kH.Z];exact j1.sW fh.size,J.trans (fu.mono (by omega))⟩
   case measure=>have:=Q.Z;omega
  ·have jx:j=ps.length:=by omega
   subst jx;have hr:=H6.Z;rw[iw] at hr;replace hr:=U hr;go_wp2;go_ret;exact⟨⟨_,rfl,hr.on (λb q=>⟨q.1,q.2.1⟩) (λb q=>hr.lt b q)⟩,J⟩
structure El where
 node:Int
 state:Int
 steps:Int
 aA:Option Addr
 an:Nat
 ac:Nat
 bA:Option Addr
 bn:Nat
 bc:Nat
 cA:Option Addr
 cn:Nat
 cc:Nat
def El.cells(e:El):List Value:=[.int .i64 e.node,.int .i64 e.state,.int .i64 e.steps,.slice e.aA e.an e.ac,.slice e.bA e.bn e.bc,.slice e.cA e.cn e.cc]
def El.flat(es:List El):List Value:=es.flatMap El.cells
def El.ins(x:El):List El->List El
 |[]=>[x]
 |y::l=>if x.node<y.node then y::El.ins x l else x::y::l
def El.back(es:List El):List El:=es.foldl (λr x=>El.ins x r) []
theorem El.jY(es:List El):(El.flat es).length=6 * es.length:=by
 induction es with
 |nil=>rfl
 |cons e l ih=>rw[show El.flat (e::l)=e.cells++El.flat l from rfl,dh,ih];simp[El.cells];omega
theorem El.H':∀ {es:List El} {k:Nat} {e:El},es[k]?=some e->∀i,i<6->(El.flat es)[k * 6+i]?=e.cells[i]?
 |[],k,e,h,_,_=>by simp at h
 |y::l,0,e,h,i,hi=>by
  injection h with h;subst h
  rw[show El.flat (y::l)=y.cells++El.flat l from rfl,lF (by simpa[El.cells] using hi)];simp
 |y::l,k+1,e,h,i,hi=>by
  rw[show El.flat (y::l)=y.cells++El.flat l from rfl,pJ (by simp[El.cells];omega)];have:=El.H' (es:=l) (k:=k) (e:=e) h i hi;rw[<-this];congr 1;simp[El.cells];omega
theorem El.KP(x:El)(l:List El):(El.ins x l).length=l.length+1:=by
 induction l with
 |nil=>rfl
 |cons y l ih=>unfold El.ins;split<;>simp[ih]
theorem El.yE(es:List El):(El.back es).length=es.length:=by
 have:∀(es r:List El),(es.foldl (λr x=>El.ins x r) r).length=r.length+es.length:=by
  intro es;induction es with
  |nil=>intro r;rfl
  |cons e l ih=>intro r;rw[kK,ih,El.KP,fF];omega
 simpa[El.back] using this es []
theorem El.Ns(es:List El)(x:El):El.back (es++[x])=El.ins x (El.back es):=by simp[El.back]
theorem El.xR(x:El):∀(pre post:List El),(∀y∈pre,x.node<y.node)->(∀y,post.head?=some y->¬x.node<y.node)->El.ins x (pre++post)=pre++x::post
 |[],[],_,_=>rfl
 |[],y::l,_,h=>by rw[gh,El.ins,aO (h y rfl)];rfl
 |z::pre,post,F,R=>by
  rw[nU,El.ins,aS (F z (by simp)),El.xR x pre post (λy hy=>F y (by simp[hy])) R];rfl
theorem BQ{b:Nat}{T:TypeId}:∀(l:List Value)(pre qd post:List Value)(w:World),G w b (pre++qd++post).toArray T->qd.length=l.length->G (cz w b pre.length l) b (pre++l++post).toArray T
 |[],pre,qd,post,w,h,e=>by
  have:qd=[]:=ib e;subst this;simpa[cz] using h
 |v::l,pre,[],post,w,h,e=>by simp at e
 |v::l,pre,u::qd,post,w,h,e=>by
  have R:G (w.setCell ⟨b,pre.length,none⟩ v) b ((pre++[v])++qd++post).toArray T:=by
   have:=dS h pre.length v;unfold G;simpa using this
  have h3:=BQ l (pre++[v]) qd post _ R (by simpa using e);simpa[cz] using h3
theorem KQ(x z:El)(w:World):
 Calls prog 204 #[.agg #[x.node,x.state,x.steps,.slice x.aA x.an x.ac,.slice x.bA x.bn x.bc,.slice x.cA x.cn x.cc],.agg #[z.node,z.state,z.steps,.slice z.aA z.an z.ac,.slice z.bA z.bn z.bc,.slice z.cA z.cn z.cc]] w λy w'=>y=.returned (.int .i64 (rl x.node z.node))/\aY w w':=by
 go_in;go_upto_region 1 with fail
 refine r9 λW1 bx bz I=>?_;have uD:=bz.lt;have J:=I;have z1:=I.size;clear I;have O:=eE bx bz;go_wp2_with fail;refine(yC x.node z.node _).mono ?_;clear O;rintro e w9 ⟨rfl,rfl⟩;go_wp2;go_ret;exact⟨rfl,J⟩
end Go.Proofs.YtmgahjkopiaglaaGreat
