/- Lemmas, walks and contracts by which the statement is proved. -/
import Derived.Test.YtmgahjkopiaglaaGreatK8
set_option maxRecDepth 100000
set_option maxHeartbeats 16000000
set_option linter.all false
namespace Go.Proofs.YtmgahjkopiaglaaGreat
open Go.RowKit Go.Proofs.Tryz
def da{α:Type}(r:Y α)(w:World)(S:Nat->Prop)(v:Value)(a:α):Prop:=∃cs:List Value,v=.agg cs.toArray/\r.is false w S cs a
section
variable{α:Type}{r:Y α}{w w':World}{S S':Nat->Prop}{v:Value}{a:α}
theorem da.aE(h:da r w S v a)(Q:∀b,S b->w'.1[b]?=w.1[b]?):da r w' S v a:=by obtain⟨cs,rfl,h⟩:=h;exact⟨cs,rfl,r.aE h Q⟩
theorem da.aF(h:da r w S v a)(Q:∀b,S b->S' b):da r w S' v a:=by obtain⟨cs,rfl,h⟩:=h;exact⟨cs,rfl,r.aF h Q⟩
end
namespace Tb
def none:nu:=⟨0,[],[],[]⟩
def has(T:List iD)(n s:Int):Bool:=decide (0<=n)&&(decide (n<T.length)&&(decide (0<=s)&&decide (s<((T.getD n.toNat ⟨0,[]⟩).aL.length:Int))))
def at_(T:List iD)(n s:Int):nu:=if has T n s then(T.getD n.toNat ⟨0,[]⟩).aL.getD s.toNat none else none
end Tb
theorem dm.eC{fr:Bool}{w:World}{S:Nat->Prop}{k:Nat}{A:Option Addr}{xs:List iD}{x:iD}(h:dm Y.eC fr w S A xs)(D:xs[k]?=some x):
 ∃g o v,A=some ⟨g,o,none⟩/\S g/\w.cell? ⟨g,o+k * 2,none⟩=some (.int .i64 x.start)/\w.cell? ⟨g,o+k * 2+1,none⟩=some v/\ay Y.eV fr w S v x.aL:=by
 obtain⟨g,o,cs,rfl,F,⟨v,rfl,h3⟩,h5⟩:=dm.at_ h D;exact⟨g,o,v,rfl,F,by simpa[Y.eC] using(h5 0 _ rfl).1,by simpa[Y.eC,fK] using(h5 1 _ rfl).1,h3⟩
theorem dm.eV{fr:Bool}{w:World}{S:Nat->Prop}{k:Nat}{A:Option Addr}{xs:List nu}{x:nu}(h:dm Y.eV fr w S A xs)(D:xs[k]?=some x):
 ∃g o A1 A2 A3 k1 k2 k3,A=some ⟨g,o,none⟩/\S g/\w.cell? ⟨g,o+k * 4,none⟩=some (.int .i64 x.mode)/\w.cell? ⟨g,o+k * 4+1,none⟩=some (.slice A1 x.waits.length k1)/\w.cell? ⟨g,o+k * 4+2,none⟩=some (.slice A2 x.dg.length k2)/\w.cell? ⟨g,o+k * 4+3,none⟩=some (.slice A3 x.dd.length k3)/\
  Y.eV.is fr w S [x.mode,(.slice A1 x.waits.length k1),(.slice A2 x.dg.length k2),(.slice A3 x.dd.length k3)] x:=by
 obtain⟨g,o,cs,rfl,F,h3,h5⟩:=dm.at_ h D;obtain⟨v1,v2,v3,rfl,h6,h7,h8⟩:=id h3;obtain⟨A1,k1,rfl,_⟩:=id h6;obtain⟨A2,k2,rfl,_⟩:=id h7;obtain⟨A3,k3,rfl,_⟩:=id h8;exact⟨g,o,A1,A2,A3,k1,k2,k3,rfl,F,by simpa[Y.eV] using(h5 0 _ rfl).1,by simpa[Y.eV,fK] using(h5 1 _ rfl).1,by simpa[Y.eV,fK] using(h5 2 _ rfl).1,by simpa[Y.eV,fK] using(h5 3 _ rfl).1,h3⟩
theorem Ay(v:Value)(T:List iD)(n s:Int)(w:World)(S:Nat->Prop)(hS:∀b,S b->b<w.1.size)(h:ay Y.eC false w S v T):
 Calls prog 133 #[v,n,s] w λy w'=>(∃u,y=.returned (.tuple #[u,.bool (Tb.has T n s)])/\da Y.eV w' S u (Tb.at_ T n s))/\aY w w':=by
 obtain⟨A,c,rfl,hl,hm,hA⟩:=h;unfold maxLen at hm;have HA:=U hA;clear hA;change aK _ at hS;go_in;go_upto_region 1 with fail
 refine jt λW0 b0 J=>?_;have hA:=HA.aE (dx hS.Z J);have f0:=b0.mO 0;have f1:=b0.mO 1;have f2:=b0.mO 2;have f3:=b0.mO 3;have ab:=ch b0;have no:∀W:World,Y.eV.is false W S [aP,(),(),()] Tb.none:=λW=>⟨_,_,_,rfl,ay.none_,ay.none_,ay.none_⟩;change aK _ at no;have B0:=U J;by_cases F:n<0
 ·have hh:Tb.has T n s=false:=by unfold Tb.has;rw[bZ (by omega:¬0<=n)];rfl
  change aK _ at hh;go_wp2;refine bL (v:=.tuple #[.agg #[aP,(),(),()],false]) (by simp[results,results133,go_sem,ab]) rfl ⟨⟨_,by rw[hh.Z],[_,_,_,_],rfl,by unfold Tb.at_;rw[hh.Z];exact no _⟩,aI bE [_,_,_,_] 0 _ B0.Z⟩
 ·by_cases R:n<T.length
  ·obtain⟨k,rfl⟩:∃k:Nat,n=k:=⟨n.toNat,by omega⟩;obtain⟨x,D⟩:=Pc.get_at (show k<T.length by omega);have hD:T.getD k ⟨0,[]⟩=x:=by rw[dB,D];rfl
   obtain⟨g,o,u,rfl,hg,e0,e1,hr⟩:=hA.eC D;obtain⟨B,c',rfl,hl',hm',hB'⟩:=hr;unfold maxLen at hm';have gg:g<W0.1.size:=aU (hS g hg) J.size;have Q:Tb.has T k s=(decide (0<=s)&&decide (s<(x.aL.length:Int))):=by unfold Tb.has;rw[cV (by omega:0<=(k:Int)),cV R,dG,hD];rfl
   change aK _ at Q hD;clear D hA;by_cases h3:s<0
   ·have hh:Tb.has T k s=false:=by rw[Q.Z,bZ (by omega:¬0<=s)];rfl
    change aK _ at hh;go_wp2;refine bL (v:=.tuple #[.agg #[aP,(),(),()],false]) (by simp[results,results133,go_sem,ab]) rfl ⟨⟨_,by rw[hh.Z],[_,_,_,_],rfl,by unfold Tb.at_;rw[hh.Z];exact no _⟩,aI bE [_,_,_,_] 0 _ B0.Z⟩
   ·by_cases h4:s<x.aL.length
    ·obtain⟨m,rfl⟩:∃m:Nat,s=m:=⟨s.toNat,by omega⟩;obtain⟨z,hz⟩:=Pc.get_at (show m<x.aL.length by omega);have K:x.aL.getD m Tb.none=z:=by rw[dB,hz];rfl
     obtain⟨g',o',A1,A2,A3,k1,k2,k3,rfl,Dx,i0,i1,i2,i3,hz'⟩:=hB'.eV hz;have Ys:g'<W0.1.size:=aU (hS g' Dx) J.size;have hh:Tb.has T k m=true:=by rw[Q.Z,cV (by omega:0<=(m:Int)),cV h4];rfl
     have ha:Tb.at_ T k m=z:=by unfold Tb.at_;rw[hh,aS rfl,dG,dG,hD.Z,K]
     change aK _ at hh ha;clear hz K;go_wp2;refine bL (v:=.tuple #[.agg #[z.mode,.slice A1 z.waits.length k1,.slice A2 z.dg.length k2,.slice A3 z.dd.length k3],true]) (by simp[results,results133,go_sem,ab]) rfl ⟨⟨_,by rw[hh.Z],[_,_,_,_],rfl,by rw[ha.Z];exact Y.eV.aE hz' λb q=>bV (show b≠w.1.size by have:=hS.Z b q;omega) [_,_,_,_] 0 _⟩,aI bE [_,_,_,_] 0 _ B0.Z⟩
    ·have hh:Tb.has T k s=false:=by rw[Q.Z,bZ h4];simp
     change aK _ at hh;go_wp2;refine bL (v:=.tuple #[.agg #[aP,(),(),()],false]) (by simp[results,results133,go_sem,ab]) rfl ⟨⟨_,by rw[hh.Z],[_,_,_,_],rfl,by unfold Tb.at_;rw[hh.Z];exact no _⟩,aI bE [_,_,_,_] 0 _ B0.Z⟩
  ·have hh:Tb.has T n s=false:=by unfold Tb.has;rw[bZ R];simp
   change aK _ at hh;go_wp2;refine bL (v:=.tuple #[.agg #[aP,(),(),()],false]) (by simp[results,results133,go_sem,ab]) rfl ⟨⟨_,by rw[hh.Z],[_,_,_,_],rfl,by unfold Tb.at_;rw[hh.Z];exact no _⟩,aI bE [_,_,_,_] 0 _ B0.Z⟩
namespace Tb
def taken(T:List iD)(n s src bB:Int):Int:=match (at_ T n s).dd.find? (λt=>decide (t.src=src)&&decide (t.bB=bB)) with |some t=>t.next|Option.none=>s
end Tb
theorem dm.jc{fr:Bool}{w:World}{S:Nat->Prop}{k:Nat}{A:Option Addr}{xs:List iN}{x:iN}(h:dm Y.jc fr w S A xs)(D:xs[k]?=some x):
 ∃g o,A=some ⟨g,o,none⟩/\S g/\w.cell? ⟨g,o+k * 3,none⟩=some (.int .i64 x.src)/\w.cell? ⟨g,o+k * 3+1,none⟩=some (.int .i64 x.bB)/\w.cell? ⟨g,o+k * 3+2,none⟩=some (.int .i64 x.next):=by
 obtain⟨g,o,cs,rfl,F,h3,h5⟩:=dm.at_ h D;have xG:cs=[.int .i64 x.src,.int .i64 x.bB,.int .i64 x.next]:=h3;subst xG;exact⟨g,o,rfl,F,by simpa[Y.jc] using(h5 0 _ rfl).1,by simpa[Y.jc,fK] using(h5 1 _ rfl).1,by simpa[Y.jc,fK] using(h5 2 _ rfl).1⟩
theorem LU{α:Type}{b:α->Bool}:∀ {l:List α} {j:Nat} {x:α},Pc.clear b l j->l[j]?=some x->b x=true->l.find? b=some x
 |[],j,x,_,h,_=>by simp at h
 |y::l,0,x,_,h,I=>by simp at h;subst h;simp[I]
 |y::l,j+1,x,hc,h,I=>by
  have hy:=hc 0 y (by omega) rfl;rw[List.find?_cons_of_neg (by simp[hy])];exact LU (λi z hi hz=>hc (i+1) z (by omega) hz) h I
theorem MM{α:Type}{b:α->Bool}{l:List α}(hc:Pc.clear b l l.length):l.find? b=none:=by
 rw[List.find?_eq_none];intro x D;obtain⟨i,hi,rfl⟩:=m5 D;simp[hc i _ hi (eu hi)]
theorem xN(v:Value)(T:List iD)(n s:Int)(w:World)(S:Nat->Prop)(hS:∀b,S b->b<w.1.size)(h:ay Y.eC false w S v T):
 Calls prog 100 #[v,n,s] w λy w'=>y=.returned (.int .i64 (Tb.at_ T n s).mode)/\aY w w':=by
 go_in;go_wp2_with fail;refine(Ay v T n s w S hS h).mono ?_;rintro e w1 ⟨⟨u,rfl,hu⟩,I⟩;obtain⟨x,D⟩:=cJ (Tb.at_ T n s);rw[D] at hu;change aK _ at D;clear h;obtain⟨cs,rfl,v1,v2,v3,rfl,F,R,h3⟩:=hu;obtain⟨A1,k1,rfl,Fo⟩:=id F;obtain⟨A2,k2,rfl,DH⟩:=id R;obtain⟨A3,k3,rfl,hl3⟩:=id h3;go_upto_region 2 with fail
 refine jt λW2 bx dO=>?_;have J:=I.trans (dO.mono I.size);have Q:∀b,S b->W2.1[b]?=w1.1[b]?:=λb q=>dO.block b (aU (hS b q) I.size);replace F:=F.aE Q;replace R:=R.aE Q;replace h3:=h3.aE Q;have DI:∀b,S b->b<W2.1.size:=λb q=>aU (hS b q) J.size;change aK _ at DI;replace F:=U F;replace R:=U R;replace h3:=U h3;clear Q I dO hS;have ab:=ch bx;go_wp2;go_ret;exact⟨by rw[D.Z];rfl,J⟩
theorem J9(v:Value)(T:List iD)(n s src bB:Int)(w:World)(S:Nat->Prop)(hS:∀b,S b->b<w.1.size)(h:ay Y.eC false w S v T):
 Calls prog 197 #[v,n,s,src,bB] w λy w'=>y=.returned (.int .i64 (Tb.taken T n s src bB))/\aY w w':=by
 go_in;go_wp2_with fail;refine(Ay v T n s w S hS h).mono ?_;rintro e w1 ⟨⟨u,rfl,hu⟩,I⟩;obtain⟨x,D⟩:=cJ (Tb.at_ T n s);rw[D] at hu;change aK _ at D;clear h;obtain⟨cs,rfl,v1,v2,v3,rfl,F,R,h3⟩:=hu;obtain⟨A1,k1,rfl,Fo⟩:=id F;obtain⟨A2,k2,rfl,DH⟩:=id R;obtain⟨A3,k3,rfl,hl3⟩:=id h3;go_upto_region 2 with fail
 refine jt λW2 bx dO=>?_;have J:=I.trans (dO.mono I.size);have Q:∀b,S b->W2.1[b]?=w1.1[b]?:=λb q=>dO.block b (aU (hS b q) I.size);replace F:=F.aE Q;replace R:=R.aE Q;replace h3:=h3.aE Q;have DI:∀b,S b->b<W2.1.size:=λb q=>aU (hS b q) J.size;change aK _ at DI;replace F:=U F;replace R:=U R;replace h3:=U h3;clear Q I dO hS;have ab:=ch bx;obtain⟨hl,hm,hA⟩:=hl3;unfold maxLen at hm;have HA:=U h3.arr;clear hA;clear Fo DH F R;go_wp2;clear ab;go_loopg [14,25] x.dd.length (λq _ i wr=>∃j:Nat,i=.int .i64 (j:Int)/\j<=x.dd.length/\q=x.dd.length-j/\Pc.clear (λt:iN=>decide (t.src=src)&&decide (t.bB=bB)) x.dd j/\aY W2 wr)
 case atStart=>exact⟨0,rfl,by omega,by omega,Pc.fI _ _,cT⟩
 case round=>
  obtain⟨j,rfl,hj,Q,hr,I⟩:=hrel;replace hr:=U hr;change aK _ at Q;have ly:=J.trans (I.mono J.size);by_cases bY:j<x.dd.length
  ·obtain⟨t,ht⟩:=Pc.get_at bY;obtain⟨gx,o,rfl,hg,e0,e1,e2⟩:=(HA.aE (dx DI I)).jc ht;have Dx:gx<wr.1.size:=aU (DI gx hg) I.size;replace ht:=U ht;go_upto_region 5 with fail
   refine jt λW3 bz fu=>?_;clear e0 e1 e2;have ab:=ch bz;have ob:=I.trans (fu.mono I.size);clear bz;by_cases q1:t.src=src
   ·have b1:(t.src==src)=true:=by simpa using q1
    by_cases q2:t.bB=bB
    ·have b2:(t.bB==bB)=true:=by simpa using q2
     have hf:x.dd.find? (λt:iN=>decide (t.src=src)&&decide (t.bB=bB))=some t:=LU hr.Z ht.Z (by simp[q1,q2]);change aK _ at hf;clear q1 q2;go_wp2;go_ret;exact⟨by unfold Tb.taken;rw[D.Z,hf.Z];rfl,J.trans (ob.mono J.size)⟩
    ·have b2:(t.bB==bB)=false:=by simpa using q2
     have hc:(λt:iN=>decide (t.src=src)&&decide (t.bB=bB)) t=false:=by simp[q2]
     change aK _ at hc;clear q2 q1;go_wp2;go_roundg (x.dd.length-(j+1))
     case rel=>exact⟨j+1,by simp,by omega,rfl,Pc.ew hr.Z ht.Z hc.Z,ob⟩
     case measure=>have:=Q.Z;omega
   ·have b1:(t.src==src)=false:=by simpa using q1
    have hc:(λt:iN=>decide (t.src=src)&&decide (t.bB=bB)) t=false:=by simp[q1]
    change aK _ at hc;clear q1;go_wp2;go_roundg (x.dd.length-(j+1))
    case rel=>exact⟨j+1,by simp,by omega,rfl,Pc.ew hr.Z ht.Z hc.Z,ob⟩
    case measure=>have:=Q.Z;omega
  ·have jx:j=x.dd.length:=by omega
   subst jx;have hf:x.dd.find? (λt:iN=>decide (t.src=src)&&decide (t.bB=bB))=none:=MM hr.Z;change aK _ at hf;go_wp2;go_ret;exact⟨by unfold Tb.taken;rw[D.Z,hf.Z];rfl,ly⟩
structure Pl where
 mode:Int
 waits:List Int
 dg:List yp
 dd:List iN
 n:Int
 start:Int
 aL:List nu
 gn:Int
 az:List (Int×Int)
deriving DecidableEq
def Y.pl:Y Pl where
 size:=9
 pos:=by omega
 is fr w S cs p:=∃vwaits vpicks vtakes vstates vlinks,cs=[.int .i64 p.mode,vwaits,vpicks,vtakes,.int .i64 p.n,.int .i64 p.start,vstates,.int .i64 p.gn,vlinks]/\ay (Y.int) fr w S vwaits p.waits/\ay (Y.lh) fr w S vpicks p.dg/\ay (Y.jc) fr w S vtakes p.dd/\ay (Y.eV) fr w S vstates p.aL/\ay (Y.msg) fr w S vlinks p.az
 len h:=by obtain⟨vwaits,vpicks,vtakes,vstates,vlinks,rfl,hwaits,hpicks,htakes,hstates,hlinks⟩:=h;rfl
 aE h Q:=by obtain⟨vwaits,vpicks,vtakes,vstates,vlinks,rfl,hwaits,hpicks,htakes,hstates,hlinks⟩:=h;exact⟨vwaits,vpicks,vtakes,vstates,vlinks,rfl,hwaits.aE Q,hpicks.aE Q,htakes.aE Q,hstates.aE Q,hlinks.aE Q⟩
 aF h Q:=by obtain⟨vwaits,vpicks,vtakes,vstates,vlinks,rfl,hwaits,hpicks,htakes,hstates,hlinks⟩:=h;exact⟨vwaits,vpicks,vtakes,vstates,vlinks,rfl,hwaits.aF Q,hpicks.aF Q,htakes.aF Q,hstates.aF Q,hlinks.aF Q⟩
 soft h:=by obtain⟨vwaits,vpicks,vtakes,vstates,vlinks,rfl,hwaits,hpicks,htakes,hstates,hlinks⟩:=h;exact⟨vwaits,vpicks,vtakes,vstates,vlinks,rfl,hwaits.soft,hpicks.soft,htakes.soft,hstates.soft,hlinks.soft⟩
 one h:=by
  obtain⟨_,_,_,_,_,rfl,⟨_,_,rfl,_⟩,⟨_,_,rfl,_⟩,⟨_,_,rfl,_⟩,⟨_,_,rfl,_⟩,⟨_,_,rfl,_⟩⟩:=h;intro u hu;simp at hu;rcases hu with rfl |rfl |rfl |rfl |rfl |rfl |rfl |rfl |rfl<;>rfl
theorem da.pl{w:World}{S:Nat->Prop}{v:Value}{p:Pl}(h:da Y.pl w S v p):∃A1 A2 A3 A4 A5 k1 k2 k3 k4 k5,v=.agg #[p.mode,.slice A1 p.waits.length k1,.slice A2 p.dg.length k2,.slice A3 p.dd.length k3,p.n,p.start,.slice A4 p.aL.length k4,p.gn,.slice A5 p.az.length k5]/\
 ay Y.int false w S (.slice A1 p.waits.length k1) p.waits/\ay Y.lh false w S (.slice A2 p.dg.length k2) p.dg/\ay Y.jc false w S (.slice A3 p.dd.length k3) p.dd/\ay Y.eV false w S (.slice A4 p.aL.length k4) p.aL/\ay Y.msg false w S (.slice A5 p.az.length k5) p.az:=by
 obtain⟨cs,rfl,v1,v2,v3,v4,v5,rfl,F,R,h3,h4,h5⟩:=h;obtain⟨A1,k1,rfl,_⟩:=id F;obtain⟨A2,k2,rfl,_⟩:=id R;obtain⟨A3,k3,rfl,_⟩:=id h3;obtain⟨A4,k4,rfl,_⟩:=id h4;obtain⟨A5,k5,rfl,_⟩:=id h5;exact⟨A1,A2,A3,A4,A5,k1,k2,k3,k4,k5,rfl,F,R,h3,h4,h5⟩
namespace Pl
def OD(p:Pl)(i:Nat):Bool:=Pl.nv p.n p.az (p.waits.getD i 0)&& !(decide (0<i)&&decide (p.waits.getD i 0<=p.waits.getD (i-1) 0))
def jh(p:Pl):Bool:=if p.mode=2 then(List.range p.waits.length).all p.OD&&decide (0<p.waits.length) else((p.waits.length:Int)==0)
end Pl
theorem getD_eq{α:Type}{l:List α}{k:Nat}{x d:α}(h:l[k]?=some x):l.getD k d=x:=by rw[dB,h];rfl
theorem ay.zero{α:Type}{r:Y α}{fr:Bool}{w w':World}{S:Nat->Prop}{A:Option Addr}{n c:Nat}{xs:List α}(h:ay r fr w S (.slice A n c) xs)(hS:∀b,S b->b<w.1.size)(J:aY w w'):aM r fr w' 0 w'.1.size (.slice A n c) xs:=
 (h.aE (dx hS J)).og λb q=>aU (hS b q) J.size
def mP(f:Nat->Bool)(j:Nat):Prop:=∀i,i<j->f i=true
theorem mP.next{f:Nat->Bool}{j:Nat}(h:mP f j)(hj:f j=true):mP f (j+1):=λi hi=>by
 rcases Nat.lt_succ_iff_lt_or_eq.1 hi with F|rfl
 ·exact h i F
 ·exact hj
theorem mP.all{f:Nat->Bool}{n:Nat}(h:mP f n):(List.range n).all f=true:=eT.2 λi hi=>h i (ke.1 hi)
theorem dJ{f:Nat->Bool}{n j:Nat}(hj:j<n)(h:f j=false):(List.range n).all f=false:=by
 rw[tF];intro e;rw[eT.1 e j (ke.2 hj)] at h;cases h
theorem dm.qW{fr:Bool}{w:World}{S:Nat->Prop}{k:Nat}{A:Option Addr}{xs:List Int}{x:Int}(h:dm Y.int fr w S A xs)(D:xs[k]?=some x):∃g o,A=some ⟨g,o,none⟩/\S g/\w.cell? ⟨g,o+k,none⟩=some (.int .i64 x):=by
 obtain⟨g,o,cs,rfl,F,h3,h5⟩:=dm.at_ h D;have xG:cs=[.int .i64 x]:=h3;subst xG;exact⟨g,o,rfl,F,by simpa[Y.int] using(h5 0 _ rfl).1⟩
theorem J'(v:Value)(p:Pl)(w:World)(S:Nat->Prop)(hS:∀b,S b->b<w.1.size)(h:da Y.pl w S v p):
 Calls prog 66 #[v] w λy w'=>y=.returned (.bool p.jh)/\aY w w':=by
 obtain⟨A1,A2,A3,A4,A5,k1,k2,k3,k4,k5,rfl,F,R,h3,h4,h5⟩:=h.pl;clear h R h3 h4;obtain⟨_,_,he,hl,hm,hA⟩:=id F;cases he;unfold maxLen at hm;replace hA:=U hA;change aK _ at hS;clear F;go_in;go_upto_region 1 with fail
 refine jt λW0 bx J=>?_;have ab:=ch bx;by_cases Px:p.mode=2
 ·have b0:(p.mode !=2)=false:=by simp[Px]
  replace Px:=U Px;go_wp2;clear ab;go_loopg [3,4,18] p.waits.length (λq _ _ i wr=>∃j:Nat,i=.int .i64 (j:Int)/\j<=p.waits.length/\q=p.waits.length-j/\mP p.OD j/\G wr w.1.size #[p.mode,.slice A1 p.waits.length k1,.slice A2 p.dg.length k2,.slice A3 p.dd.length k3,p.n,p.start,.slice A4 p.aL.length k4,p.gn,.slice A5 p.az.length k5] 136/\aY w wr)
  case atStart=>exact⟨0,rfl,by omega,by omega,λi hi=>absurd hi (jO _),bx,J⟩
  case round=>
   clear bx J;obtain⟨j,rfl,hj,Q,hr,bx,J⟩:=hrel;replace hr:=U hr;change aK _ at Q;by_cases bY:j<p.waits.length
   ·obtain⟨x,D⟩:=Pc.get_at bY;obtain⟨gx,o,rfl,hg,e0⟩:=dm.qW (hA.aE (dx hS J)) D;have gg:gx<wr.1.size:=aU (hS gx hg) J.size;have hD:=getD_eq (d:=0) D;replace hD:=U hD;clear D;have ab:=ch bx;go_wp2_with fail;clear ab;clear e0 gg;refine(LS p.mode p.n p.start p.gn _ _ _ _ A5 k5 x p.az _ (h5.zero hS.Z J)).mono ?_;rintro e w1 ⟨rfl,I⟩;refine lW I bx J ?_;clear I bx J;intro _ bx J;cases iu:Pl.nv p.n p.az x with
    |false=>
     have uf:p.OD j=false:=by unfold Pl.OD;rw[hD.Z,iu];rfl
     have ef:p.jh=false:=by unfold Pl.jh;rw[aS Px.Z,dJ bY uf];rfl
     change aK _ at ef;clear uf iu;go_wp2;go_ret;exact⟨by rw[ef.Z];rfl,J⟩
    |true=>
     by_cases Vr:0<j
     ·obtain⟨i,rfl⟩:∃i,j=i+1:=⟨j-1,by omega⟩;obtain⟨y,hy⟩:=Pc.get_at (show i<p.waits.length by omega);obtain⟨gy,o',he,Gg,e1⟩:=dm.qW (hA.aE (dx hS J)) hy;injection he with he;injection he with ur r';subst ur r'
      have gg:gx<w1.1.size:=aU (hS gx hg) J.size;have hD2:=getD_eq (d:=0) hy;replace hD2:=U hD2;clear hy;have ab:=ch bx;by_cases hle:x<=y
      ·have uf:p.OD (i+1)=false:=by unfold Pl.OD;rw[hD.Z,iu,Nat.add_sub_cancel,hD2.Z,cV hle];simp
       have ef:p.jh=false:=by unfold Pl.jh;rw[aS Px.Z,dJ bY uf];rfl
       change aK _ at ef;clear uf iu;go_wp2;go_ret;exact⟨by rw[ef.Z];rfl,J⟩
      ·have Py:p.OD (i+1)=true:=by unfold Pl.OD;rw[hD.Z,iu,Nat.add_sub_cancel,hD2.Z,bZ hle];simp
       change aK _ at Py;clear iu;go_wp2;go_roundg (p.waits.length-(i+1+1))
       case rel=>exact⟨i+1+1,by simp,by omega,rfl,hr.next Py.Z,bx,J⟩
       case measure=>have:=Q.Z;omega
     ·obtain rfl:j=0:=by omega
      have Py:p.OD 0=true:=by unfold Pl.OD;rw[hD.Z,iu];rfl
      change aK _ at Py;clear iu;go_wp2;go_roundg (p.waits.length-(0+1))
      case rel=>exact⟨0+1,by simp,by omega,rfl,hr.next Py.Z,bx,J⟩
      case measure=>have:=Q.Z;omega
   ·have jx:j=p.waits.length:=by omega
    subst jx;have ef:p.jh=decide (0<p.waits.length):=by unfold Pl.jh;rw[aS Px.Z,hr.all];rfl
    change aK _ at ef;have ab:=ch bx;go_wp2;go_ret;exact⟨by rw[ef.Z];simp,J⟩
 ·have b0:(p.mode !=2)=true:=by simp[Px]
  have ef:p.jh=((p.waits.length:Int)==0):=by unfold Pl.jh;rw[aO Px]
  change aK _ at ef;clear Px;go_wp2;go_ret;exact⟨by rw[ef.Z];rfl,J⟩
theorem dm.yY{fr:Bool}{w:World}{S:Nat->Prop}{k:Nat}{A:Option Addr}{xs:List (Int×Int)}{x:Int×Int}(h:dm Y.msg fr w S A xs)(D:xs[k]?=some x):
 ∃g o,A=some ⟨g,o,none⟩/\S g/\w.cell? ⟨g,o+k * 2,none⟩=some (.int .i64 x.1)/\w.cell? ⟨g,o+k * 2+1,none⟩=some (.int .i64 x.2):=by
 obtain⟨g,o,cs,rfl,F,h3,h5⟩:=dm.at_ h D;have xG:cs=[.int .i64 x.1,.int .i64 x.2]:=h3;subst xG;exact⟨g,o,rfl,F,by simpa[Y.msg] using(h5 0 _ rfl).1,by simpa[Y.msg,fK] using(h5 1 _ rfl).1⟩
def iN.Bn(t x:iN):Bool:=(x.src==t.src)&&(x.bB==t.bB)
def Pl.jE(n:Int)(l:List (Int×Int))(x:Int×Int):Bool:=decide (Gr.find l n x.1<0)|| !(jI x.2 0 4)
theorem Ka(t x:iN)(g:Nat)(w:World)(fP:G w g #[t.src,t.bB,t.next] 178):
 Calls prog 96 #[.agg #[x.src,x.bB,x.next],.pointer g] w λy w'=>y=.returned (.bool (t.Bn x))/\aY w w':=by
 go_in;go_upto_region 1 with fail
 refine jt λW0 bx J=>?_;replace fP:=fP.next J;have ab:=eE bx fP;clear bx fP;cases q0:(x.src==t.src) with
 |false=>
  go_wp2;go_ret;exact⟨by unfold iN.Bn;rw[q0];rfl,J⟩
 |true=>
  go_wp2;go_ret;exact⟨by unfold iN.Bn;rw[q0];rfl,J⟩
theorem G'(t:iN)(g:Nat)(v:Value)(xs:List (iN))(w:World)(S:Nat->Prop)(hS:∀b,S b->b<w.1.size)(h:ay Y.jc false w S v xs)(fP:G w g #[t.src,t.bB,t.next] 178):
 Calls prog 129 #[v,.func (.func 96) #[] #[.pointer g]] w λy w'=>y=.returned (.int .i64 (Pc.idx (λx:iN=>t.Bn x) xs))/\aY w w':=by
 obtain⟨A,c,rfl,hl,hm,hA⟩:=h;unfold maxLen at hm;have HA:=U hA;change aK _ at hS;clear hA;replace fP:=U fP;go_in;go_wp2;go_loopg [5,8] xs.length (λk _ i wr=>∃j:Nat,i=.int .i64 (j:Int)/\j<=xs.length/\k=xs.length-j/\Pc.clear (λx:iN=>t.Bn x) xs j/\aY w wr)
 case atStart=>exact⟨0,rfl,by omega,by omega,Pc.fI _ _,cT⟩
 case round=>
  obtain⟨j,rfl,hj,Q,hr,J⟩:=hrel;replace hr:=U hr;change aK _ at Q;by_cases bY:j<xs.length
  ·obtain⟨x,D⟩:=Pc.get_at bY;have hA:=HA.aE (dx hS.Z J);obtain⟨gx,o,rfl,hg,e0,e1,e2⟩:=hA.jc D;have gg:gx<wr.1.size:=aU (hS gx hg) J.size;replace D:=U D;clear hA;go_wp2_with fail;refine(Ka t x g _ (fP.next J)).mono ?_;rintro e w1 ⟨rfl,ee⟩;cases ga:(λx:iN=>t.Bn x) x;all_goals
    have MG:=U ga;dsimp only at ga;rw[ga];clear ga;go_wp2_with fail
   ·go_roundg (xs.length-(j+1))
    case rel=>exact⟨j+1,by simp,by omega,rfl,Pc.ew hr.Z D.Z MG.Z,J.trans (ee.mono J.size)⟩
    case measure=>have:=Q.Z;omega
   ·go_ret;exact⟨by rw[Pc.iT hr.Z D.Z MG.Z];rfl,J.trans (ee.mono J.size)⟩
  ·have jx:j=xs.length:=by omega
   subst jx;go_wp2;go_ret;exact⟨by rw[Pc.gd hr.Z];rfl,J⟩
theorem Hb(t:iN)(g:Nat)(v:Value)(xs:List (iN))(w:World)(S:Nat->Prop)(hS:∀b,S b->b<w.1.size)(h:ay Y.jc false w S v xs)(fP:G w g #[t.src,t.bB,t.next] 178):
 Calls prog 97 #[v,.func (.func 96) #[] #[.pointer g]] w λy w'=>y=.returned (.bool (xs.any (λx:iN=>t.Bn x)))/\aY w w':=by
 go_in;go_wp2_with fail;refine(G' t g v xs w S hS h fP).mono ?_;rintro y w1 ⟨rfl,I⟩;have hi:=U (Pc.nX (λx:iN=>t.Bn x) xs).2;go_wp2;go_ret;exact⟨by rw[<-hi.Z];rfl,I⟩
theorem Kb(v0 v1 v2 v3 v5 v6:Value)(n gn:Int)(A5:Option Addr)(k5:Nat)(l:List (Int×Int))(S0:Nat->Prop)(g:Nat)(x:Int×Int)(w:World)(fP:G w g #[v0,v1,v2,v3,n,v5,v6,gn,.slice A5 l.length k5] 136)(h5:ay Y.msg false w S0 (.slice A5 l.length k5) l)(OE:∀b,S0 b->b<w.1.size):
 Calls prog 91 #[.agg #[x.1,x.2],.pointer g] w λy w'=>y=.returned (.bool (Pl.jE n l x))/\aY w w':=by
 go_in;go_upto_region 1 with fail
 refine jt λW0 bx J=>?_;replace fP:=fP.next J;have H5:=U (h5.zero OE J);clear h5 OE;have ab:=eE bx fP;go_wp2_with fail;clear ab;refine(l9 gn n x.1 _ l _ H5.Z).mono ?_;rintro e w1 ⟨rfl,I⟩;refine lW I bx J ?_;clear I bx J;intro _ bx J;have ab:=ch bx;by_cases hf:Gr.find l n x.1<0
 ·have hr:Pl.jE n l x=true:=by unfold Pl.jE;rw[cV hf];rfl
  change aK _ at hr;go_wp2;go_ret;exact⟨by rw[hr.Z];rfl,J⟩
 ·have hr:Pl.jE n l x= !(jI x.2 0 4):=by unfold Pl.jE;rw[bZ hf];rfl
  change aK _ at hr;go_wp2_with fail;refine(yr x.2 _).mono ?_;rintro e w2 ⟨rfl,I⟩;go_wp2;go_ret;exact⟨rfl,J.trans (I.mono J.size)⟩
theorem MN(v0 v1 v2 v3 v5 v6:Value)(n gn:Int)(A5:Option Addr)(k5:Nat)(l:List (Int×Int))(S0:Nat->Prop)(g:Nat)(v:Value)(xs:List (Int×Int))(w:World)(S:Nat->Prop)(hS:∀b,S b->b<w.1.size)(h:ay Y.msg false w S v xs)(fP:G w g #[v0,v1,v2,v3,n,v5,v6,gn,.slice A5 l.length k5] 136)(h5:ay Y.msg false w S0 (.slice A5 l.length k5) l)(OE:∀b,S0 b->b<w.1.size):
 Calls prog 128 #[v,.func (.func 91) #[] #[.pointer g]] w λy w'=>y=.returned (.int .i64 (Pc.idx (λx:Int×Int=>Pl.jE n l x) xs))/\aY w w':=by
 obtain⟨A,c,rfl,hl,hm,hA⟩:=h;unfold maxLen at hm;have HA:=U hA;change aK _ at hS OE;clear hA;replace fP:=U fP;go_in;go_wp2;go_loopg [5,8] xs.length (λk _ i wr=>∃j:Nat,i=.int .i64 (j:Int)/\j<=xs.length/\k=xs.length-j/\Pc.clear (λx:Int×Int=>Pl.jE n l x) xs j/\aY w wr)
 case atStart=>exact⟨0,rfl,by omega,by omega,Pc.fI _ _,cT⟩
 case round=>
  obtain⟨j,rfl,hj,Q,hr,J⟩:=hrel;replace hr:=U hr;change aK _ at Q;by_cases bY:j<xs.length
  ·obtain⟨x,D⟩:=Pc.get_at bY;have hA:=HA.aE (dx hS.Z J);obtain⟨gx,o,rfl,hg,e0,e1⟩:=dm.yY hA D;have gg:gx<wr.1.size:=aU (hS gx hg) J.size;replace D:=U D;clear hA;go_wp2_with fail;refine(Kb v0 v1 v2 v3 v5 v6 n gn A5 k5 l S0 g x _ (fP.next J) (h5.aE (dx OE J)) (j2 OE J.size)).mono ?_;rintro e w1 ⟨rfl,ee⟩;cases ga:(λx:Int×Int=>Pl.jE n l x) x;all_goals
    have MG:=U ga;dsimp only at ga;rw[ga];clear ga;go_wp2_with fail
   ·go_roundg (xs.length-(j+1))
    case rel=>exact⟨j+1,by simp,by omega,rfl,Pc.ew hr.Z D.Z MG.Z,J.trans (ee.mono J.size)⟩
    case measure=>have:=Q.Z;omega
   ·go_ret;exact⟨by rw[Pc.iT hr.Z D.Z MG.Z];rfl,J.trans (ee.mono J.size)⟩
  ·have jx:j=xs.length:=by omega
   subst jx;go_wp2;go_ret;exact⟨by rw[Pc.gd hr.Z];rfl,J⟩
theorem MO(v0 v1 v2 v3 v5 v6:Value)(n gn:Int)(A5:Option Addr)(k5:Nat)(l:List (Int×Int))(S0:Nat->Prop)(g:Nat)(v:Value)(xs:List (Int×Int))(w:World)(S:Nat->Prop)(hS:∀b,S b->b<w.1.size)(h:ay Y.msg false w S v xs)(fP:G w g #[v0,v1,v2,v3,n,v5,v6,gn,.slice A5 l.length k5] 136)(h5:ay Y.msg false w S0 (.slice A5 l.length k5) l)(OE:∀b,S0 b->b<w.1.size):
 Calls prog 95 #[v,.func (.func 91) #[] #[.pointer g]] w λy w'=>y=.returned (.bool (xs.any (λx:Int×Int=>Pl.jE n l x)))/\aY w w':=by
 go_in;go_wp2_with fail;refine(MN v0 v1 v2 v3 v5 v6 n gn A5 k5 l S0 g v xs w S hS h fP h5 OE).mono ?_;rintro y w1 ⟨rfl,I⟩;have hi:=U (Pc.nX (λx:Int×Int=>Pl.jE n l x) xs).2;go_wp2;go_ret;exact⟨by rw[<-hi.Z];rfl,I⟩
namespace Pl
def uX(p:Pl)(i:Nat):Bool:=match p.dd[i]? with
 |some t=>Pl.nv p.n p.az t.src&&(jI t.bB 0 4&&(jI t.next 0 p.aL.length&& !((p.dd.take i).any λx=>t.Bn x)))
 |none=>true
def jF(p:Pl):Bool:=(List.range p.dd.length).all p.uX
def uY(p:Pl)(i:Nat):Bool:=match p.dg[i]? with
 |some k=>jI k.next 0 p.aL.length&&(decide (k.eo.length<=4)&& !(k.eo.any λx=>Pl.jE p.n p.az x))
 |none=>true
def iE(p:Pl):Bool:=decide (p.dg.length<=4)&&(decide (p.mode=1\/p.dg.length=0)&&(List.range p.dg.length).all p.uY)
end Pl
theorem ay.bounds{α:Type}{r:Y α}{fr:Bool}{w:World}{S:Nat->Prop}{A:Option Addr}{n c:Nat}{xs:List α}(h:ay r fr w S (.slice A n c) xs):xs.length<=c/\c<=2^63-1:=by
 obtain⟨_,_,he,F,R,_⟩:=h;cases he;exact⟨F,R⟩
theorem dm.lh{fr:Bool}{w:World}{S:Nat->Prop}{k:Nat}{A:Option Addr}{xs:List yp}{x:yp}(h:dm Y.lh fr w S A xs)(D:xs[k]?=some x):
 ∃g o B c,A=some ⟨g,o,none⟩/\S g/\w.cell? ⟨g,o+k * 2,none⟩=some (.int .i64 x.next)/\w.cell? ⟨g,o+k * 2+1,none⟩=some (.slice B x.eo.length c)/\ay Y.msg fr w S (.slice B x.eo.length c) x.eo:=by
 obtain⟨g,o,cs,rfl,F,⟨v,rfl,h3⟩,h5⟩:=dm.at_ h D;obtain⟨B,c,rfl,_⟩:=id h3;exact⟨g,o,B,c,rfl,F,by simpa[Y.lh] using(h5 0 _ rfl).1,by simpa[Y.lh,fK] using(h5 1 _ rfl).1,h3⟩
theorem Kc(v:Value)(p:Pl)(w:World)(S:Nat->Prop)(hS:∀b,S b->b<w.1.size)(h:da Y.pl w S v p):
 Calls prog 68 #[v] w λy w'=>y=.returned (.bool p.jF)/\aY w w':=by
 obtain⟨A1,A2,A3,A4,A5,k1,k2,k3,k4,k5,rfl,F,R,h3,h4,h5⟩:=h.pl;clear h;change aK _ at hS;go_in;go_upto_region 1 with fail
 refine jt λW0 bx J=>?_;obtain⟨hl,hm⟩:=h3.bounds;have ab:=ch bx;go_wp2;clear ab;go_loopg [3,4,5,10] p.dd.length (λq _ _ _ i wr=>∃j:Nat,i=.int .i64 (j:Int)/\j<=p.dd.length/\q=p.dd.length-j/\mP p.uX j/\G wr w.1.size #[p.mode,.slice A1 p.waits.length k1,.slice A2 p.dg.length k2,.slice A3 p.dd.length k3,p.n,p.start,.slice A4 p.aL.length k4,p.gn,.slice A5 p.az.length k5] 136/\aY w wr)
 case atStart=>exact⟨0,rfl,by omega,by omega,λi hi=>absurd hi (jO _),bx,J⟩
 case round=>
  clear bx J;obtain⟨j,rfl,hj,Q,hr,bx,J⟩:=hrel;replace hr:=U hr;change aK _ at Q;by_cases bY:j<p.dd.length
  ·obtain⟨t,ht⟩:=Pc.get_at bY;obtain⟨gx,o,rfl,hg,e0,e1,e2⟩:=(h3.arr.aE (dx hS J)).jc ht;have gg:gx<wr.1.size:=aU (hS gx hg) J.size;have HT:aK (p.uX j=(Pl.nv p.n p.az t.src&&(jI t.bB 0 4&&(jI t.next 0 p.aL.length&& !((p.dd.take j).any λx=>t.Bn x))))):=U (by unfold Pl.uX;rw[ht]);clear ht;have ab:=ch bx;go_upto_region 5 with fail
   clear ab;clear e0 e1 e2 gg;refine jt λW1 bt I=>?_;refine lW I bx J ?_;clear I bx J;intro _ bx J;have c0:=aD bx 0;have c1:=aD bx 1;have c2:=aD bx 2;have c3:=aD bx 3;have c4:=aD bx 4;have c5:=aD bx 5;have c6:=aD bx 6;have c7:=aD bx 7;have c8:=aD bx 8;simp only[dY,eR,eZ] at c0 c1 c2 c3 c4 c5 c6 c7 c8;have cl:=bx.lt;have d0:=aD bt 0;have d1:=aD bt 1;have d2:=aD bt 2;simp only[dY,eR,eZ] at d0 d1 d2;have dl:=bt.lt;go_wp2_with fail;refine(LS p.mode p.n p.start p.gn _ _ _ _ A5 k5 t.src p.az _ (h5.zero hS.Z J)).mono ?_;clear c0 c1 c2 c3 c4 c5 c6 c7 c8 cl;clear d0 d1 d2 dl;rintro e w2 ⟨rfl,I⟩;refine iX I bx bt J ?_;clear I bx bt J;intro _ bx bt J;cases q1:Pl.nv p.n p.az t.src with
   |false=>
    have ef:p.jF=false:=by exact dJ bY (by rw[HT.Z,q1];rfl)
    change aK _ at ef;go_wp2;go_ret;exact⟨by rw[ef.Z];rfl,J⟩
   |true=>
    have c0:=aD bx 0;have c1:=aD bx 1;have c2:=aD bx 2;have c3:=aD bx 3;have c4:=aD bx 4;have c5:=aD bx 5;have c6:=aD bx 6;have c7:=aD bx 7;have c8:=aD bx 8;simp only[dY,eR,eZ] at c0 c1 c2 c3 c4 c5 c6 c7 c8;have cl:=bx.lt;have d0:=aD bt 0;have d1:=aD bt 1;have d2:=aD bt 2;simp only[dY,eR,eZ] at d0 d1 d2;have dl:=bt.lt;go_wp2_with fail;refine(yr t.bB _).mono ?_;clear c0 c1 c2 c3 c4 c5 c6 c7 c8 cl;clear d0 d1 d2 dl;rintro e w3 ⟨rfl,I⟩;refine iX I bx bt J ?_;clear I bx bt J;intro _ bx bt J;cases q2:jI t.bB 0 4 with
    |false=>
     have ef:p.jF=false:=by exact dJ bY (by rw[HT.Z,q1,q2];rfl)
     change aK _ at ef;go_wp2;go_ret;exact⟨by rw[ef.Z];rfl,J⟩
    |true=>
     have c0:=aD bx 0;have c1:=aD bx 1;have c2:=aD bx 2;have c3:=aD bx 3;have c4:=aD bx 4;have c5:=aD bx 5;have c6:=aD bx 6;have c7:=aD bx 7;have c8:=aD bx 8;simp only[dY,eR,eZ] at c0 c1 c2 c3 c4 c5 c6 c7 c8;have cl:=bx.lt;have d0:=aD bt 0;have d1:=aD bt 1;have d2:=aD bt 2;simp only[dY,eR,eZ] at d0 d1 d2;have dl:=bt.lt;go_wp2_with fail;refine(Bm p.mode p.n p.start p.gn _ _ _ _ A4 p.aL.length k4 t.next _).mono ?_;clear c0 c1 c2 c3 c4 c5 c6 c7 c8 cl;clear d0 d1 d2 dl;rintro e w4 ⟨rfl,I⟩;refine iX I bx bt J ?_;clear I bx bt J;intro _ bx bt J;cases q3:jI t.next 0 p.aL.length with
     |false=>
      have ef:p.jF=false:=by exact dJ bY (by rw[HT.Z,q1,q2,q3];rfl)
      change aK _ at ef;go_wp2;go_ret;exact⟨by rw[ef.Z];rfl,J⟩
     |true=>
      have hs:=(h3.aE (dx hS.Z J)).T1 (k:=j) hj;replace hs:=U hs;have c0:=aD bx 0;have c1:=aD bx 1;have c2:=aD bx 2;have c3:=aD bx 3;have c4:=aD bx 4;have c5:=aD bx 5;have c6:=aD bx 6;have c7:=aD bx 7;have c8:=aD bx 8;simp only[dY,eR,eZ] at c0 c1 c2 c3 c4 c5 c6 c7 c8;have cl:=bx.lt;have d0:=aD bt 0;have d1:=aD bt 1;have d2:=aD bt 2;simp only[dY,eR,eZ] at d0 d1 d2;have dl:=bt.lt;go_wp2_with fail;refine(Hb t wr.1.size _ _ _ S (j2 hS J.size) hs.Z bt).mono ?_;clear c0 c1 c2 c3 c4 c5 c6 c7 c8 cl;clear d0 d1 d2 dl;rintro e w5 ⟨rfl,I⟩;refine lW I bx J ?_;clear I bx J;intro _ bx J;cases q4:(p.dd.take j).any λx=>t.Bn x with
      |true=>
       have ef:p.jF=false:=by exact dJ bY (by rw[HT.Z,q1,q2,q3,q4];rfl)
       change aK _ at ef;go_wp2;go_ret;exact⟨by rw[ef.Z];rfl,J⟩
      |false=>
       have HY:=U (show p.uX j=true by rw[HT.Z,q1,q2,q3,q4];rfl);clear q1 q2 q3 q4;go_wp2;go_roundg (p.dd.length-(j+1))
       case rel=>exact⟨j+1,by simp,by omega,rfl,hr.next HY.Z,bx,J⟩
       case measure=>have:=Q.Z;omega
  ·have jx:j=p.dd.length:=by omega
   subst jx;have ef:p.jF=true:=hr.all;change aK _ at ef;go_wp2;go_ret;exact⟨by rw[ef.Z];rfl,J⟩
theorem Kd(v:Value)(p:Pl)(w:World)(S:Nat->Prop)(hS:∀b,S b->b<w.1.size)(h:da Y.pl w S v p):
 Calls prog 67 #[v] w λy w'=>y=.returned (.bool p.iE)/\aY w w':=by
 obtain⟨A1,A2,A3,A4,A5,k1,k2,k3,k4,k5,rfl,F,R,h3,h4,h5⟩:=h.pl;clear h;change aK _ at hS;go_in;go_upto_region 1 with fail
 refine jt λW0 bx J=>?_;obtain⟨hl,hm⟩:=R.bounds;have ab:=ch bx;by_cases uh:p.dg.length<=4
 ·by_cases kr:p.mode=1\/p.dg.length=0
  ·have HQ:aK (p.iE=(List.range p.dg.length).all p.uY):=U (by unfold Pl.iE;rw[cV uh,cV kr];rfl);go_cut [23] (λu wx=>u=.bool false/\wx=W0)
   case first=>
    by_cases ue:p.mode=1
    ·have b1:(p.mode !=1)=false:=by simp[ue]
     clear ue kr;go_wp2;go_meet;exact⟨by simp;omega,rfl⟩
    ·have b1:(p.mode !=1)=true:=by simp[ue]
     have hq4:p.dg.length=0:=kr.resolve_left ue;have b2:¬((p.dg.length:Int)>0):=by omega
     clear ue kr hq4;go_wp2;go_meet;exact⟨by rw[bZ (by omega),bZ (by omega)];rfl,rfl⟩
   case rest=>
    obtain⟨rfl,rfl⟩:=hcut;clear kr;obtain⟨W,rfl⟩:∃x:World,x=wc:=⟨_,rfl⟩;go_wp2;clear ab;go_loopg [4,5,28] p.dg.length (λq _ _ i wr=>∃j:Nat,i=.int .i64 (j:Int)/\j<=p.dg.length/\q=p.dg.length-j/\mP p.uY j/\G wr w.1.size #[p.mode,.slice A1 p.waits.length k1,.slice A2 p.dg.length k2,.slice A3 p.dd.length k3,p.n,p.start,.slice A4 p.aL.length k4,p.gn,.slice A5 p.az.length k5] 136/\aY w wr)
    case atStart=>exact⟨0,rfl,by omega,by omega,λi hi=>absurd hi (jO _),bx,J⟩
    case round=>
     clear bx J;obtain⟨j,rfl,hj,Q,hr,bx,J⟩:=hrel;replace hr:=U hr;change aK _ at Q;by_cases bY:j<p.dg.length
     ·obtain⟨t,ht⟩:=Pc.get_at bY;obtain⟨gx,o,B,cB,rfl,hg,e0,e1,hs⟩:=(R.arr.aE (dx hS J)).lh ht;have gg:gx<wr.1.size:=aU (hS gx hg) J.size;obtain⟨DH,xH⟩:=hs.bounds;have HT:aK (p.uY j=(jI t.next 0 p.aL.length&&(decide (t.eo.length<=4)&& !(t.eo.any λx=>Pl.jE p.n p.az x)))):=U (by unfold Pl.uY;rw[ht]);clear ht;have ab:=ch bx;go_upto_region 7 with fail
      clear ab;clear e0 e1 gg;refine jt λW1 bt I=>?_;have j8:=hs.aE λb q=>I.block b (aU (hS.Z b q) J.size);replace bx:=bx.next I;replace J:=J.trans (I.mono J.size);clear I hs;replace j8:=U j8;obtain⟨WS,rfl⟩:∃x:World,x=W1:=⟨_,rfl⟩;have ui:=bI WS.1.size WS;have c0:=aD bx 0;have c1:=aD bx 1;have c2:=aD bx 2;have c3:=aD bx 3;have c4:=aD bx 4;have c5:=aD bx 5;have c6:=aD bx 6;have c7:=aD bx 7;have c8:=aD bx 8;simp only[dY,eR,eZ] at c0 c1 c2 c3 c4 c5 c6 c7 c8;have cl:=bx.lt;have d0:=aD bt 0;have d1:=aD bt 1;simp only[dY,eR,eZ] at d0 d1;have dl:=bt.lt;go_wp2_with fail;refine(Bm p.mode p.n p.start p.gn _ _ _ _ A4 p.aL.length k4 t.next _).mono ?_;clear c0 c1 c2 c3 c4 c5 c6 c7 c8 cl;clear d0 d1 dl;rintro e w2 ⟨rfl,I⟩;replace bx:=bx.next I;replace bt:=bt.next I;have hBL:=U J;replace J:=J.trans (I.mono J.size);cases q1:jI t.next 0 p.aL.length with
      |false=>
       have ef:p.iE=false:=by rw[HQ.Z];exact dJ bY (by rw[HT.Z,q1];rfl)
       change aK _ at ef;go_wp2;go_ret;exact⟨by rw[ef.Z];rfl,J⟩
      |true=>
       have c0:=aD bx 0;have c1:=aD bx 1;have c2:=aD bx 2;have c3:=aD bx 3;have c4:=aD bx 4;have c5:=aD bx 5;have c6:=aD bx 6;have c7:=aD bx 7;have c8:=aD bx 8;simp only[dY,eR,eZ] at c0 c1 c2 c3 c4 c5 c6 c7 c8;have cl:=bx.lt;have d0:=aD bt 0;have d1:=aD bt 1;simp only[dY,eR,eZ] at d0 d1;have dl:=bt.lt;by_cases q2:t.eo.length<=4
       ·have b3:¬((t.eo.length:Int)>4):=by omega
        have q5:decide (t.eo.length<=4)=true:=by simpa using q2
        go_wp2_with fail;refine(MO _ _ _ _ _ _ p.n p.gn A5 k5 p.az S w.1.size _ _ _ S (j2 hS J.size) (j8.aE λb q=>I.block b (aU (hS b q) hBL.size)) bx (h5.aE (dx hS J)) (j2 hS J.size)).mono ?_;clear c0 c1 c2 c3 c4 c5 c6 c7 c8 cl;clear d0 d1 dl;clear I;rintro e w3 ⟨rfl,I⟩;refine lW I bx J ?_;clear I bx J;intro _ bx J;cases q4:t.eo.any λx=>Pl.jE p.n p.az x with
        |true=>
         have ef:p.iE=false:=by rw[HQ.Z];exact dJ bY (by rw[HT.Z,q1,q5,q4];rfl)
         change aK _ at ef;go_wp2;go_ret;exact⟨by rw[ef.Z];rfl,J⟩
        |false=>
         have HY:=U (show p.uY j=true by rw[HT.Z,q1,q5,q4];rfl);clear q1 q2 q5 q4;go_wp2;go_roundg (p.dg.length-(j+1))
         case rel=>exact⟨j+1,by simp,by omega,rfl,hr.next HY.Z,bx,J⟩
         case measure=>have:=Q.Z;omega
       ·have b3:(t.eo.length:Int)>4:=by omega
        have q5:decide (t.eo.length<=4)=false:=by simpa using q2
        have ef:p.iE=false:=by rw[HQ.Z];exact dJ bY (by rw[HT.Z,q1,q5];rfl)
        change aK _ at ef;go_wp2;go_ret;exact⟨by rw[ef.Z];rfl,J⟩
     ·have jx:j=p.dg.length:=by omega
      subst jx;have ef:p.iE=true:=HQ.Z.trans hr.all;change aK _ at ef;go_wp2;go_ret;exact⟨by rw[ef.Z];rfl,J⟩
  ·have HN:aK (p.iE=false):=U (by unfold Pl.iE;rw[bZ kr];simp);have ue:¬p.mode=1:=λe=>kr (.inl e);have b1:(p.mode !=1)=true:=by simp[ue]
   have b2:(p.dg.length:Int)>0:=by have:¬p.dg.length=0:=λe=>kr (.inr e);omega
   clear kr ue;go_wp2;go_ret;exact⟨by rw[HN.Z];rfl,J⟩
 ·have HN:aK (p.iE=false):=U (by unfold Pl.iE;rw[bZ uh];rfl);have b2:(p.dg.length:Int)>4:=by omega
  clear uh;go_wp2;go_ret;exact⟨by rw[HN.Z];rfl,J⟩
end Go.Proofs.YtmgahjkopiaglaaGreat
