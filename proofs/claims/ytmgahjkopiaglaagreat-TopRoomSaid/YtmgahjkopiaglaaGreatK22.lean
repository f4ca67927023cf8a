/- Lemmas, walks and contracts by which the statement is proved. -/
import Derived.Test.YtmgahjkopiaglaaGreatK21
set_option maxRecDepth 100000
set_option maxHeartbeats 16000000
set_option linter.all false
namespace Go.Proofs.YtmgahjkopiaglaaGreat
open Go.RowKit Go.Proofs.Tryz
theorem El.at_{w:World}{g:Nat}{es:List El}{tl:List Value}{T:TypeId}{k:Nat}{e:El}(h:G w g (El.flat es++tl).toArray T)(Q:es[k]?=some e)(i:Nat)(hi:i<6):w.cell? ⟨g,k * 6+i,none⟩=e.cells[i]?:=by
 rw[aD h,dY,lF,El.H' Q i hi];rw[El.jY];have:=(eD.1 Q).1;omega
theorem El.swap{w:World}{g:Nat}{ps qs:List El}{x y:El}{tl:List Value}{T:TypeId}(h:G w g (El.flat (ps++y::x::qs)++tl).toArray T):
 G (cz (cz w g ((ps.length+1) * 6) y.cells) g (ps.length * 6) x.cells) g (El.flat (ps++x::y::qs)++tl).toArray T:=by
 have e:∀a b:El,El.flat (ps++a::b::qs)++tl=El.flat ps++a.cells++b.cells++(El.flat qs++tl):=λa b=>by simp[El.flat]
 rw[e] at h;rw[e];have l6:∀a:El,a.cells.length=6:=λa=>rfl;have F:=BQ y.cells (El.flat ps++y.cells) x.cells (El.flat qs++tl) w h rfl;rw[dh,El.jY,l6,show 6 * ps.length+6=(ps.length+1) * 6 by omega] at F;have R:=BQ x.cells (El.flat ps) y.cells (y.cells++(El.flat qs++tl)) _ (by rw[<-qH];exact F) rfl;rw[El.jY,Nat.mul_comm 6,<-qH] at R;exact R
theorem vp{w w0:World}{g:Nat}:∀(l:List Value)(i:Nat)(w:World),w0.grownBy w (some g)->w0.grownBy (cz w g i l) (some g)
 |[],_,_,h=>h
 |v::l,i,_,h=>vp (w:=w) l (i+1) _ (aN h (cU i v))
theorem El.xI{w:World}{g:Nat}{es:List El}{tl:List Value}{T:TypeId}{k:Nat}{e:El}(h:G w g (El.flat es++tl).toArray T)(Q:es[k]?=some e):
 w.cell? ⟨g,k * 6,none⟩=some (.int .i64 e.node)/\w.cell? ⟨g,k * 6+1,none⟩=some (.int .i64 e.state)/\w.cell? ⟨g,k * 6+2,none⟩=some (.int .i64 e.steps)/\w.cell? ⟨g,k * 6+3,none⟩=some (.slice e.aA e.an e.ac)/\w.cell? ⟨g,k * 6+4,none⟩=some (.slice e.bA e.bn e.bc)/\w.cell? ⟨g,k * 6+5,none⟩=some (.slice e.cA e.cn e.cc):=
 ⟨El.at_ h Q 0 (by decide),El.at_ h Q 1 (by decide),El.at_ h Q 2 (by decide),El.at_ h Q 3 (by decide),El.at_ h Q 4 (by decide),El.at_ h Q 5 (by decide)⟩
theorem Qo(x z:Int):(rl x z<0)↔x<z:=by unfold rl;split<;>(try split)<;>omega
theorem Nu(es:List El)(tl:List Value)(g n m c:Nat)(w:World)(hr:G w g (El.flat es++tl).toArray 112)(hn:es.length=n)(rI:n<=1000)(hm:n<=m)(hmc:m<=c)(hc:c<=2^63-1):
 Calls prog 237 #[.slice g m c,aP,.int .i64 n,.func (.func 204) #[] #[]] w λy w'=>y=.returned (.tuple #[])/\G w' g (El.flat (El.back es).reverse++tl).toArray 112/\w.grownBy w' (some g):=by
 have hG:=ka w (some g);change aK _ at hn;go_in;go_wp2;go_loopg [8,9] (n-1) (λq i _ wr=>∃(j:Nat),i=.int .i64 (j:Int)/\1<=j/\j<=max n 1/\q=n-j/\G wr g (El.flat ((El.back (es.take j)).reverse++es.drop j)++tl).toArray 112/\w.grownBy wr (some g))
 case atStart=>
  refine⟨1,rfl,by omega,by omega,by omega,?_,hG⟩;have:(El.back (es.take 1)).reverse++es.drop 1=es:=by cases es<;>rfl
  rw[this];exact hr
 case round=>
  clear hr hG;obtain⟨i,rfl,Xv,iu,hq,hr,hG⟩:=hrel;change aK _ at hq;replace hr:=U hr;replace hG:=U hG;by_cases bY:i<n
  ·obtain⟨x,D⟩:∃x,es[i]?=some x:=⟨_,eu (by rw[hn.Z];exact bY)⟩;have hdr:es.drop i=x::es.drop (i+1):=by obtain⟨q1,q2⟩:=eD.1 D;rw[<-q2];exact AQ q1
   have Fs:El.back (es.take (i+1))=El.ins x (El.back (es.take i)):=by rw[Pc.de D,El.Ns]
   have qy:(El.back (es.take i)).length=i:=by rw[El.yE,dL,hn.Z];omega
   replace D:=U D;change aK _ at hdr Fs qy;go_wp2;go_loopg [9] i (λq v wr=>∃(pre post:List El),v=.int .i64 (post.length:Int)/\El.back (es.take i)=pre++post/\(∀y∈pre,x.node<y.node)/\q=post.length/\G wr g (El.flat (post.reverse++x::(pre.reverse++es.drop (i+1)))++tl).toArray 112/\w.grownBy wr (some g))
   case atStart=>
    refine⟨[],El.back (es.take i),by rw[qy.Z],rfl,by simp,qy.symm,?_,hG.Z⟩;have:=hr.Z;rw[hdr.Z] at this;simpa using this
   case round=>
    obtain⟨pre,post,rfl,L7,Fv,Q,ug,Y4⟩:=hrel;change aK _ at L7 Q;replace Fv:=U Fv;replace ug:=U ug;replace Y4:=U Y4;have rT:post.length<=i:=by have h:=fS List.length L7.Z;rw[qy.Z,dh] at h;omega
    cases post with
    |nil=>
     have J:=bI wr.1.size wr;have br:=ug.Z;have e0:((([]:List El).length:Nat):Int)=0:=rfl;go_upto_region 4 with fail
     refine dr 16384 (by kernel_rfl) λW6 hW=>?_;have I:aY wr W6:=hW▸cT.drew;have K:=Ext.refl W6;clear hW;refine lW I br J ?_;clear I br J;intro z6 br J;refine aG [0,1,2,3,10] 12 ?_;go_wp2;refine tJ 11 ?_ (hy:=.inr ⟨by rfl,rfl⟩);refine aG [4,5,6,7,8,9,12,13] 3 ?_;go_wp2;refine oJ 14 ?_;go_wp2;refine⟨λ_=>K,?_⟩;refine aG [15,16] 0 ?_;go_wp2;refine eJ ?_;go_wp2;go_roundg (n-(i+1))
     case rel=>
      have h3:El.back (es.take (i+1))=pre++x::[]:=by rw[Fs.Z,L7.Z];exact El.xR x pre [] Fv.Z (λy h=>by simp at h)
      refine⟨i+1,by simp,by omega,by omega,rfl,?_,aN Y4.Z (aT J)⟩;rw[h3];have:=br;simpa using this
     case measure=>have:=hq.Z;omega
    |cons y post=>
     obtain⟨k,ma⟩:=cJ post.length;obtain⟨j,Vr⟩:=cJ ((y::post).length);have Ua:j=k+1:=by rw[<-Vr,fF,ma]
     have Pd:(j:Int)-1=(k:Int):=by omega
     have hjn:j<=1000:=by omega
     have Jr:k<1000:=by omega
     have hjm:j<m:=by omega
     have hkm:k<m:=by omega
     have hj3:(j:Int)>0:=by omega
     rw[Vr];have hL:((y::post).reverse++x::(pre.reverse++es.drop (i+1)))=post.reverse++y::x::(pre.reverse++es.drop (i+1)):=by simp
     have br:=ug.Z;rw[hL] at br;have hy:(post.reverse++y::x::(pre.reverse++es.drop (i+1)))[k]?=some y:=by rw[pJ (by simp;omega)];simp[ma]
     have hx9:(post.reverse++y::x::(pre.reverse++es.drop (i+1)))[j]?=some x:=by rw[pJ (by simp;omega)];simp[ma,Ua]
     clear rT hL;change aK _ at ma Vr Ua hy hx9;have J:=bI wr.1.size wr;go_upto_region 4 with fail
     obtain⟨cv,Y5⟩:=cJ (rl x.node y.node);change aK _ at Y5;refine dr 16384 (by kernel_rfl) λW6 hW=>?_;have I:aY wr W6:=hW▸cT.drew;have K:=Ext.refl W6;clear hW;refine lW I br J ?_;clear I br J;intro z6 br J;refine aG [0,1,2,3,10] 12 ?_;go_wp2;refine tJ 11 ?_;obtain⟨d0,d1,d2,d3,d4,d5⟩:=El.xI br hy.Z;obtain⟨e0,e1,e2,e3,e4,e5⟩:=El.xI br hx9.Z;have brl:=br.lt;have brf:=br.mO;refine aG [4,5,6,7,8,9,12,13] 3 ?_;go_wp2;clear d0 d1 d2 d3 d4 d5 e0 e1 e2 e3 e4 e5 brl brf;refine oJ 14 ?_;go_wp2_with fail;refine(KQ x y _).mono ?_;rintro e w7 ⟨rfl,I⟩;refine iX I br K J ?_;clear I br K J;intro z7 br K J;rw[Y5.Z];go_wp2;refine⟨λ_=>K,?_⟩;refine aG [15,16] 0 ?_;go_wp2;refine eJ ?_;by_cases CQ:cv<0
     ·have rY:x.node<y.node:=(Qo _ _).1 (by rw[Y5.Z];exact CQ);change aK _ at rY;go_upto_region 6 with fail
      refine dr 0 (by kernel_rfl) λW8 hW=>?_;have I:aY w7 W8:=hW▸cT.drew;have K:=Ext.refl W8;clear hW;refine lW I br J ?_;clear I br J;intro z8 br J;refine tK 0 ?_;refine tK 1 ?_;refine tK 2 ?_;refine tK 3 ?_;refine tK 4 ?_;refine aG [6] 12 ?_;go_wp2;refine tJ 7 ?_;obtain⟨d0,d1,d2,d3,d4,d5⟩:=El.xI br hy.Z;obtain⟨e0,e1,e2,e3,e4,e5⟩:=El.xI br hx9.Z;have brl:=br.lt;have brf:=br.mO;refine aG [5,8,9,10,11,12,13,14,15,16,17] 0 ?_;go_wp2;refine eJ ?_;go_upto_region 5 with fail
      refine bK λW9 hW=>?_;have hsw:=El.swap br;rw[List.length_reverse,ma.Z,<-Ua.Z] at hsw;have Y6:G W9 g (El.flat (post.reverse++x::y::(pre.reverse++es.drop (i+1)))++tl).toArray 112:=by rw[<-hW];exact hsw
      have Js:w.grownBy W9 (some g):=by rw[<-hW];exact vp (w:=W8) x.cells _ _ (vp (w:=W8) y.cells _ _ (aN Y4.Z (aT J)))
      clear hW hsw br d0 d1 d2 d3 d4 d5 e0 e1 e2 e3 e4 e5 brl brf J;replace Y6:=U Y6;replace Js:=U Js;go_wp2;go_roundg k
      case rel=>
       refine⟨pre++[y],post,by rw[ma.Z],by rw[L7.Z];simp,?_,ma.symm,by have:=Y6.Z;simpa using this,Js.Z⟩;intro z hz;rcases nf.1 hz with hz|hz
       ·exact Fv z hz
       ·rw[vY.1 hz];exact rY.Z
      case measure=>have:=Q.Z;rw[Vr.Z] at this;have:=Ua.Z;omega
     ·have Mv:¬x.node<y.node:=λh=>CQ (by rw[<-Y5.Z];exact(Qo _ _).2 h);replace Mv:=U Mv;go_wp2;go_roundg (n-(i+1))
      case rel=>
       have h3:El.back (es.take (i+1))=pre++x::(y::post):=by rw[Fs.Z,L7.Z];exact El.xR x pre (y::post) Fv.Z (λz h=>by injection h with h;subst h;have:=Mv.Z;omega)
       refine⟨i+1,by simp,by omega,by omega,rfl,?_,aN Y4.Z (aT J)⟩;rw[h3];have:=br;simpa using this
      case measure=>have:=hq.Z;omega
  ·have ht:es.take i=es:=jL (by rw[hn.Z];omega);have hd:es.drop i=[]:=uI (by rw[hn.Z];omega);have j1:=hr.Z;rw[ht,hd,List.append_nil] at j1;replace j1:=U j1;clear ht hd;go_wp2;exact⟨rfl,.tuple #[],by simp[results,results237,go_sem],rfl,j1.Z,hG.Z⟩
theorem KR(es:List El)(tl:List Value)(g n c:Nat)(w:World)(hr:G w g (El.flat es++tl).toArray 112)(hn:es.length=n)(rI:n<20)(hmc:n<=c)(hc:c<=2^63-1):
 Calls prog 227 #[.slice g n c,.int .i64 n,.func (.func 204) #[] #[]] w λy w'=>y=.returned (.tuple #[])/\G w' g (El.flat (El.back es).reverse++tl).toArray 112/\w.grownBy w' (some g):=by
 replace hr:=U hr;change aK _ at hn;go_in;go_wp2;go_loopg [7,8] 0 (λq a b wr=>a=.int .i64 0/\b=.int .i64 20/\wr=w)
 case atStart=>exact⟨rfl,rfl,rfl⟩
 case round=>
  obtain⟨rfl,rfl,rfl⟩:=hrel;go_wp2_with fail;refine(Nu es tl g n n c _ hr.Z hn.Z (by omega) bE hmc hc).mono ?_;rintro e w9 ⟨rfl,im,Js⟩;replace im:=U im;replace Js:=U Js;go_wp2;go_loopg [6,7,8,9] 0 (λq a b c d wr=>a=.int .i64 20/\wr=w9)
  case atStart=>exact⟨rfl,rfl⟩
  case round=>
   obtain⟨rfl,rfl⟩:=hrel;go_wp2;exact⟨rfl,.tuple #[],by simp[results,results227,go_sem],rfl,im.Z,Js.Z⟩
theorem Nv(es:List El)(tl:List Value)(g n c:Nat)(w:World)(hr:G w g (El.flat es++tl).toArray 112)(hn:es.length=n)(rI:n<20)(hmc:n<=c)(hc:c<=2^63-1):
 Calls prog 203 #[.slice g n c,.func (.func 204) #[] #[]] w λy w'=>y=.returned (.tuple #[])/\G w' g (El.flat (El.back es).reverse++tl).toArray 112/\w.grownBy w' (some g):=by
 replace hr:=U hr;change aK _ at hn;go_in;go_wp2_with fail;refine(KR es tl g n c _ hr.Z hn.Z rI hmc hc).mono ?_;rintro e w9 ⟨rfl,im,Js⟩;go_wp2;exact⟨rfl,.tuple #[],by simp[results,results203,go_sem],rfl,im,Js⟩
def El.xT(x:El×Pc.bG):List (El×Pc.bG)->List (El×Pc.bG)
 |[]=>[x]
 |y::l=>if x.1.node<y.1.node then y::El.xT x l else x::y::l
def El.Ut(ps:List (El×Pc.bG)):List (El×Pc.bG):=ps.foldl (λr x=>El.xT x r) []
theorem El.BR{x z:El×Pc.bG}:∀ {l:List (El×Pc.bG)},z∈El.xT x l->z=x\/z∈l
 |[],h=>by simpa[El.xT] using h
 |y::l,h=>by
  unfold El.xT at h;split at h
  ·rcases jQ.1 h with h|h
   ·exact .inr (h▸List.mem_cons_self)
   ·rcases El.BR h with h|h
    ·exact .inl h
    ·exact .inr (ET _ h)
  ·rcases jQ.1 h with h|h
   ·exact .inl h
   ·exact .inr h
theorem El.Ia(x:El×Pc.bG):∀l:List (El×Pc.bG),(El.xT x l).map (·.1)=El.ins x.1 (l.map (·.1))
 |[]=>rfl
 |y::l=>by
  unfold El.xT;rw[jR,El.ins];split
  ·rw[jR,El.Ia x l]
  ·rfl
theorem El.Ib(x:El×Pc.bG)(D:x.1.node=x.2.node):∀l:List (El×Pc.bG),(∀p∈l,p.1.node=p.2.node)->(El.xT x l).map (·.2)=V.sS x.2 (l.map (·.2))
 |[],_=>rfl
 |y::l,h=>by
  unfold El.xT;rw[jR,V.sS,<-D,<-h y (by simp)];split
  ·rw[jR,El.Ib x D l λp q=>h p (by simp[q])]
  ·rfl
theorem El.Ej:∀(ps r:List (El×Pc.bG)),(∀p∈ps,p.1.node=p.2.node)->(∀p∈r,p.1.node=p.2.node)->
 (ps.foldl (λr x=>El.xT x r) r).map (·.1)=(ps.map (·.1)).foldl (λr x=>El.ins x r) (r.map (·.1))/\(ps.foldl (λr x=>El.xT x r) r).map (·.2)=(ps.map (·.2)).foldl (λr x=>V.sS x r) (r.map (·.2))/\
 ∀p∈ps.foldl (λr x=>El.xT x r) r,p∈ps\/p∈r
 |[],r,_,_=>⟨rfl,rfl,λp h=> .inr h⟩
 |x::ps,r,F,R=>by
  obtain⟨q1,q2,q3⟩:=El.Ej ps (El.xT x r) (λp q=>F p (by simp[q])) (λp q=>by
   rcases El.BR q with q|q
   ·exact q▸F x (by simp)
   ·exact R p q)
  rw[kK,jR,kK,jR,kK,q1,q2,El.Ia,El.Ib x (F x (by simp)) r R];refine⟨rfl,rfl,λp q=>?_⟩;rcases q3 p q with q|q
  ·exact .inl (by simp[q])
  ·rcases El.BR q with q|q
   ·exact .inl (by simp[q])
   ·exact .inr q
theorem El.Qp{w:World}{S:Nat->Prop}:∀ {xs:List Pc.bG} {cells:List Value},Y.piece.all false w S cells xs->∃ps:List (El×Pc.bG),cells=El.flat (ps.map (·.1))/\xs=ps.map (·.2)/\∀p∈ps,p.1.node=p.2.node/\Y.piece.is false w S p.1.cells p.2
 |[],cells,h=>⟨[],h,rfl,λp q=>by simp at q⟩
 |x::xs,cells,h=>by
  obtain⟨cs,rest,rfl,F,R⟩:=h;obtain⟨ps,q1,q2,q3⟩:=El.Qp R;obtain⟨a,b,c,e,k1,k2,k3⟩:=id F;obtain⟨A0,c0,rfl,_⟩:=id k1;obtain⟨A1,c1,rfl,_⟩:=id k2;obtain⟨A2,c2,rfl,_⟩:=id k3;subst e;refine⟨(⟨x.node,x.state,x.steps,A0,_,c0,A1,_,c1,A2,_,c2⟩,x)::ps,by rw[q1];rfl,by rw[q2];rfl,λp q=>?_⟩;rcases jQ.1 q with q|q
  ·exact q▸⟨rfl,F⟩
  ·exact q3 p q
theorem El.Fy{w:World}{S:Nat->Prop}:∀ {ps:List (El×Pc.bG)},(∀p∈ps,Y.piece.is false w S p.1.cells p.2)->Y.piece.all false w S (El.flat (ps.map (·.1))) (ps.map (·.2))
 |[],_=>rfl
 |p::ps,h=>⟨p.1.cells,El.flat (ps.map (·.1)),rfl,h p (by simp),El.Fy λq hq=>h q (by simp[hq])⟩
theorem El.sorted{w:World}{S:Nat->Prop}{xs:List Pc.bG}{cells:List Value}(h:Y.piece.all false w S cells xs):∃es:List El,cells=El.flat es/\es.length=xs.length/\Y.piece.all false w S (El.flat (El.back es).reverse) (V.Ss xs):=by
 obtain⟨ps,rfl,rfl,h3⟩:=El.Qp h;refine⟨ps.map (·.1),rfl,by simp,?_⟩;obtain⟨q1,q2,q3⟩:=El.Ej ps [] (λp q=>(h3 p q).1) (by simp);have:=El.Fy (w:=w) (S:=S) (ps:=(El.Ut ps).reverse) λp q=>(h3 p (by
  rcases q3 p (List.mem_reverse.1 q) with q|q
  ·exact q
  ·simp at q)).2
 rw[List.map_reverse,List.map_reverse] at this;unfold El.Ut at this;rw[q1,q2] at this;exact this
theorem Ic{B g:Nat}{a w:World}(h:a.grownBy w (some g))(hg:B<=g)(J:B<=a.1.size):Below B a w:=
 ⟨h.os,h.tape,h.output,h.size,λi hi=>h.block i (aU hi J) (λe=>by injection e with e;omega)⟩
theorem Ek:∀ {l:List Pc.bG} {k:Nat} {x y:Pc.bG},l[k]?=some x->l[k+1]?=some y->x.node=y.node->V.wR l=true
 |[],k,x,y,h,_,_=>by simp at h
 |[a],k,x,y,_,h,_=>by simp at h
 |a::b::l,0,x,y,F,R,h3=>by
  injection F with F;injection R with R;subst F R
  rw[V.wR,h3];simp
 |a::b::l,k+1,x,y,F,R,h3=>by
  rw[V.wR,Ek (l:=b::l) (k:=k) F R h3];simp
theorem Ie:∀ {l:List Pc.bG},(∀(k:Nat)(x y:Pc.bG),l[k]?=some x->l[k+1]?=some y->x.node≠y.node)->V.wR l=false
 |[],_=>rfl
 |[a],_=>rfl
 |a::b::l,h=>by
  rw[V.wR,Ie (l:=b::l) λk x y F R=>h (k+1) x y F R];have:=h 0 a b rfl rfl;simpa using this
theorem BS(l:List Pc.bG):(V.Ss l).length=l.length:=by
 have F:∀(x:Pc.bG)(r:List Pc.bG),(V.sS x r).length=r.length+1:=by
  intro x r;induction r with
  |nil=>rfl
  |cons y r ih=>unfold V.sS;split<;>simp[ih]
 have R:∀(l r:List Pc.bG),(l.foldl (λr x=>V.sS x r) r).length=r.length+l.length:=by
  intro l;induction l with
  |nil=>intro r;rfl
  |cons x l ih=>intro r;rw[kK,ih,F,fF];omega
 unfold V.Ss;rw[List.length_reverse,R];simp
theorem El.KS{w:World}{S:Nat->Prop}:∀ {es:List El} {xs:List Pc.bG},Y.piece.all false w S (El.flat es) xs->∀(k:Nat)(e:El)(x:Pc.bG),es[k]?=some e->xs[k]?=some x->e.node=x.node
 |[],_,_,k,e,x,h,_=>by simp at h
 |_::_,[],_,k,e,x,_,h=>by simp at h
 |a::es,y::xs,h,k,e,x,F,R=>by
  obtain⟨cs,rest,he,q1,q2⟩:=h;have hl:=Y.piece.len q1;have hc:cs=a.cells/\rest=El.flat es:=by
   have:=List.append_inj (show a.cells++El.flat es=cs++rest from he) (by rw[hl];rfl);exact⟨this.1.symm,this.2.symm⟩
  obtain⟨rfl,rfl⟩:=hc
  match k with
  |0=>
   injection F with F;injection R with R;subst F R
   obtain⟨p,q,r,hq,_⟩:=q1;simp only[El.cells,qL,Value.int.injEq] at hq;exact hq.1.2
  |k+1=>exact El.KS q2 k e x F R
theorem Em(xs ys:List Pc.bG)(A1 A2:Option Addr)(c1 c2:Nat)(w:World)(S:Nat->Prop)(hS:∀b,S b->b<w.1.size)(F:ay Y.piece false w S (.slice A1 xs.length c1) xs)(R:ay Y.piece false w S (.slice A2 ys.length c2) ys)(hn:xs.length+ys.length<20)(xr:0<xs.length+ys.length)(xj:∀p∈xs,Pc.sized p)(mJ:∀p∈ys,Pc.sized p):
 Calls prog 157 #[.slice A1 xs.length c1,.slice A2 ys.length c2] w λy w'=>((V.merge xs ys=none/\y=.returned (.tuple #[(),.int .i64 4]))\/∃u all,V.merge xs ys=some all/\y=.returned (.tuple #[u,aP])/\ay Y.piece false w' (bO w.1.size w'.1.size) u all)/\aY w w':=by
 have J:=bI w.1.size w;have H1:=U F;clear F;have H2:=U R;clear R;have HS:=U hS;clear hS;go_in;go_wp2_with fail;refine(Us xs A1 c1 _ S (j2 HS J.size) (H1.aE (dx HS J)) (by omega) xj).mono ?_;rintro e w1 ⟨⟨u,rfl,hu⟩,I⟩;refine Ru I J ?_;clear I J;intro z1 J;obtain⟨B1,k1,rfl,_⟩:=id hu;have HU:=U hu;clear hu;have hU:=bI w1.1.size w1;go_wp2_with fail;refine(Us ys A2 c2 _ S (j2 HS J.size) (H2.aE (dx HS J)) (by omega) mJ).mono ?_;rintro e w2 ⟨⟨u,rfl,hu⟩,I⟩;refine lW I hU J ?_;clear I hU J;intro z2 hU J;obtain⟨B2,k2,rfl,_⟩:=id hu;replace hu:=U hu;have hV:=bI w2.1.size w2;go_wp2_with fail;refine Yi λWq ga I=>?_;refine iX I hU hV J ?_;clear I hU hV J;intro z3 hU hV J;have uh:=(HU.aE λb q=>hU.block b (bO.hi q)).aF (S':=bO w.1.size w2.1.size) λb q=>⟨bO.lo q,by have:=bO.hi q;omega⟩;have kr:=(hu.aE λb q=>hV.block b (bO.hi q)).aF (S':=bO w.1.size w2.1.size) λb q=>⟨by have:=bO.lo q;omega,bO.hi q⟩;replace uh:=U uh;have Hq2:=U kr;clear kr;refine(H0 (bO w.1.size w2.1.size) _ B1 B2 k1 k2 xs ys _ (λb q=>by have:=bO.hi q;omega) uh.Z Hq2.Z ga (by omega)).mono ?_;rintro e w4 ⟨⟨u,cells,rfl,Ed,DU⟩,I⟩;refine iX I hU hV J ?_;clear I hU hV J;intro z4 hU hV J;obtain⟨es,rfl,VO,VP⟩:=El.sorted DU;obtain⟨T8,h0|⟨g,cap,cur,rfl,hg,Nb,hnc,CJ,fM,Fs⟩⟩:=Ed
 ·exfalso;have:=h0.2;rw[dh] at this;omega
 clear DU T8;have ct:G w4 g (El.flat es++cur.toList.drop ((xs++ys).length * 6)).toArray 112:=by rw[<-Fs];unfold G;rw[vU];simpa using Nb
 obtain⟨n,j6⟩:=cJ ((xs++ys).length);have aiz:xs.length+ys.length=n:=by rw[<-j6,dh]
 rw[j6] at ct VO hnc⊢;have PH:=U fM;have HTL:aK (cur.size=cap * 6):=U fM;change aK _ at j6;clear fM Nb Fs;replace ct:=U ct;replace VP:=U VP;replace VO:=U VO;have LO:n<=cap:=hnc;unfold maxLen at CJ;go_wp2_with fail;refine(Nv es _ g n cap _ ct.Z VO.Z (by omega) hnc CJ).mono ?_;rintro e ws ⟨rfl,hr,hG⟩;have I:Below w.1.size w4 ws:=Ic hG (by omega) (by omega);replace J:=J.trans I;have fg:=Y.ej (w':=ws) (λb q=>hG.block b (by have:=bO.hi q;omega) (λe=>by injection e with e;have:=bO.hi q;omega)) VP.Z;obtain⟨ss,Nw⟩:=cJ ((El.back es).reverse);obtain⟨zs,nZ⟩:=cJ (V.Ss (xs++ys));rw[Nw] at hr fg;rw[nZ] at fg;have rK:ss.length=n:=by rw[<-Nw,List.length_reverse,El.yE,VO.Z]
 have T5:zs.length=n:=by rw[<-nZ,BS,j6.Z]
 have Fm:g<ws.1.size:=hr.lt;have hS:=bI ws.1.size ws;replace hr:=U hr;replace fg:=U fg;change aK _ at Nw nZ rK T5;have Y7:=U J;have HS0:=U hS;have TX:w.1.size<=g:=by omega
 go_wp2;go_loopg [7,8,19] n (λq _ _ i wr=>∃j:Nat,i=.int .i64 (j:Int)/\j<=n/\q=n-j/\G wr g (El.flat ss++cur.toList.drop (n * 6)).toArray 112/\aY w wr/\aY ws wr/\∀(k:Nat)(x y:Pc.bG),k+1<j->zs[k]?=some x->zs[k+1]?=some y->x.node≠y.node)
 case atStart=>exact⟨0,rfl,by omega,by omega,hr.Z,Y7.Z,HS0.Z,λk x y h=>by omega⟩
 case round=>
  clear J hS Y7 HS0 hU hV I hG;obtain⟨j,rfl,hj,Q,ze,J,hS,uf⟩:=hrel;change aK _ at Q uf;by_cases bY:j<n
  ·obtain⟨e,he⟩:∃e,ss[j]?=some e:=⟨_,eu (by rw[rK.Z];exact bY)⟩;obtain⟨x,D⟩:∃x,zs[j]?=some x:=⟨_,eu (by rw[T5.Z];exact bY)⟩;have hex:=El.KS fg.Z j e x he D;have hjc:j<cap:=by omega
   replace he:=U he;replace D:=U D;replace hex:=U hex;obtain⟨d0,d1,d2,d3,d4,d5⟩:=El.xI ze he.Z;have gl:=ze.lt;go_upto_region 6 with fail
   refine jt λOM bx I=>?_;have YU:=bx.lt;refine iX I ze hS J ?_;clear I ze hS J;intro z21 ze hS J;clear d0 d1 d2 d3 d4 d5 gl;cases j with
   |zero=>
    refine dr 0 (by kernel_rfl) λrQ hW=>?_;have I:aY OM rQ:=hW▸cT.drew;have K:=Ext.refl rQ;clear hW;refine ja I bx ze hS J ?_;clear I bx ze hS J;intro L3 bx ze hS J;refine aG [0,1,2,6] 9 ?_;go_wp2;refine tJ 7 ?_ (hy:=.inr ⟨by rfl,rfl⟩);have O:=ch bx;refine aG [3,4,5,8,9,10,11,12] 0 ?_;go_wp2;refine eJ ?_;go_wp2;go_roundg (n-(0+1))
    case rel=>
     refine⟨0+1,by simp,by omega,rfl,ze,J,hS,λk x y h F R=>?_⟩;omega
    case measure=>have:=Q.Z;omega
   |succ k0=>
    obtain⟨j,hj9⟩:=cJ (k0+1);rw[hj9];rw[hj9] at bY hjc;have Pd:(j:Int)-1=(k0:Int):=by omega
    have hj3:(j:Int)>0:=by omega
    have Y8:k0<n:=by omega
    have aiC:k0<n:=by omega
    have aiD:k0<cap:=by omega
    obtain⟨e2,r'⟩:∃e,ss[k0]?=some e:=⟨_,eu (by rw[rK.Z];exact Y8)⟩;obtain⟨x2,iF⟩:∃x,zs[k0]?=some x:=⟨_,eu (by rw[T5.Z];exact Y8)⟩;have SF:=El.KS fg.Z k0 e2 x2 r' iF;replace r':=U r';replace iF:=U iF;replace SF:=U SF;change aK _ at hj9;refine dr 0 (by kernel_rfl) λrQ hW=>?_;have I:aY OM rQ:=hW▸cT.drew;have K:=Ext.refl rQ;clear hW;refine ja I bx ze hS J ?_;clear I bx ze hS J;intro L3 bx ze hS J;refine aG [0,1,2,6] 9 ?_;go_wp2;refine tJ 7 ?_;have O:=ch bx;obtain⟨d0,d1,d2,d3,d4,d5⟩:=El.xI ze r'.Z;have gl:=ze.lt;refine aG [3,4,5,8,9,10,11,12] 0 ?_;go_wp2;clear d0 d1 d2 d3 d4 d5 gl;refine eJ ?_;by_cases hq:e.node=e2.node
    ·have hm:V.merge xs ys=none:=by unfold V.merge;rw[nZ.Z];exact aS (Ek iF.Z D.Z (by rw[<-hex.Z,<-SF.Z];exact hq.symm))
     change aK _ at hm;have kr:(e.node==e2.node)=true:=by simpa using hq
     go_wp2;go_ret2;exact⟨.inl ⟨hm.Z,rfl⟩,J⟩
    ·have kr:(e.node==e2.node)=false:=by simpa using hq
     replace hq:=U hq;go_wp2;go_roundg (n-(k0+1+1))
     case rel=>
      refine⟨k0+1+1,by rw[<-hj9.Z];simp,by have:=hj9.Z;omega,rfl,ze,J,hS,λk x y h F R=>?_⟩;rcases pQ (k+1) (k0+1) with VQ|aiE
      ·exact uf k x y VQ F R
      ·have Ph:k=k0:=by omega
       subst Ph;rw[iF.Z] at F;have um:=D.Z;rw[R] at um;injection F with F;injection um with um;subst F um
       rw[<-hex.Z,<-SF.Z];exact λh=>hq h.symm
     case measure=>have:=Q.Z;omega
  ·have jx:j=n:=by omega
   subst jx;have hm:V.merge xs ys=some zs:=by unfold V.merge;rw[nZ.Z,aO (by rw[Ie λk x y F R=>uf.Z k x y (by have:=(eD.1 R).1;rw[T5.Z] at this;exact this) F R];decide)]
   change aK _ at hm;have cG:wr.ownsRow w.1.size 112 6 (.slice g j cap) j (El.flat ss):=⟨by rw[El.jY,rK.Z];omega,.inr ⟨g,cap,_,rfl,TX,ze,LO,by unfold maxLen;exact CJ,?_,?_⟩⟩
   ·have L7:=ay.ie (r:=Y.piece) (fr:=false) (S:=bO w.1.size wr.1.size) (xs:=zs) (by rw[T5.Z];exact cG) (Y.ej (λb q=>hS.block b (by have:=bO.hi q;omega)) fg.Z|>Y.jw λb q=>⟨bO.lo q,by have:=bO.hi q;have:=hS.size;omega⟩) (λb I=>by injection I with I;subst I;exact⟨TX,aU Fm hS.size⟩);replace L7:=U L7;go_wp2;go_ret2;exact⟨.inr ⟨_,zs,hm.Z,rfl,L7.Z⟩,J⟩
   ·rw[jN,dh,El.jY,rK.Z,iQ,eK,HTL.Z];omega
   ·rw[xu (by rw[El.jY,rK.Z];omega)];exact jL (by rw[El.jY,rK.Z];omega)
theorem VR(ps:List Pc.bG)(A:Option Addr)(c:Nat)(w:World)(S:Nat->Prop)(hS:∀b,S b->b<w.1.size)(h:ay Y.piece false w S (.slice A ps.length c) ps)(hn:ps.length<=1000000):
 Calls prog 115 #[.slice A ps.length c] w λy w'=>(∃u,y=.returned u/\aM Y.int true w' w.1.size w'.1.size u (ps.map (·.steps)))/\aY w w':=by
 have J:=bI w.1.size w;change aK _ at hS;go_in;go_wp2_with fail;refine(KO ps A c _ S (j2 hS J.size) (h.aE (dx hS J)) hn).mono ?_;rintro e w1 ⟨⟨u,rfl,hu⟩,I⟩;refine Ru I J ?_;clear I J;intro z1 J;obtain⟨B,k,rfl,_⟩:=id hu;simp only[ic] at hu;replace hu:=U hu;go_wp2;go_ret;exact⟨⟨_,rfl,hu.Z⟩,J⟩
theorem BT(w:World):
 Calls prog 160 #[true] w λy w'=>y=.returned (.tuple #[])/\aY w w':=by
 have J:=bI w.1.size w;go_in;go_wp2;exact⟨rfl,.tuple #[],by simp[results,results160,go_sem],rfl,J⟩
theorem sZ(w:World):Calls prog 160 #[false] w λx w'=>x=.panicked [{v:=.iface 276 (.agg #[]),recovered:=false}]/\w=w':=by
 go_in;go_wp2;exact⟨rfl,rfl,rfl⟩
section
variable{P:Program}{md:Region.Mode}{ao:Exit->Act->World->Prop}
theorem ag(M mask:Nat)(fw:List Nat)(dz ig:Nat){wM:World}{l:List Oper}{fuel:Nat}{a:Act}{w:World}(h:wpList P l.toArray (dI λa w=>aV P md l.toArray ao M wM ig (dH l.length dz) a w) (fw.map λi=>l.getD i default) a w)
 (hs:Region.noSelect l.toArray=true:=by kernel_rfl)(iu:et l=true:=by kernel_rfl)(hQ:∀c a d v w,ao (.panic c) (a.put (some d) v) w->ao (.panic c) a w:=by exact λ_ _ _ _ _ h=>h)
 (fg:(fw.all λi=>decide (i<l.length))=true:=by kernel_rfl)(hf:fuel=ig+fw.length:=by rfl)(hm:fw.foldl (λs i=>s|||2^i) mask=dz:=by rfl)
 (iZ:DE l (l.map (bW md)) M mask fw=true:=by kernel_rfl):aV P md l.toArray ao M wM fuel (dH l.length mask) a w:=Be M mask fw dz ig hs iu hQ fg hf hm iZ h
theorem tk(i:Nat){M:Nat}{wM:World}{l:List Oper}{oi:Oper}{v:Value}{fuel mask dz:Nat}{a:Act}{w:World}(hm:mask|||2^i=dz)(h:aV P md l.toArray ao M wM fuel (dH l.length dz) (a.put oi.dst v) w)
 (hi:l[i]?=some oi:=by rfl)(iu:et l=true:=by kernel_rfl)(hs:Region.noSelect l.toArray=true:=by kernel_rfl)(hf:Region.free md l.toArray (dH l.length mask) i=true:=by kernel_rfl)(hr:(ff mask (l.map (bW md)) 0).contains i=true:=by kernel_rfl)(Bb:M.testBit i=false:=by kernel_rfl)
 (hQ:∀c a w,ao (.panic c) (a.put oi.dst v) w->ao (.panic c) a w:=by exact λ_ _ _ h=>h)(hy:Yields P l.toArray oi v a:=by exact .inl ⟨by rfl,λw=>by(go_simp;try with_reducible rfl)⟩):aV P md l.toArray ao M wM (fuel+1) (dH l.length mask) a w:=mL i hi iu hm hs hf hr Bb hQ hy h
theorem rd(M mask:Nat)(fw:List Nat)(dz ig:Nat){l:List Oper}{fuel:Nat}{a:Act}{w:World}(h:wpList P l.toArray (dI λa w'=>w=w'->aV P md l.toArray ao M w ig (dH l.length dz) a w) (fw.map λi=>l.getD i default) a w)
 (hs:Region.noSelect l.toArray=true:=by kernel_rfl)(iu:et l=true:=by kernel_rfl)(hQ:∀c a d v w,ao (.panic c) (a.put (some d) v) w->ao (.panic c) a w:=by exact λ_ _ _ _ _ h=>h)
 (fg:(fw.all λi=>decide (i<l.length))=true:=by kernel_rfl)(hf:fuel=ig+fw.length:=by rfl)(hm:fw.foldl (λs i=>s|||2^i) mask=dz:=by rfl)
 (iZ:DC l (l.map (bW md)) M mask fw=true:=by kernel_rfl):aV P md l.toArray ao M w fuel (dH l.length mask) a w:=sw M mask fw dz ig hs iu hQ fg hf hm iZ h
theorem on(i dz:Nat){M:Nat}{wM:World}{l:List Oper}{fuel mask:Nat}{a:Act}{w:World}
 (F:wpList P l.toArray (dI λa w=>(M.testBit i=true->Ext wM w)/\aV P md l.toArray ao M wM fuel (dH l.length dz) a w) [l.getD i default] a w)
 (iu:et l=true:=by kernel_rfl)(hr:(ff mask (l.map (bW md)) 0==[i])=true:=by kernel_rfl)(pd:i<l.length:=by exact eM (by kernel_rfl))(hm:mask|||2^i=dz:=by rfl):aV P md l.toArray ao M wM (fuel+1) (dH l.length mask) a w:=uR i dz iu hr pd hm F
def L8(ao:Exit->Act->World->Prop)(av:Act->World->Prop):Exit->Act->World->Prop
 | .normal,a,w=>av a w
 | .panic c,a,w=>ao (.panic c) a w
 |_,_,_=>False
theorem BU{av:Act->World->Prop}(h:LetsOut (L8 ao av)):False:=by obtain⟨_,_,h⟩:=h;exact h
theorem KT{av:Act->World->Prop}{o:Oper}{aj:Act->World->Prop}{a:Act}{r:Result Next}(h:o.upon P a aj (L8 ao av) r):o.upon P a aj ao r:=by
 cases r with
 |ok n w=>
  cases n<;>simp only[Oper.upon] at h⊢<;>try exact h
  exact Calls.mono h λe w' he=>by
   cases e with
   |returned v=>exact he
   |panicked c=>exact he
   |outgrown=>exact(BU he).elim
 |halt x w=>
  cases x<;>simp only[Oper.upon] at h⊢<;>try exact h
theorem KU{ops:Array Oper}{av:Act->World->Prop}{i:Nat}{aj:Act->World->Prop}{a:Act}{w:World}(h:wpOp P ops (L8 ao av) i aj a w):wpOp P ops ao i aj a w:=by
 unfold wpOp at *;split
 ·rename_i ho;simpa[ho] using h
 ·rename_i o ho;simp only[ho] at h;split
  ·rename_i hw;rw[aS hw] at h;rcases h with h|⟨_,R⟩
   ·exact .inl (KT h)
   ·exact(BU R).elim
  ·rename_i hw;rw[aO hw] at h;exact h
theorem Ny(k:Nat){dz:Nat}{M:Nat}{wM:World}{l:List Oper}{fuel mask:Nat}{a:Act}{w:World}
 (F:wpList P l.toArray (L8 ao λa w=>(M.testBit k=true->Ext wM w)/\aV P md l.toArray ao M wM fuel (dH l.length dz) a w) [l.getD k default] a w)
 (iu:et l=true:=by kernel_rfl)(hr:(ff mask (l.map (bW md)) 0==[k])=true:=by kernel_rfl)(pd:k<l.length:=by exact eM (by kernel_rfl))(hm:mask|||2^k=dz:=by(simp only[Nat.reducePow,Nat.reduceOr];rfl)):aV P md l.toArray ao M wM (fuel+1) (dH l.length mask) a w:=by
 subst hm;have Pe:=mz.1 hr;rw[<-jg l mask iu] at Pe;refine l7 Pe (by simp) (λi hi=>?_);obtain rfl:i=k:=by simpa using hi
 have h':=pZ l [i] a w (by simp[pd]) F;rw[tM] at h';rw[pY _ _ _ pd];exact mD (λa' w' hh=>hh) (KU h')
theorem en{M:Nat}{wM:World}{l:List Oper}{fuel mask:Nat}{a:Act}{w:World}(h:ao .normal a w)(iu:et l=true:=by kernel_rfl)(hr:(ff mask (l.map (bW md)) 0).isEmpty=true:=by kernel_rfl):aV P md l.toArray ao M wM fuel (dH l.length mask) a w:=uQ iu hr h
theorem rg(M:Nat){id:Nat}{l:List Oper}{a:Act}{w:World}(h:∀W,aY w W->Ext W W->aV P .any l.toArray ao M W l.length (dH l.length 0) a W)(hm:P.follows .mixedOrders=true:=by kernel_rfl):(Code.region id l.toArray true).wp P ao a w:=
 dr M hm λW hW=>h W (hW▸cT.drew) (Ext.refl W)
theorem yF{ops:Array Oper}{M:Nat}{w0:World}:∀(fuel:Nat)(eb:Array Bool)(a:Act)(w:World),aV P md ops (dI (ao .normal)) M w0 fuel eb a w->aV P md ops ao M w0 fuel eb a w
 |0,_,_,_,h=>h
 |fuel+1,_,_,_,h=>⟨h.1,λi hi=>mD (λa' w' h'=>⟨h'.1,yF fuel _ a' w' h'.2⟩) (qP (h.2 i hi))⟩
theorem rgd(M:Nat){id:Nat}{l:List Oper}{a:Act}{w:World}(h:∀W,aY w W->Ext W W->aV P .any l.toArray (dI (ao .normal)) M W l.length (dH l.length 0) a W)(hm:P.follows .mixedOrders=true:=by kernel_rfl):(Code.region id l.toArray true).wp P ao a w:=
 rg M (λW F R=>yF _ _ _ _ (h W F R)) hm
theorem nb{M:Nat}{wM:World}{ops:Array Oper}{fuel:Nat}{li:Array Bool}{a:Act}{w:World}{cs:Array Value}{T:TypeId}(h:∀W,G W w.1.size cs T->aY w W->aV P md ops ao M wM fuel li a W):aV P md ops ao M wM fuel li a (w.alloc (.cells cs T)):=h _ (G.new _ _ _) (cT.alloc bE _)
end
theorem nw{P:Program}{c:Code}{a:Act}{w:World}{ao:Exit->Act->World->Prop}{cs:Array Value}{T:TypeId}(h:∀W,G W w.1.size cs T->aY w W->Code.wp P c ao a W):Code.wp P c ao a (w.alloc (.cells cs T)):=h _ (G.new _ _ _) (cT.alloc bE _)
theorem Ig{lo:Nat}{w w' qp:World}(h:Below lo w w')(I:aY w' qp)(hl:lo<=w'.1.size:=by omega):Below lo w qp:=h.trans (I.mono hl)
theorem dW{w w' qp:World}(h:aY w w')(I:aY w' qp):aY w qp:=h.trans (I.mono h.size)
theorem Ext.Gt{w w' qp:World}(h:Ext w w')(I:aY w' qp):Ext w qp:=h.trans (Ext.below I bE)
structure WA where
 (gA TA xU xV BV zi zj zm zo zt zu AF Dk BY s7 En FM CR CS:Option Addr)
 (gk Tk qh iZ BZ zv zF zG zH zI zJ AG Dl Ca ta Eo FN CT CU:Nat)
abbrev Gu(s:WA)(a:Ap):Value:=.agg #[a.n,.slice s.gA a.az.length s.gk,.slice s.TA a.T.length s.Tk,a.bF]
abbrev hoV(s:WA)(h:Hu.Host):Value:=.agg #[h.node,h.state,h.steps,.slice s.xU h.bD.length s.qh,.slice s.xV h.Z.length s.iZ]
abbrev mkV(s:WA)(m:Mk):Value:=.agg #[m.aC,.slice s.BV m.fj.length s.BZ,m.p.node,m.p.state,m.p.steps,.slice s.zi m.p.aQ.length s.zv,.slice s.zj m.p.bD.length s.zF,.slice s.zm m.p.Z.length s.zG]
abbrev huV(s:WA)(u:PW):Value:=.agg #[u.aC,u.p.node,u.p.state,u.p.steps,.slice s.zo u.p.aQ.length s.zH,.slice s.zt u.p.bD.length s.zI,.slice s.zu u.p.Z.length s.zJ]
abbrev trV(s:WA)(t:Tr):Value:=.agg #[t.aC,t.up,t.wait,.slice s.AF t.kids.length s.AG]
abbrev L9(s:WA)(f:Fr):Value:=.agg #[f.kind,f.aC,f.seq,f.bB,.slice s.CR f.pieces.length s.CT,f.init,f.num,.int .i64 f.count,.slice s.CS f.path.length s.CU]
abbrev ndV(s:WA)(x:Nd):Value:=.agg #[x.h.node,x.h.state,x.h.steps,.slice s.xU x.h.bD.length s.qh,.slice s.xV x.h.Z.length s.iZ,x.m.aC,.slice s.BV x.m.fj.length s.BZ,x.m.p.node,x.m.p.state,x.m.p.steps,.slice s.zi x.m.p.aQ.length s.zv,.slice s.zj x.m.p.bD.length s.zF,.slice s.zm x.m.p.Z.length s.zG,x.u.aC,x.u.p.node,x.u.p.state,x.u.p.steps,.slice s.zo x.u.p.aQ.length s.zH,.slice s.zt x.u.p.bD.length s.zI,.slice s.zu x.u.p.Z.length s.zJ,x.t.aC,x.t.up,x.t.wait,.slice s.AF x.t.kids.length s.AG,.slice s.Dk x.jz.length s.Dl,x.heard,x.told,.slice s.BY x.seen.length s.Ca]
abbrev lA(a:Ap)(x:Wk)(l:Int)(f:Fr)(s:WA):Array Value:=#[.int .i64 a.n,.slice s.gA a.az.length s.gk,.slice s.TA a.T.length s.Tk,.bool a.bF,.int .i64 x.x.h.node,.int .i64 x.x.h.state,.int .i64 x.x.h.steps,.slice s.xU x.x.h.bD.length s.qh,.slice s.xV x.x.h.Z.length s.iZ,.int .i64 x.x.m.aC,.slice s.BV x.x.m.fj.length s.BZ,.int .i64 x.x.m.p.node,.int .i64 x.x.m.p.state,.int .i64 x.x.m.p.steps,.slice s.zi x.x.m.p.aQ.length s.zv,.slice s.zj x.x.m.p.bD.length s.zF,.slice s.zm x.x.m.p.Z.length s.zG,.int .i64 x.x.u.aC,.int .i64 x.x.u.p.node,.int .i64 x.x.u.p.state,.int .i64 x.x.u.p.steps,.slice s.zo x.x.u.p.aQ.length s.zH,.slice s.zt x.x.u.p.bD.length s.zI,.slice s.zu x.x.u.p.Z.length s.zJ,.int .i64 x.x.t.aC,.int .i64 x.x.t.up,.int .i64 x.x.t.wait,.slice s.AF x.x.t.kids.length s.AG,.slice s.Dk x.x.jz.length s.Dl,.int .i64 x.x.heard,.int .i64 x.x.told,.slice s.BY x.x.seen.length s.Ca,.slice s.s7 x.Z.length s.ta,.slice s.En x.nC.length s.Eo,.slice s.FM x.pC.length s.FN,.int .i64 l,.int .i64 f.kind,.int .i64 f.aC,.int .i64 f.seq,.int .i64 f.bB,.slice s.CR f.pieces.length s.CT,.int .i64 f.init,.int .i64 f.num,.int .i64 f.count,.slice s.CS f.path.length s.CU]
def WS(S:Nat->Prop)(lo:Nat)(w:World)(v:Value):Nat->Prop:=λb=>S b\/NS lo w v b
structure SG(w:World)(S:Nat->Prop)(x:Wk)(s:WA):Prop where
 ho:da Y.ho w S (hoV s x.x.h) x.x.h
 mr:da Y.Gl w S (mkV s x.x.m) x.x.m
 hu:da Y.hu w S (huV s x.x.u) x.x.u
 tr:da Y.tr w S (trV s x.x.t) x.x.t
 go:ay Y.piece false w S (.slice s.Dk x.x.jz.length s.Dl) x.x.jz
 se:ay Y.int false w S (.slice s.BY x.x.seen.length s.Ca) x.x.seen
 ep:ay Y.piece false w S (.slice s.En x.nC.length s.Eo) x.nC
 eq:ay Y.int false w S (.slice s.FM x.pC.length s.FN) x.pC
theorem SG.move{w w':World}{S S':Nat->Prop}{x:Wk}{s:WA}(h:SG w S x s)(Q:∀b,S b->w'.1[b]?=w.1[b]?)(hs:∀b,S b->S' b):SG w' S' x s:=
 ⟨(h.ho.aE Q).aF hs,(h.mr.aE Q).aF hs,(h.hu.aE Q).aF hs,(h.tr.aE Q).aF hs,(h.go.aE Q).aF hs,(h.se.aE Q).aF hs,(h.ep.aE Q).aF hs,(h.eq.aE Q).aF hs⟩
abbrev gW(x:Wk)(s:WA):Value:=.slice s.s7 x.Z.length s.ta
structure eW(w:World)(lo bw:Nat)(S:Nat->Prop)(a:Ap)(x:Wk)(f:Fr)(s:WA):Prop where
 sz:lo<=w.1.size
 lt:bw<lo
 s0:∀b,S b->b<lo/\b≠bw
 ap:da Y.ap w S (Gu s a) a
 fr:da Y.frame w S (L9 s f) f
 fx:SG w (WS S lo w (gW x s)) x s
 row:cj Y.Z 151 lo w (WS S lo w (gW x s)) (gW x s) x.Z
section
variable{w w':World}{lo bw:Nat}{S:Nat->Prop}{a:Ap}{x:Wk}{f:Fr}{s:WA}
theorem eW.nv(h:eW w lo bw S a x f s){b:Nat}(q:WS S lo w (gW x s) b):b<w.1.size/\b≠bw:=by
 rcases q with q|q
 ·have:=h.s0 b q;have:=h.sz;omega
 ·have:=h.lt;have:=q.1;have:=q.2.1;omega
theorem WS.grow{v:Value}(hs:w.1.size<=w'.1.size):∀b,WS S lo w v b->WS S lo w' v b:=λ_ q=>q.imp id λq=>⟨q.1,aU q.2.1 hs,q.2.2⟩
theorem eW.KV(h:eW w lo bw S a x f s){b:Nat}(q:(gW x s).ownBlock=some b):lo<=b/\b<w.1.size/\b≠bw:=by
 have:=h.row.lt b q;have:=h.lt;omega
theorem eW.same(h:eW w lo bw S a x f s)(hs:w.1.size<=w'.1.size)(Q:∀b,b<w.1.size->b≠bw->w'.1[b]?=w.1[b]?):eW w' lo bw S a x f s:=
 have hS:∀b,S b->w'.1[b]?=w.1[b]?:=λb q=>Q b (aU (h.s0 b q).1 h.sz) (h.s0 b q).2;have hW:∀b,WS S lo w (gW x s) b->w'.1[b]?=w.1[b]?:=λb q=>Q b (h.nv q).1 (h.nv q).2;have h3:∀b,(gW x s).ownBlock=some b->¬WS S lo w (gW x s) b:=by obtain⟨_,_,_,h3⟩:=h.row;exact h3
 ⟨bT h.sz hs,h.lt,h.s0,h.ap.aE hS,h.fr.aE hS,h.fx.move hW (WS.grow hs),
  (h.row.aE λb q=>q.elim (hW b) λq=>Q b (h.KV q).2.1 (h.KV q).2.2).aF (WS.grow hs) λb q r=>r.elim (λr=>h3 b q (.inl r)) λr=>r.2.2 q⟩
theorem eW.next(h:eW w lo bw S a x f s)(I:aY w w'):eW w' lo bw S a x f s:=h.same I.size λb q _=>I.block b q
instance:Nx w w' (eW w lo bw S a x f s) (eW w' lo bw S a x f s):=⟨λq p=>p.next q⟩
theorem eW.hS(h:eW w lo bw S a x f s):∀b,WS S lo w (gW x s) b->b<w.1.size:=λ_ q=>(h.nv q).1
theorem eW.h0(h:eW w lo bw S a x f s):∀b,S b->b<w.1.size:=λb q=>aU (h.s0 b q).1 h.sz
theorem eW.apW(h:eW w lo bw S a x f s):da Y.ap w (WS S lo w (gW x s)) (Gu s a) a:=h.ap.aF λ_ q=> .inl q
theorem eW.az(h:eW w lo bw S a x f s):aM Y.msg false w 0 w.1.size (.slice s.gA a.az.length s.gk) a.az:=by
 obtain⟨cs,e,v0,v1,rfl,h0,F⟩:=h.ap;injection e with e;injection e with e;injection e with _ e;injection e with e1 e;subst e1
 exact h0.aF λb q=>⟨fH _,h.h0 b q⟩
end
structure Kept(lo bw:Nat)(w w':World):Prop where
 os:w'.os=w.os
 tape:w'.tape=w.tape
 output:w'.output=w.output
 size:w.1.size<=w'.1.size
 block:∀b,b<lo->b≠bw->w'.1[b]?=w.1[b]?
theorem Kept.refl(lo bw:Nat)(w:World):Kept lo bw w w:=⟨rfl,rfl,rfl,bE,λ_ _ _=>rfl⟩
theorem Kept.trans{lo bw:Nat}{w w' qp:World}(h:Kept lo bw w w')(h':Kept lo bw w' qp):Kept lo bw w qp:=⟨h'.os.trans h.os,h'.tape.trans h.tape,h'.output.trans h.output,bT h.size h'.size,λb q r=>(h'.block b q r).trans (h.block b q r)⟩
theorem Kept.of{lo bw:Nat}{w w':World}(h:aY w w')(hl:lo<=w.1.size):Kept lo bw w w':=⟨h.os,h.tape,h.output,h.size,λb q _=>h.block b (aU q hl)⟩
theorem Kept.next{lo bw:Nat}{w w' qp:World}(h:Kept lo bw w w')(I:aY w' qp)(hl:lo<=w'.1.size):Kept lo bw w qp:=h.trans (Kept.of I hl)
theorem Kept.bd{lo bw:Nat}{w w':World}(h:Kept lo bw w w')(i:Nat)(v:Value):Kept lo bw w (w'.setCell ⟨bw,i,none⟩ v):=
 h.trans ⟨rfl,rfl,rfl,by simp[World.setCell],λb _ r=>dF _ _ _ _ (by simpa using r)⟩
theorem Kept.grown{lo bw:Nat}{w w' qp:World}{o:Option Nat}(h:Kept lo bw w w')(hg:w'.grownBy qp o)(hl:lo<=w'.1.size)(ho:∀b,o=some b->lo<=b):Kept lo bw w qp:=
 h.trans ⟨hg.os,hg.tape,hg.output,hg.size,λb q _=>hg.block b (aU q hl) λe=>by have:=ho b e.symm;omega⟩
end Go.Proofs.YtmgahjkopiaglaaGreat
