/- Lemmas, walks and contracts by which the statement is proved. -/
import Derived.Test.YtmgahjkopiaglaaGreatK5
import Derived.Maps.OwnSet
import Derived.Maps.OwnOps
import Derived.Laws.MakeOwn
import Derived.Laws.CopyOwn
set_option maxRecDepth 100000
set_option maxHeartbeats 16000000
set_option linter.all false
namespace Go.Proofs.YtmgahjkopiaglaaGreat
open Go.RowKit Go.Proofs.Tryz
section
variable{lo hi:Nat}{w w':World}
end
section
variable{P:Program}{ao:Exit->Act->World->Prop}{md:Region.Mode}
theorem wK(i j k m1 m2 m3:Nat){M:Nat}{wM:World}{l:List Oper}{fuel mask:Nat}{a:Act}{w:World}(iu:et l=true)(hr:(ff mask (l.map (bW md)) 0==[i,j,k])=true)(pd:i<l.length)(wC:j<l.length)(T0:k<l.length)(lu:mask|||2^i=m1)(xH:mask|||2^j=m2)(Fa:mask|||2^k=m3)
 (F:wpList P l.toArray (dI λa w=>(M.testBit i=true->Ext wM w)/\aV P md l.toArray ao M wM fuel (dH l.length m1) a w) [l.getD i default] a w)
 (R:wpList P l.toArray (dI λa w=>(M.testBit j=true->Ext wM w)/\aV P md l.toArray ao M wM fuel (dH l.length m2) a w) [l.getD j default] a w)
 (h3:wpList P l.toArray (dI λa w=>(M.testBit k=true->Ext wM w)/\aV P md l.toArray ao M wM fuel (dH l.length m3) a w) [l.getD k default] a w):aV P md l.toArray ao M wM (fuel+1) (dH l.length mask) a w:=by
 subst lu xH Fa;have Pe:=mz.1 hr;rw[<-jg l mask iu] at Pe;refine l7 Pe (by simp) (λx D=>?_);simp only[jQ,List.not_mem_nil,or_false] at D;rcases D with rfl |rfl |rfl
 ·exact ME pd F
 ·exact ME wC R
 ·exact ME T0 h3
theorem cd{M:Nat}{wM:World}{ops:Array Oper}{fuel:Nat}{li:Array Bool}{a:Act}{w:World}(h:∀W,w=W->aV P md ops ao M wM fuel li a W):aV P md ops ao M wM fuel li a w:=h w rfl
end
end Go.Proofs.YtmgahjkopiaglaaGreat
namespace Go.Proofs.YtmgahjkopiaglaaGreat
open Go.RowKit Go.Proofs.Tryz
section
variable{α:Type}{r:Y α}{e:TypeId}{lo hi B:Nat}{w w':World}{v:Value}{xs:List α}
end
section
variable{P:Program}{w:World}{ops:Array Oper}{rest:List Oper}{o:Oper}{a:Act}{ao:Exit->Act->World->Prop}
end
def nt(fr:Bool)(w:World)(S:Nat->Prop)(v:Value)(f:Fr):Prop:=
 ∃A B k l,v=.agg #[f.kind,f.aC,f.seq,f.bB,.slice A f.pieces.length k,f.init,f.num,.int .i64 f.count,.slice B f.path.length l]/\
  ay Y.piece fr w S (.slice A f.pieces.length k) f.pieces/\ay Y.int fr w S (.slice B f.path.length l) f.path
end Go.Proofs.YtmgahjkopiaglaaGreat
namespace Go.Proofs.YtmgahjkopiaglaaGreat
open Go.RowKit Go.Proofs.Tryz
theorem Tryz.tT:(prog.info? 149).map (λi=>(i.zero,i.size,i.bytes))=some (some (.agg #[aP,aP,aP,aP,(),aP,aP,aP,()]),9,104):=by kernel_rfl
def uT(f:Fr)(a b:Value):List Value:=[.int .i64 f.kind,.int .i64 f.aC,.int .i64 f.seq,.int .i64 f.bB,a,.int .i64 f.init,.int .i64 f.num,.int .i64 f.count,b]
def Y.frame:Y Fr where
 size:=9
 pos:=by omega
 is fr w S cs f:=∃a b,cs=uT f a b/\ay Y.piece fr w S a f.pieces/\ay Y.int fr w S b f.path
 len h:=by obtain⟨a,b,rfl,_⟩:=h;rfl
 aE h Q:=by obtain⟨a,b,rfl,F,R⟩:=h;exact⟨a,b,rfl,F.aE Q,R.aE Q⟩
 aF h k1:=by obtain⟨a,b,rfl,F,R⟩:=h;exact⟨a,b,rfl,F.aF k1,R.aF k1⟩
 soft h:=by obtain⟨a,b,rfl,F,R⟩:=h;exact⟨a,b,rfl,F.soft,R.soft⟩
 one h:=by
  obtain⟨a,b,rfl,⟨_,_,rfl,_⟩,⟨_,_,rfl,_⟩⟩:=h;intro u hu;simp[uT] at hu;rcases hu with rfl |rfl |rfl |rfl |rfl |rfl |rfl |rfl |rfl<;>rfl
section
variable{α:Type}{r:Y α}{e:TypeId}{B:Nat}{w w1:World}{v:Value}{xs:List α}{x:α}{cs:List Value}
end
section
variable{P:Program}{w:World}{ops:Array Oper}{rest:List Oper}{o:Oper}{a:Act}{ao:Exit->Act->World->Prop}
end
section
variable{w w':World}{g n:Nat}{aa:Nat->Fr}
end
end Go.Proofs.YtmgahjkopiaglaaGreat
namespace Go.Proofs.YtmgahjkopiaglaaGreat
structure La where
 bF:Bool
 cap:Int
 l:List Fr
deriving DecidableEq
namespace La
def zero:La:=⟨false,0,[]⟩
def kV(k:Int)(l:List Fr):Nat:=(l.filter λf=>f.kind==k).length
def roomy(cap:Int)(n len:Nat):Bool:=decide (1<=cap)&&(decide (cap<=20)&&(decide ((n:Int)<=cap)&&decide ((len:Int)-(n:Int)<=5)))
def right(a:La):Bool:=a.l.all Fr.right&&roomy a.cap (kV 0 a.l) a.l.length
def more(a:La)(f:Fr):La:=⟨a.bF,a.cap,a.l++[f]⟩
def push(a:La)(f:Fr):La:=if Fr.right f&&right (more a f) then more a f else zero
def kx(a:La)(f:Fr):Int:=if Fr.right f then(if right (more a f) then 0 else 6) else 4
def can(a:La)(i:Int):Bool:=decide (0<=i)&&(decide (i<a.l.length)&&(!a.bF||decide (i<=0)))
def less(a:La)(i:Nat):La:=⟨a.bF,a.cap,a.l.take i++a.l.drop (i+1)⟩
def take(a:La)(i:Int):La:=if can a i then less a i.toNat else zero
def nz(a:La)(i:Int):Fr:=if can a i then a.l.getD i.toNat Fr.zero else Fr.zero
def mN(a:La)(i:Int):Int:=if can a i then 0 else 3
def fits(a:La)(n:Int):Bool:=decide (n<1)||decide (n<=a.cap-(kV 0 a.l:Int))
def msgs(a:La):List (Int×Int):=(a.l.filter λf=>f.kind==0).map λf=>(f.seq,f.bB)
theorem od(k:Int)(l:List Fr)(f:Fr):kV k (l++[f])=kV k l+(if f.kind=k then 1 else 0):=by
 unfold kV;rw[qG,dh];by_cases h:f.kind=k<;>simp[h]
theorem Bk(k:Int)(l:List Fr):kV k l<=l.length:=zR _ _
end La
end Go.Proofs.YtmgahjkopiaglaaGreat
namespace Go.Proofs.YtmgahjkopiaglaaGreat
open Go.RowKit Go.Proofs.Tryz
theorem dM.frame{fr:Bool}{w:World}{lo hi k:Nat}{A:Option Addr}{xs:List Fr}{x:Fr}(h:dM Y.frame fr w lo hi A xs)(D:xs[k]?=some x):
 ∃g o aA aB ak al,A=some ⟨g,o,none⟩/\lo<=g/\g<hi/\(∀q u,(uT x (.slice aA x.pieces.length ak) (.slice aB x.path.length al))[q]?=some u->w.cell? ⟨g,o+k * 9+q,none⟩=some u)/\iO fr w lo hi (.agg #[x.kind,x.aC,x.seq,x.bB,.slice aA x.pieces.length ak,x.init,x.num,.int .i64 x.count,.slice aB x.path.length al]) x:=by
 obtain⟨g,o,cs,rfl,F,⟨a,b,rfl,h3,h4⟩,h5⟩:=dm.at_ h D;obtain⟨aA,ak,rfl,_⟩:=id h3;obtain⟨aB,al,rfl,_⟩:=id h4;refine⟨g,o,aA,aB,ak,al,rfl,F.1,F.2,λq u hu=>?_,aA,aB,ak,al,rfl,h3,h4⟩;have:=(h5 q u hu).1;simpa[Y.frame,fK] using this
def ky(fr:Bool)(w:World)(lo hi:Nat)(v:Value)(a:La):Prop:=∃A c,v=.agg #[a.bF,a.cap,.slice A a.l.length c]/\aM Y.frame fr w lo hi (.slice A a.l.length c) a.l
section
variable{fr:Bool}{w w':World}{lo hi Gh AU:Nat}{v:Value}{a:La}
theorem ky.aE(h:ky fr w lo hi v a)(Q:∀b,lo<=b->b<hi->w'.1[b]?=w.1[b]?):ky fr w' lo hi v a:=by
 obtain⟨A,c,rfl,F⟩:=h;exact⟨A,c,rfl,F.aE Q⟩
theorem ky.aF(h:ky fr w lo hi v a)(k1:Gh<=lo)(k2:hi<=AU):ky fr w Gh AU v a:=by
 obtain⟨A,c,rfl,F⟩:=h;exact⟨A,c,rfl,F.aF k1 k2⟩
theorem ky.next(h:ky fr w lo w.1.size v a)(I:aY w w'):ky fr w' lo w'.1.size v a:=(h.aE λb _ R=>I.block b R).aF bE I.size
instance:Nx w w' (ky fr w lo w.1.size v a) (ky fr w' lo w'.1.size v a):=⟨λq p=>p.next q⟩
end
theorem aM.kh{α:Type}{r:Y α}{fr:Bool}{w:World}{lo hi n c:Nat}{A:Option Addr}{xs:List α}(h:aM r fr w lo hi (.slice A n c) xs):xs.length<=9223372036854775807:=by
 obtain⟨_,_,_,F,R,_⟩:=h;unfold maxLen at R;omega
theorem aM.kZ{α:Type}{r:Y α}{fr:Bool}{w:World}{lo hi n c:Nat}{A:Option Addr}{xs:List α}(h:aM r fr w lo hi (.slice A n c) xs):dM r fr w lo hi A xs:=by
 obtain⟨_,_,he,_,_,h⟩:=h;cases he;exact h
theorem bP{w:World}{b:Nat}{x y z:Value}{T:TypeId}(h:G w b #[x,y,z] T):w.cell? ⟨b,0,none⟩=some x/\w.cell? ⟨b,1,none⟩=some y/\w.cell? ⟨b,2,none⟩=some z:=
 ⟨aD h 0,aD h 1,aD h 2⟩
theorem ey{w:World}{b:Nat}{x y z:Value}{T:TypeId}(h:G w b #[x,y,z] T)(i:Nat):w.frozen? ⟨b,i,none⟩=false:=by
 have h':w.1[b]?=_:=h;simp[World.frozen?,h']
end Go.Proofs.YtmgahjkopiaglaaGreat
namespace Go.Proofs.YtmgahjkopiaglaaGreat
open Go.RowKit Go.Proofs.Tryz
section
variable{α:Type}{r:Y α}{fr:Bool}{w w':World}{S S':Nat->Prop}{n c g o k:Nat}{A:Option Addr}{xs:List α}
theorem ay.T1(h:ay r fr w S (.slice A n c) xs)(Q:k<=xs.length):ay r fr w S (.slice A k c) (xs.take k):=by
 obtain⟨_,_,he,F,R,h3⟩:=h;cases he;exact⟨_,_,by rw[dL,qJ Q],by rw[dL];omega,R,h3.take k⟩
theorem ay.Yj(h:ay r fr w S (.slice (some ⟨g,o,none⟩) n c) xs)(Q:k<=xs.length):
 ay r fr w S (.slice (if c=k then some ⟨g,o,none⟩ else some ⟨g,o+k * r.size,none⟩) (n-k) (c-k)) (xs.drop k):=by
 obtain⟨A,c',he,F,R,cells,h3,h4⟩:=h;cases he;refine⟨_,_,by rw[iQ],by rw[iQ];omega,by omega,cells.drop (k * r.size),Y.O5 k h3,λGX=>?_⟩;rw[iQ] at GX;obtain⟨g',o',he,hS,hc⟩:=h4 (by omega);cases he;refine⟨g,o+k * r.size,by rw[aO (by omega)],hS,λj u hj=>?_⟩;rw[vZ] at hj;have:=hc _ _ hj;rw[<-fK] at this;exact this
theorem ay.arr(h:ay r fr w S (.slice A n c) xs):dm r fr w S A xs:=by
 obtain⟨_,_,he,_,_,h⟩:=h;cases he;exact h
theorem ay.og(h:ay r fr w S (.slice A n c) xs)(hS:∀b,S b->b<w.1.size):aM r fr w 0 w.1.size (.slice A n c) xs:=ay.Mx (h.aF λb I=>⟨fH _,hS b I⟩)
end
def kz(w:World)(S:Nat->Prop)(v:Value)(a:La):Prop:=∃A c,v=.agg #[a.bF,a.cap,.slice A a.l.length c]/\ay Y.frame false w S (.slice A a.l.length c) a.l
section
variable{w w':World}{S S':Nat->Prop}{v:Value}{a:La}
theorem kz.aE(h:kz w S v a)(Q:∀b,S b->w'.1[b]?=w.1[b]?):kz w' S v a:=by obtain⟨A,c,rfl,F⟩:=h;exact⟨A,c,rfl,F.aE Q⟩
theorem kz.aF(h:kz w S v a)(Q:∀b,S b->S' b):kz w S' v a:=by obtain⟨A,c,rfl,F⟩:=h;exact⟨A,c,rfl,F.aF Q⟩
theorem kz.Mx(h:kz w S v a)(hS:∀b,S b->b<w.1.size):ky false w 0 w.1.size v a:=by obtain⟨A,c,rfl,F⟩:=h;exact⟨A,c,rfl,F.og hS⟩
theorem nt.aE{S:Nat->Prop}{f:Fr}(h:nt false w S v f)(Q:∀b,S b->w'.1[b]?=w.1[b]?):nt false w' S v f:=by obtain⟨A,B,k,l,rfl,F,R⟩:=h;exact⟨A,B,k,l,rfl,F.aE Q,R.aE Q⟩
theorem nt.aF{S S':Nat->Prop}{f:Fr}(h:nt false w S v f)(Q:∀b,S b->S' b):nt false w S' v f:=by obtain⟨A,B,k,l,rfl,F,R⟩:=h;exact⟨A,B,k,l,rfl,F.aF Q,R.aF Q⟩
theorem nt.Mx{S:Nat->Prop}{f:Fr}(h:nt false w S v f)(hS:∀b,S b->b<w.1.size):iO false w 0 w.1.size v f:=by obtain⟨A,B,k,l,rfl,F,R⟩:=h;exact iO.of (F.og hS) (R.og hS)
theorem dm.frame{fr:Bool}{S:Nat->Prop}{k:Nat}{A:Option Addr}{xs:List Fr}{x:Fr}(h:dm Y.frame fr w S A xs)(D:xs[k]?=some x):
 ∃g o aA aB ak al,A=some ⟨g,o,none⟩/\S g/\(∀q u,(uT x (.slice aA x.pieces.length ak) (.slice aB x.path.length al))[q]?=some u->w.cell? ⟨g,o+k * 9+q,none⟩=some u)/\nt fr w S (.agg #[x.kind,x.aC,x.seq,x.bB,.slice aA x.pieces.length ak,x.init,x.num,.int .i64 x.count,.slice aB x.path.length al]) x:=by
 obtain⟨g,o,cs,rfl,F,⟨a,b,rfl,h3,h4⟩,h5⟩:=dm.at_ h D;obtain⟨aA,ak,rfl,_⟩:=id h3;obtain⟨aB,al,rfl,_⟩:=id h4;refine⟨g,o,aA,aB,ak,al,rfl,F,λq u hu=>?_,aA,aB,ak,al,rfl,h3,h4⟩;have:=(h5 q u hu).1;simpa[Y.frame,fK] using this
def GY(S:Nat->Prop)(B E:Nat):Nat->Prop:=λb=>S b\/(B<=b/\b<E)
end
section
variable{α:Type}{r:Y α}{e:TypeId}{S:Nat->Prop}{B:Nat}{w w':World}{v:Value}{xs:List α}{b:Option Nat}
end
section
variable{P:Program}{w:World}{ops:Array Oper}{rest:List Oper}{o:Oper}{a:Act}{ao:Exit->Act->World->Prop}
end
end Go.Proofs.YtmgahjkopiaglaaGreat
namespace Go.Proofs.YtmgahjkopiaglaaGreat
open Go.RowKit Go.Proofs.Tryz Go.Maps
def Fb(c:Int):DataW Unit:=.lit (.int .i64 c)
def yl(ab:DataW Unit)(l:List Fr):Prop:=∀k:Int,ab.atKey (.int .i64 k) (Fb 0)=Fb (La.kV k l)
def lK(l:List Fr):Prop:=∀f∈l,0<=f.kind/\f.kind<=6
theorem yl.nil:yl (.map []) []:=λ_=>rfl
theorem yl.step{ab:DataW Unit}{l:List Fr}{f:Fr}{c:Int}(h:yl ab l)(hm:IsMap ab)(Q:WideAt.IsKeyLit (.int .i64 f.kind))(hc:ab.atKey (.int .i64 f.kind) (Fb 0)=Fb c)(hl:l.length<=1000000):yl (ab.put (.int .i64 f.kind) (Fb (wrap64 (c+1)))) (l++[f]):=by
 have Ve:c=La.kV f.kind l:=by
  have:=(h f.kind).symm.trans hc;simp only[Fb,DataW.lit.injEq,Lit.int.injEq,true_and] at this;exact this.symm
 have hle:=La.Bk f.kind l;intro k;by_cases Ph:k=f.kind
 ·subst Ph;rw[atKey_put_same hm Q,La.od,aS rfl];have:wrap64 (c+1)=((La.kV f.kind l+1:Nat):Int):=by rw[Ve];unfold wrap64;omega
  rw[this]
 ·rw[atKey_put_other (by intro e;injection e with _ e;exact Ph e),h k,La.od,aO (fT Ph)];rfl
theorem R5{k:Int}(h:0<=k/\k<=6):(Lit.int .i64 k).wf=true:=WalkArith.wf_i64 (by omega)
theorem Tryz.py(w:World):(zeroValue 3).run prog w=.ok (.int .i64 0) w:=by kernel_rfl
theorem wL(v:Value)(a:La)(w:World)(h:ky false w 0 w.1.size v a)(Q:lK a.l)(hn:a.l.length<=1000000):Calls prog 86 #[v] w
 λy w'=>(∃b n ab,y=.returned (.map (some b))/\w'.ownsMap prog 3 (plainElem prog 3) b n ab/\yl ab a.l)/\aY w w':=by
 obtain⟨A,c,rfl,F⟩:=h;have hl:=F.kh;have Bl:=@run_makeMap prog;go_in;go_upto_region 1 with fail
 refine jt λW0 bx J=>?_;have hs:=F.kZ;clear F;obtain⟨d0,d1,d2⟩:=bP bx;have qy:=bx.lt;have HW0:=U J.size;go_wp2;go_loopg [10] a.l.length (λm i wr=>∃j:Nat,∃ab:DataW Unit,i=.int .i64 (j:Int)/\j<=a.l.length/\m=a.l.length-j/\wr.ownsMap prog 3 (plainElem prog 3) W0.1.size j ab/\yl ab (a.l.take j)/\aY w wr)
 case atStart=>exact⟨0,.map [],rfl,by omega,by omega,zY _ _ _ _,yl.nil,J.trans (cT.alloc J.size _)⟩
 case round=>
  obtain⟨j,ab,rfl,hj,hm,cG,ht,I⟩:=hrel;change aK _ at hm;replace ht:=U ht;clear d0 d1 d2 qy bx;by_cases bY:j<a.l.length
  ·
   obtain⟨x,D⟩:=Pc.get_at bY;have hxw:=R5 (Q x (dV D));obtain⟨g,o,cA,cB,ck,cl,rfl,_,hg,hc,_⟩:=(hs.below I bE).frame D;have c0:=hc 0 _ rfl;have c1:=hc 1 _ rfl;have c2:=hc 2 _ rfl;have c3:=hc 3 _ rfl;have c4:=hc 4 _ rfl;have c5:=hc 5 _ rfl;have c6:=hc 6 _ rfl;have c7:=hc 7 _ rfl;have c8:=hc 8 _ rfl;simp only[iS] at c0;replace D:=U D;clear hc hs;have gg:g<wr.1.size:=aU hg I.size;have jA:=keyOf_int_mk (P:=prog) underlying3 hxw;replace jA:=U jA;replace cG:=U cG;clear hxw;go_wp2_with (first
    |(at_lookup;refine sh _ rfl _ _ 147 rfl 3 3 .i64 (int_keyed underlying3) underlying147 underlying3 (Tryz.py _) W0.1.size j _ rfl (cG.alloc _) _ _ rfl jA.Z ?_;intro cc jK Rw)
    |(at_mapUpdate;refine wpList_mapUpdate_own _ rfl _ _ _ 147 rfl 3 3 (int_keyed underlying3) underlying147 _ W0.1.size j _ rfl (cG.alloc _) (by unfold maxLen;omega) _ _ _ rfl rfl jA.Z _ [] (wj underlying3 (wrap64_wf _)) ?_;intro w1 ik xJ)
    |fail)
   go_roundg (a.l.length-(j+1))
   case rel=>
    have gw:=ht.step (f:=x) cG.isMap ((int_keyed underlying3).key jA.Z) jK (by rw[dL];omega);rw[<-Pc.de D.Z] at gw;exact⟨j+1,_,by simp,by omega,rfl,ik,gw,(I.alloc I.size _).grown xJ (by have:=I.size;have:=HW0.Z;simp;omega) (λq hq=>by cases hq;exact HW0.Z)⟩
   case measure=>have:=hm.Z;omega
  ·
   rw[jL (by omega)] at ht;go_wp2;go_ret;exact⟨⟨_,_,ab,rfl,cG,ht.Z⟩,I⟩
end Go.Proofs.YtmgahjkopiaglaaGreat
namespace Go.Proofs.YtmgahjkopiaglaaGreat
open Go.RowKit Go.Proofs.Tryz Go.Maps
theorem JT{l:List Fr}(h:(l.any λp=> !Fr.right p)=false){f:Fr}(hf:f∈l):Fr.right f=true:=by
 have:=uL.1 h f hf;simpa using this
theorem LN{ab:DataW Unit}{k c:Int}{n:Nat}(h:ab.atKey (.int .i64 k) (.lit (.int .i64 0))=.lit (.int .i64 c))(R:ab.atKey (.int .i64 k) (Fb 0)=Fb n):c=(n:Int):=by
 have:=h.symm.trans R;simp only[Fb,DataW.lit.injEq,Lit.int.injEq,true_and] at this;exact this
theorem Fc(v:Value)(p:Fr)(w:World)(h:iO false w 0 w.1.size v p):Calls prog 147 #[v] w
 λx w'=>x=.returned (.bool (!Fr.right p))/\aY w w':=by
 obtain⟨b,I⟩:=cJ (Fr.right p);obtain⟨aA,aB,ak,al,he,_,_⟩:=id h;subst he;have hr:=λW (hw:iO false W 0 W.1.size (.agg #[p.kind,p.aC,p.seq,p.bB,.slice aA p.pieces.length ak,p.init,p.num,.int .i64 p.count,.slice aB p.path.length al]) p)=>sI _ p W hw;rw[I] at hr⊢;replace hr:=U hr;clear I;have J:aY w (w.alloc (.cells #[p.kind,p.aC,p.seq,p.bB,.slice aA p.pieces.length ak,p.init,p.num,.int .i64 p.count,.slice aB p.path.length al] 149)):=cT.alloc bE _;have h':=h.next J;clear h;replace h':=U h';go_in;go_wp2_with fail;refine(hr _ h'.Z).mono ?_;rintro z w1 ⟨rfl,I⟩;go_wp2;go_ret;exact⟨rfl,J.trans (I.mono J.size)⟩
theorem yU(v:Value)(xs:List Fr)(w:World)(h:aM Y.frame false w 0 w.1.size v xs):
 Calls prog 192 #[v,.func (.func 147) #[] #[]] w λx w'=>x=.returned (.int .i64 (Pc.idx (λp=> !Fr.right p) xs))/\aY w w':=by
 obtain⟨A,c,rfl,hl,hm,hA⟩:=h;unfold maxLen at hm;go_in;go_wp2;go_loopg [5,8] xs.length (λk _ i wr=>∃j:Nat,i=.int .i64 (j:Int)/\j<=xs.length/\k=xs.length-j/\Pc.clear (λp=> !Fr.right p) xs j/\aY w wr)
 case atStart=>exact⟨0,rfl,by omega,by omega,Pc.fI _ _,cT⟩
 case round=>
  obtain⟨j,rfl,hj,Q,hr,I⟩:=hrel;replace hr:=U hr;change aK _ at Q;by_cases bY:j<xs.length
  ·obtain⟨x,D⟩:=Pc.get_at bY;obtain⟨g,o,aA,aB,ak,al,rfl,_,hg,hc,hp⟩:=(dM.below hA I bE).frame D;have c0:=hc 0 _ rfl;have c1:=hc 1 _ rfl;have c2:=hc 2 _ rfl;have c3:=hc 3 _ rfl;have c4:=hc 4 _ rfl;have c5:=hc 5 _ rfl;have c6:=hc 6 _ rfl;have c7:=hc 7 _ rfl;have c8:=hc 8 _ rfl;simp only[iS] at c0;replace D:=U D;clear hc;clear hA;have fM:=I.size;have E':=Fc _ x wr (hp.aF (ev 0) fM);obtain⟨b,ga⟩:=cJ (Fr.right x);rw[ga] at E';replace E':=U E';clear hp;go_wp2_with fail;refine E'.mono ?_;rintro e w1 ⟨rfl,ee⟩;replace I:=I.trans (ee.mono fM);clear ee fM c0 c1 c2 c3 c4 c5 c6 c7 c8;cases b;all_goals
    change aK _ at ga;go_wp2_with fail
   ·go_ret;exact⟨by rw[Pc.iT hr.Z D.Z (by rw[ga.Z];rfl)];rfl,I⟩
   ·go_roundg (xs.length-(j+1))
    case rel=>exact⟨j+1,by simp,by omega,rfl,Pc.ew hr.Z D.Z (by rw[ga.Z];rfl),I⟩
    case measure=>have:=Q.Z;omega
  ·go_wp2;go_ret;have jx:j=xs.length:=by omega
   subst jx;exact⟨by rw[Pc.gd hr.Z];rfl,I⟩
theorem oh(v:Value)(xs:List Fr)(w:World)(h:aM Y.frame false w 0 w.1.size v xs):
 Calls prog 148 #[v,.func (.func 147) #[] #[]] w λx w'=>x=.returned (.bool (xs.any λp=> !Fr.right p))/\aY w w':=by
 have hi:=yU v xs w h;have hg:=Pc.nX (λp=> !Fr.right p) xs;generalize Pc.idx (λp=> !Fr.right p) xs=i at hi hg;replace hi:=U hi;clear h;rw[<-hg.2];clear hg;go_in;go_wp2_with fail;refine hi.mono ?_;rintro e w1 ⟨rfl,I⟩;go_wp2;go_ret;exact⟨rfl,I⟩
theorem GZ(v:Value)(a:La)(w:World)(h:ky false w 0 w.1.size v a)(hc:a.cap<1):Calls prog 104 #[v] w
 λy w'=>y=.returned (.bool false)/\aY w w':=by
 obtain⟨A,c,rfl,F⟩:=h;have hl:=F.kh;go_in;go_upto_region 1 with fail
 refine jt λW0 bx J=>?_;have hs:=(F.below J bE).aF (ev 0) J.size;clear F;obtain⟨d0,d1,d2⟩:=bP bx;go_wp2;go_ret;exact⟨rfl,J⟩
theorem Fe(v:Value)(a:La)(w:World)(h:ky false w 0 w.1.size v a)(hc:¬a.cap<1)(oW:a.cap>20):Calls prog 104 #[v] w
 λy w'=>y=.returned (.bool false)/\aY w w':=by
 obtain⟨A,c,rfl,F⟩:=h;have hl:=F.kh;go_in;go_upto_region 1 with fail
 refine jt λW0 bx J=>?_;have hs:=(F.below J bE).aF (ev 0) J.size;clear F;obtain⟨d0,d1,d2⟩:=bP bx;go_wp2;go_ret;exact⟨rfl,J⟩
theorem G0(v:Value)(a:La)(w:World)(h:ky false w 0 w.1.size v a)(hc:¬a.cap<1)(oW:¬a.cap>20)(hq:(a.l.any λp=> !Fr.right p)=true):Calls prog 104 #[v] w
 λy w'=>y=.returned (.bool false)/\aY w w':=by
 obtain⟨A,c,rfl,F⟩:=h;have hl:=F.kh;change aK _ at hq;go_in;go_upto_region 1 with fail
 refine jt λW0 bx J=>?_;have hs:=(F.below J bE).aF (ev 0) J.size;clear F;obtain⟨d0,d1,d2⟩:=bP bx;go_wp2_with fail;refine(oh _ a.l _ hs).mono ?_;rw[hq.Z];rintro z w1 ⟨rfl,I⟩;replace J:=J.trans (I.mono J.size);go_wp2;go_ret;exact⟨rfl,J⟩
theorem Ff(v:Value)(a:La)(w:World)(h:ky false w 0 w.1.size v a)(hn:a.l.length<=1000000)(hc:¬a.cap<1)(oW:¬a.cap>20)(hq:(a.l.any λp=> !Fr.right p)=false):Calls prog 104 #[v] w
 λy w'=>y=.returned (.bool (decide ((La.kV 0 a.l:Int)<=a.cap)&&decide ((a.l.length:Int)-(La.kV 0 a.l:Int)<=5)))/\aY w w':=by
 obtain⟨A,c,rfl,F⟩:=h;have hl:=F.kh;change aK _ at hq;obtain⟨n,j6⟩:∃n:Nat,La.kV 0 a.l=n:=⟨_,rfl⟩;have nN:=La.Bk 0 a.l;rw[j6] at nN⊢;change aK _ at j6;go_in;go_upto_region 1 with fail
 refine jt λW0 bx J=>?_;have hs:=(F.below J bE).aF (ev 0) J.size;clear F;obtain⟨d0,d1,d2⟩:=bP bx;have rW:ky false W0 0 W0.1.size (.agg #[a.bF,a.cap,.slice A a.l.length c]) a:=⟨A,c,rfl,hs⟩;have ki:lK a.l:=λf hf=>Fr.JA (JT hq.Z hf);replace ki:=U ki;go_wp2_with fail;refine(oh _ a.l _ hs).mono ?_;rw[hq.Z];rintro z w1 ⟨rfl,I⟩;replace J:=J.trans (I.mono J.size);replace bx:=bx.next I;replace rW:=rW.next I;clear I d0 d1 d2;obtain⟨d0,d1,d2⟩:=bP bx;go_wp2_with fail;refine(wL _ a _ rW ki.Z hn).mono ?_;rintro z w2 ⟨⟨b,n2,ab,rfl,cG,G1⟩,I⟩;replace J:=J.trans (I.mono J.size);replace bx:=bx.next I;clear I d0 d1 d2;obtain⟨d0,d1,d2⟩:=bP bx;have JU:=G1 0;rw[j6.Z] at JU;replace JU:=U JU;replace cG:=U cG;clear G1 hs rW;go_wp2_with (at_lookup;refine sh _ rfl _ _ 147 rfl 3 3 .i64 (int_keyed underlying3) underlying147 underlying3 (Tryz.py _) b n2 _ rfl cG.Z _ _ rfl (keyOf_int_mk (P:=prog) underlying3 (by decide)) ?_;intro cc jK Rw;obtain rfl:cc=(n:Int):=LN jK JU.Z;clear jK Rw);all_goals go_ret
 all_goals first |exact⟨by rw[bZ (show ¬((n:Int)<=a.cap) by omega)];rfl,J⟩|exact⟨by rw[cV (show(n:Int)<=a.cap by omega)];rfl,J⟩
theorem La.wN(l:List Fr):(l.any λp=> !Fr.right p)= !(l.all Fr.right):=by
 induction l with
 |nil=>rfl
 |cons x l ih=>rw[tG,tH,ih];cases Fr.right x<;>cases l.all Fr.right<;>rfl
theorem G2(v:Value)(a:La)(w:World)(h:ky false w 0 w.1.size v a)(hn:a.l.length<=1000000):Calls prog 104 #[v] w
 λy w'=>y=.returned (.bool (La.right a))/\aY w w':=by
 unfold La.right La.roomy;by_cases hc:a.cap<1
 ·rw[bZ (show ¬1<=a.cap by omega),pt,Ag];exact GZ v a w h hc
 ·by_cases oW:a.cap>20
  ·rw[bZ (show ¬a.cap<=20 by omega),pt,Ag,Ag];exact Fe v a w h hc oW
  ·cases hq:a.l.all Fr.right with
   |false=>
    rw[pt];exact G0 v a w h hc oW (by rw[La.wN,hq];rfl)
   |true=>
    rw[cV (show 1<=a.cap by omega),cV (show a.cap<=20 by omega),pP,pP,pP];exact Ff v a w h hn hc oW (by rw[La.wN,hq];rfl)
end Go.Proofs.YtmgahjkopiaglaaGreat
namespace Go.Proofs.YtmgahjkopiaglaaGreat
open Go.RowKit Go.Proofs.Tryz
theorem uw{P:Program}(w:World)(dT sT ty elem:TypeId)(size:Nat)(g o uU C8:Nat)(a:Addr)(nr wI:Nat)(cur:Array Value)(t:TypeId)(cs:List Value)
 (hu:P.underlying dT=some (.slice elem))(hs:(P.info? elem).map (·.size)=some size)
 (hg:w.1[g]?=some (.cells cur t (0,0)))(hn:cs.length=Nat.min nr uU * size)
 (Fg:∀j v,cs[j]?=some v->w.cell? (a.add j)=some v)(rV:o+cs.length<=cur.size)(F:∀v∈cs,v.oneCell'=true):
 (Builtin.copy_ #[dT,sT] ty #[.slice (some ⟨g,o,none⟩) uU C8,.slice (some a) nr wI]).run P w=
  .ok (goInt (Nat.min nr uU)) (w.setRow g (cur.toList.take o++cs++cur.toList.drop (o+cs.length)).toArray):=by
 have hl:=run_loadCells_list (P:=P) w a cs Fg;have gw:=run_storeCells_at P g o t cs 0 cur w hg (by simpa using rV) F;cases hq:P.info? elem with
 |none=>simp[hq] at hs
 |some i=>
  have hi:i.size=size:=by simpa[hq] using hs
  simp[Builtin.copy_,kM hu,Builtin.lenOf,Builtin.firstCells,sizeOf,typeInfo,hq,hi,<-hn,hl,gw]
theorem C'{P:Program}(w:World)(dT sT ty elem:TypeId)(d:Option Addr)(s:Option Addr)(uU C8 wI:Nat)(hu:P.underlying dT=some (.slice elem))(hs:((P.info? elem).map (·.size)).isSome=true):
 (Builtin.copy_ #[dT,sT] ty #[.slice d uU C8,.slice s 0 wI]).run P w=.ok (goInt 0) w:=by
 cases hq:P.info? elem with
 |none=>simp[hq] at hs
 |some i=>cases d<;>cases s<;>simp[Builtin.copy_,kM hu,Builtin.lenOf,Builtin.firstCells,sizeOf,typeInfo,hq,storeCells,loadCells,loadCellsFrom]
section
variable{P:Program}{w:World}{ops:Array Oper}{rest:List Oper}{o:Oper}{a:Act}{ao:Exit->Act->World->Prop}
theorem yV(o7:o.guard=none)(d s:Operand)(dT sT:TypeId)(ho:o.op=.call {callee:=.builtin .copy,args:=#[d,s],argTypes:=#[dT,sT]})(elem:TypeId)(size:Nat)(hu:P.underlying dT=some (.slice elem))(fM:(P.info? elem).map (·.size)=some size)
 (g uU C8:Nat)(sp:Option Addr)(nr wI:Nat)(hd:a.eval d=.slice g uU C8)(hs:a.eval s=.slice sp nr wI)
 (cur:Array Value)(t:TypeId)(hg:w.1[g]?=some (.cells cur t (0,0)))(cs:List Value)(hn:cs.length=nr * size)(hle:nr<=uU)
 (Fg:0<nr->∃g2 o2,sp=some ⟨g2,o2,none⟩/\∀j v,cs[j]?=some v->w.cell? ⟨g2,o2+j,none⟩=some v)(rV:cs.length<=cur.size)(F:∀v∈cs,v.oneCell'=true)
 (h:∀w',w'.1[g]?=some (.cells (cs++cur.toList.drop cs.length).toArray t (0,0))->(∀k,k≠g->w'.1[k]?=w.1[k]?)->w'.1.size=w.1.size->Below g w w'->wpList P ops ao rest (a.put o.dst (goInt nr)) w'):wpList P ops ao (o::rest) a w:=by
 refine px o7 λaj hK=>?_;have Yk:Nat.min nr uU=nr:=qJ hle;rcases m7 nr with h0|h0
 ·subst h0;have hc:cs=[]:=ib (by simpa using hn);subst hc;have pa:=C' (P:=P) w dT sT o.type elem (some ⟨g,0,none⟩) sp uU C8 wI hu (by rw[fM];rfl);unfold Oper.wp;simp[execOp,ho,resolve,invoke,builtin,hd,hs,pa,Result.andThen];exact hK _ _ (h w (by simpa using hg) (λ_ _=>rfl) rfl cT)
 ·obtain⟨g2,o2,rfl,nq⟩:=Fg h0;have pa:=uw (P:=P) w dT sT o.type elem size g 0 uU C8 ⟨g2,o2,none⟩ nr wI cur t cs hu fM hg (by rw[Yk];exact hn) (λj v hj=>by rw[JH];exact nq j v hj) (by simpa using rV) F;rw[Yk] at pa;unfold Oper.wp;simp only[execOp,ho,resolve,invoke,builtin,iI,tI,qK,Ab,jR,pw,hd,hs,pa];refine hK _ _ (h _ ?_ (λk Q=>setRow_other w g k _ Q) (by simp[World.setRow]) (below_setRow cT bE _));rw[setRow_heap w g cur _ t _ hg];simp
end
theorem MF{w:World}{g o:Nat}{cs:List Value}{T:TypeId}{z0 z1 z2 z3 z4 z5 z6 z7 z8 a0 a1 a2 a3 a4 a5 a6 a7 a8:Value}(h:w.1[g]?=some (.cells (cs++[z0,z1,z2,z3,z4,z5,z6,z7,z8]).toArray T (0,0)))(ho:cs.length=o):
 (((((((((w.setCell ⟨g,o,none⟩ a0).setCell ⟨g,o+1,none⟩ a1).setCell ⟨g,o+2,none⟩ a2).setCell ⟨g,o+3,none⟩ a3).setCell ⟨g,o+4,none⟩ a4).setCell ⟨g,o+5,none⟩ a5).setCell ⟨g,o+6,none⟩ a6).setCell ⟨g,o+7,none⟩ a7).setCell ⟨g,o+8,none⟩ a8).1[g]?=some (.cells (cs++[a0,a1,a2,a3,a4,a5,a6,a7,a8]).toArray T (0,0)):=by
 have s9:∀(l:List Value)(i:Nat)(v:Value),(cs++l).toArray.setIfInBounds (o+i) v=(cs++l.set i v).toArray:=λl i v=>by
  subst ho;apply Array.ext';simp
 have h0:(w.setCell ⟨g,o,none⟩ a0).1[g]?=some (.cells (cs++[a0,z1,z2,z3,z4,z5,z6,z7,z8]).toArray T (0,0)):=by
  have e:=dS h (o+0) a0;rw[s9 [z0,z1,z2,z3,z4,z5,z6,z7,z8] 0 a0] at e;exact e
 have F:((w.setCell ⟨g,o,none⟩ a0).setCell ⟨g,o+1,none⟩ a1).1[g]?=some (.cells (cs++[a0,a1,z2,z3,z4,z5,z6,z7,z8]).toArray T (0,0)):=by
  have e:=dS h0 (o+1) a1;rw[s9 [a0,z1,z2,z3,z4,z5,z6,z7,z8] 1 a1] at e;exact e
 have R:(((w.setCell ⟨g,o,none⟩ a0).setCell ⟨g,o+1,none⟩ a1).setCell ⟨g,o+2,none⟩ a2).1[g]?=some (.cells (cs++[a0,a1,a2,z3,z4,z5,z6,z7,z8]).toArray T (0,0)):=by
  have e:=dS F (o+2) a2;rw[s9 [a0,a1,z2,z3,z4,z5,z6,z7,z8] 2 a2] at e;exact e
 have h3:((((w.setCell ⟨g,o,none⟩ a0).setCell ⟨g,o+1,none⟩ a1).setCell ⟨g,o+2,none⟩ a2).setCell ⟨g,o+3,none⟩ a3).1[g]?=some (.cells (cs++[a0,a1,a2,a3,z4,z5,z6,z7,z8]).toArray T (0,0)):=by
  have e:=dS R (o+3) a3;rw[s9 [a0,a1,a2,z3,z4,z5,z6,z7,z8] 3 a3] at e;exact e
 have h4:(((((w.setCell ⟨g,o,none⟩ a0).setCell ⟨g,o+1,none⟩ a1).setCell ⟨g,o+2,none⟩ a2).setCell ⟨g,o+3,none⟩ a3).setCell ⟨g,o+4,none⟩ a4).1[g]?=some (.cells (cs++[a0,a1,a2,a3,a4,z5,z6,z7,z8]).toArray T (0,0)):=by
  have e:=dS h3 (o+4) a4;rw[s9 [a0,a1,a2,a3,z4,z5,z6,z7,z8] 4 a4] at e;exact e
 have h5:((((((w.setCell ⟨g,o,none⟩ a0).setCell ⟨g,o+1,none⟩ a1).setCell ⟨g,o+2,none⟩ a2).setCell ⟨g,o+3,none⟩ a3).setCell ⟨g,o+4,none⟩ a4).setCell ⟨g,o+5,none⟩ a5).1[g]?=some (.cells (cs++[a0,a1,a2,a3,a4,a5,z6,z7,z8]).toArray T (0,0)):=by
  have e:=dS h4 (o+5) a5;rw[s9 [a0,a1,a2,a3,a4,z5,z6,z7,z8] 5 a5] at e;exact e
 have h6:(((((((w.setCell ⟨g,o,none⟩ a0).setCell ⟨g,o+1,none⟩ a1).setCell ⟨g,o+2,none⟩ a2).setCell ⟨g,o+3,none⟩ a3).setCell ⟨g,o+4,none⟩ a4).setCell ⟨g,o+5,none⟩ a5).setCell ⟨g,o+6,none⟩ a6).1[g]?=some (.cells (cs++[a0,a1,a2,a3,a4,a5,a6,z7,z8]).toArray T (0,0)):=by
  have e:=dS h5 (o+6) a6;rw[s9 [a0,a1,a2,a3,a4,a5,z6,z7,z8] 6 a6] at e;exact e
 have h7:((((((((w.setCell ⟨g,o,none⟩ a0).setCell ⟨g,o+1,none⟩ a1).setCell ⟨g,o+2,none⟩ a2).setCell ⟨g,o+3,none⟩ a3).setCell ⟨g,o+4,none⟩ a4).setCell ⟨g,o+5,none⟩ a5).setCell ⟨g,o+6,none⟩ a6).setCell ⟨g,o+7,none⟩ a7).1[g]?=some (.cells (cs++[a0,a1,a2,a3,a4,a5,a6,a7,z8]).toArray T (0,0)):=by
  have e:=dS h6 (o+7) a7;rw[s9 [a0,a1,a2,a3,a4,a5,a6,z7,z8] 7 a7] at e;exact e
 have h8:(((((((((w.setCell ⟨g,o,none⟩ a0).setCell ⟨g,o+1,none⟩ a1).setCell ⟨g,o+2,none⟩ a2).setCell ⟨g,o+3,none⟩ a3).setCell ⟨g,o+4,none⟩ a4).setCell ⟨g,o+5,none⟩ a5).setCell ⟨g,o+6,none⟩ a6).setCell ⟨g,o+7,none⟩ a7).setCell ⟨g,o+8,none⟩ a8).1[g]?=some (.cells (cs++[a0,a1,a2,a3,a4,a5,a6,a7,a8]).toArray T (0,0)):=by
  have e:=dS h7 (o+8) a8;rw[s9 [a0,a1,a2,a3,a4,a5,a6,a7,z8] 8 a8] at e;exact e
 exact h8
end Go.Proofs.YtmgahjkopiaglaaGreat
namespace Go.Proofs.YtmgahjkopiaglaaGreat
open Go.RowKit Go.Proofs.Tryz
theorem nt.rep{fr:Bool}{w:World}{S:Nat->Prop}{A B:Option Addr}{k l:Nat}{f:Fr}(h:nt fr w S (.agg #[f.kind,f.aC,f.seq,f.bB,.slice A f.pieces.length k,f.init,f.num,.int .i64 f.count,.slice B f.path.length l]) f):
 Y.frame.is fr w S (uT f (.slice A f.pieces.length k) (.slice B f.path.length l)) f:=by
 obtain⟨_,_,_,_,he,F,R⟩:=h;cases he;exact⟨_,_,rfl,F,R⟩
end Go.Proofs.YtmgahjkopiaglaaGreat
namespace Go.Proofs.YtmgahjkopiaglaaGreat
open Go.RowKit Go.Proofs.Tryz Go.Maps
theorem ym(v:Value)(a:La)(w:World)(h:ky false w 0 w.1.size v a)(k:Int)(Q:(Lit.int .i64 k).wf=true)(ki:lK a.l)(hn:a.l.length<=1000000):Calls prog 60 #[v,k] w
 λy w'=>y=.returned (.int .i64 (La.kV k a.l:Int))/\aY w w':=by
 obtain⟨n,j6⟩:∃n:Nat,La.kV k a.l=n:=⟨_,rfl⟩;rw[j6];change aK _ at j6;obtain⟨A,c,rfl,F⟩:=h;have hl:=F.kh;go_in;go_upto_region 1 with fail
 refine jt λW0 bx J=>?_;have rW:ky false W0 0 W0.1.size (.agg #[a.bF,a.cap,.slice A a.l.length c]) a:=⟨A,c,rfl,(F.below J bE).aF (ev 0) J.size⟩;clear F;obtain⟨d0,d1,d2⟩:=bP bx;go_wp2_with fail;refine(wL _ a _ rW ki hn).mono ?_;rintro z w2 ⟨⟨b,n2,ab,rfl,cG,G1⟩,I⟩;replace J:=J.trans (I.mono J.size);have JU:=G1 k;rw[j6.Z] at JU;replace JU:=U JU;replace cG:=U cG;change aK _ at Q;clear G1 rW I;clear d0 d1 d2;go_wp2_with (at_lookup;refine sh _ rfl _ _ 147 rfl 3 3 .i64 (int_keyed underlying3) underlying147 underlying3 (Tryz.py _) b n2 _ rfl cG.Z _ _ rfl (keyOf_int_mk (P:=prog) underlying3 Q.Z) ?_;intro cc jK Rw;obtain rfl:cc=(n:Int):=LN jK JU.Z;clear jK Rw);go_ret;exact⟨rfl,J⟩
theorem JV(v:Value)(a:La)(w:World)(h:ky false w 0 w.1.size v a)(ki:lK a.l)(hn:a.l.length<=1000000):Calls prog 78 #[v] w
 λy w'=>y=.returned (.int .i64 (La.kV 0 a.l:Int))/\aY w w':=by
 obtain⟨A,c,rfl,F⟩:=h;have hl:=F.kh;go_in;go_upto_region 1 with fail
 refine jt λW0 bx J=>?_;have rW:ky false W0 0 W0.1.size (.agg #[a.bF,a.cap,.slice A a.l.length c]) a:=⟨A,c,rfl,(F.below J bE).aF (ev 0) J.size⟩;clear F;obtain⟨d0,d1,d2⟩:=bP bx;go_wp2_with fail;refine(ym _ a _ rW 0 (by decide) ki hn).mono ?_;rintro z w2 ⟨rfl,I⟩;go_wp2;go_ret;exact⟨rfl,J.trans (I.mono J.size)⟩
theorem JW(v:Value)(a:La)(w:World)(h:ky false w 0 w.1.size v a)(n:Int)(hf:n<1):Calls prog 52 #[v,n] w
 λy w'=>y=.returned (.bool true)/\aY w w':=by
 obtain⟨A,c,rfl,F⟩:=h;have hl:=F.kh;go_in;go_upto_region 1 with fail
 refine jt λW0 bx J=>?_;have rW:ky false W0 0 W0.1.size (.agg #[a.bF,a.cap,.slice A a.l.length c]) a:=⟨A,c,rfl,(F.below J bE).aF (ev 0) J.size⟩;clear F;obtain⟨d0,d1,d2⟩:=bP bx;clear d0 d1 d2;replace bx:=bx.next (cT.drew);replace rW:=rW.next (cT.drew);replace J:=J.drew;have K:=Ext.refl (W0.drew);refine eU 128 (by kernel_rfl) ?_;refine aG [0,1,2,6] 8 ?_;go_wp2;refine rJ [4,5] 6 ?_;go_wp2;refine iJ ?_;refine tK 3 ?_ (hy:=.inr ⟨by rfl,rfl⟩);refine oN 7 ?_;go_wp2;refine⟨λ_=>K,?_⟩;refine aG [8,9,10,11] 0 ?_;go_wp2;refine eJ ?_;go_wp2_with fail;all_goals go_ret
 all_goals exact⟨rfl,J⟩
theorem G3(v:Value)(a:La)(w:World)(h:ky false w 0 w.1.size v a)(n:Int)(hf:¬n<1)(R6:1<=a.cap/\a.cap<=20)(ki:lK a.l)(hn:a.l.length<=1000000):Calls prog 52 #[v,n] w
 λy w'=>y=.returned (.bool (decide (n<=a.cap-(La.kV 0 a.l:Int))))/\aY w w':=by
 obtain⟨m,Bl⟩:∃m:Nat,La.kV 0 a.l=m:=⟨_,rfl⟩;have qT:m<=a.l.length:=Bl▸La.Bk 0 a.l;rw[Bl];change aK _ at Bl;obtain⟨A,c,rfl,F⟩:=h;have hl:=F.kh;go_in;go_upto_region 1 with fail
 refine jt λW0 bx J=>?_;have rW:ky false W0 0 W0.1.size (.agg #[a.bF,a.cap,.slice A a.l.length c]) a:=⟨A,c,rfl,(F.below J bE).aF (ev 0) J.size⟩;clear F;obtain⟨d0,d1,d2⟩:=bP bx;clear d0 d1 d2;replace bx:=bx.next (cT.drew);replace rW:=rW.next (cT.drew);replace J:=J.drew;have K:=Ext.refl (W0.drew);refine eU 128 (by kernel_rfl) ?_;obtain⟨d0,d1,d2⟩:=bP bx;refine aG [0,1,2,6] 8 ?_;go_wp2;refine rJ [4,5] 6 ?_;go_wp2;refine iJ ?_;clear d0 d1 d2;refine tK 3 ?_;refine oN 7 ?_;go_wp2_with fail;refine(JV _ a _ rW ki hn).mono ?_;rintro e w1 ⟨rfl,I⟩;refine ja I bx rW K J ?_;clear I bx rW K J;intro _ bx rW K J;rw[Bl.Z];go_wp2;refine⟨λ_=>K,?_⟩;refine aG [8,9,10,11] 0 ?_;go_wp2;refine eJ ?_;go_wp2_with fail;all_goals go_ret
 all_goals exact⟨rfl,J⟩
theorem JX(v:Value)(a:La)(w:World)(h:ky false w 0 w.1.size v a)(n:Int)(R6:1<=a.cap/\a.cap<=20)(ki:lK a.l)(hn:a.l.length<=1000000):Calls prog 52 #[v,n] w
 λy w'=>y=.returned (.bool (La.fits a n))/\aY w w':=by
 unfold La.fits;by_cases hf:n<1
 ·rw[cV hf,Bool.true_or];exact JW v a w h n hf
 ·rw[bZ hf,Bool.false_or];exact G3 v a w h n hf R6 ki hn
end Go.Proofs.YtmgahjkopiaglaaGreat
