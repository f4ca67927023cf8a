/- Lemmas, walks and contracts by which the statement is proved. -/
import Derived.Test.YtmgahjkopiaglaaGreatK28
set_option maxRecDepth 100000
set_option maxHeartbeats 16000000
set_option linter.all false
namespace Go.Proofs.YtmgahjkopiaglaaGreat
open Go.RowKit Go.Proofs.Tryz
theorem SO.move{w w':World}{S S':Nat->Prop}{x:Wk}{s:WA}(h:SO w S x s)(Q:∀b,S b->w'.1[b]?=w.1[b]?)(hs:∀b,S b->S' b):SO w' S' x s:=⟨h.fx.move Q hs,(h.ou.aE Q).aF hs⟩
def qE(s:WA)(x:Nd):Array Value:=match ndV s x with | .agg cs=>cs|_=>#[]
theorem AL(s:WA)(x:Nd):(qE s x).all (·.oneCell')=true:=by simp[qE,Value.oneCell']
def NN(s:WA)(x:Wk):Array Value:=#[.slice s.En x.nC.length s.Eo,.slice s.FM x.pC.length s.FN]
theorem Mh(s:WA)(x:Wk):(NN s x).all (·.oneCell')=true:=by simp[NN,Value.oneCell']
def QD(bw:Nat)(S:Nat->Prop)(w:World)(av:Except Int Wk)(y:Ending)(w':World):Prop:=
 Kept w.1.size bw w w'/\match av with
  | .error e=>y=.returned (.tuple #[.agg kF,(),.agg Ix,e])
  | .ok x=>∃t,y=.returned (.tuple #[.agg (qE t x.x),gW x t,.agg (NN t x),aP])/\SO w' (EW S w.1.size w') x t
theorem G.bO{w:World}{b o n:Nat}{C:Array Value}{T:TypeId}(h:G w b C T){cs:Array Value}(e:C.extract o (o+n)=cs):w.rangeAt b o cs.toList:=e▸World.rangeAt_of_block h o n
theorem G.cR{w:World}{g n:Nat}{cs:Array Value}{T:TypeId}(h:G w g cs T)(e:cs.size=n):w.there g 0 n:=e▸h.there
theorem G.gH{w:World}{g b:Nat}{cs:Array Value}{T:TypeId}(h:G w b cs T)(I:b≠g)(l:List Value):G (cz w g 0 l) b cs T:=(bV I l 0 _).trans h
theorem uE{fn:Func}{p q r s:Tmp}{t1 t2 t3 t4:TypeId}(h:fn.results=#[.cell p t1,.cell q t2,.cell r t3,.cell s t4]){tmps:Array Value}{P:Program}{w:World}{a1 a2 a3 a4:Addr}{v1 v2 v3 v4:Value}
 (F:tmps.getD p undef=.pointer (some a1))(R:tmps.getD q undef=.pointer (some a2))(h3:tmps.getD r undef=.pointer (some a3))(h4:tmps.getD s undef=.pointer (some a4))
 (l1:(loadVar t1 a1).run P w=.ok v1 w)(l2:(loadVar t2 a2).run P w=.ok v2 w)(l3:(loadVar t3 a3).run P w=.ok v3 w)(l4:(loadVar t4 a4).run P w=.ok v4 w):(results fn tmps).run P w=.ok (.tuple #[v1,v2,v3,v4]) w:=by
 have e:∀ {p:Tmp} {a:Addr},tmps.getD p undef=.pointer (some a)->asAddr (tmps[p]?.getD undef)=pure a:=λhp=>by
  rw[show tmps[_]?.getD undef=.pointer (some _) by simpa using hp];rfl
 simp only[results,h];simp[e F,e R,e h3,e h4,iI,Result.andThen,l1,l2,l3,l4]
theorem Cl{w:World}{b:Nat}{v:Value}{T:TypeId}(h:G w b #[v] T):(loadVar 144 ⟨b,0,none⟩).run prog w=.ok v w:=by
 have OO:=ch h;simp[go_sem,OO]
theorem Cm{w:World}{b:Nat}{v:Value}{T:TypeId}(h:G w b #[v] T):(loadVar 42 ⟨b,0,none⟩).run prog w=.ok v w:=by
 have OO:=ch h;simp[go_sem,OO]
section
variable{lo bw:Nat}{C X E:Array Value}{O:Value}{y0 y:World}{m:Nat}
structure DR(lo bw:Nat)(C X:Array Value)(O:Value)(E:Array Value)(y0:World)(m:Nat)(y:World):Prop where
 lt:bw<lo
 b:G y bw C 183
 g:G y lo (bif m.testBit 12 then X else kF) 121
 h:G y (lo+1) #[bif m.testBit 13 then O else .slice none 0 0] 144
 i:G y (lo+1+1) (bif m.testBit 14 then E else Ix) 157
 j:G y (lo+1+1+1) #[aP] 42
 B:Below lo y0 y
 Bu:∀b,lo+4<=b->y.1[b]?=y0.1[b]?
theorem DR.zero(ar:DR lo bw C X O E y0 0 y)(F:m.testBit 12=false)(R:m.testBit 13=false)(h3:m.testBit 14=false):DR lo bw C X O E y0 m y:=
 ⟨ar.lt,ar.b,by rw[F];exact ar.g,by rw[R];exact ar.h,by rw[h3];exact ar.i,ar.j,ar.B,ar.Bu⟩
theorem DR.up(ar:DR lo bw C X O E y0 m y)(j:Nat)(F:12≠j)(R:13≠j)(h3:14≠j):DR lo bw C X O E y0 (m|||2^j) y:=
 ⟨ar.lt,ar.b,by rw[aW F];exact ar.g,by rw[aW R];exact ar.h,by rw[aW h3];exact ar.i,ar.j,ar.B,ar.Bu⟩
theorem DR.Zg(ar:DR lo bw C X O E y0 m y)(hX:X.size=28)(hm:m.testBit 12=false):DR lo bw C X O E y0 (m|||2^12) (cz y lo 0 X.toList):=
 ⟨ar.lt,ar.b.gH (by have:=ar.lt;omega) _,by rw[kI];exact(show G y lo kF _ from by have:=ar.g;rwa[hm] at this).cm X (by rw[hX];rfl),by rw[aW (by decide)];exact ar.h.gH (by omega) _,by rw[aW (by decide)];exact ar.i.gH (by omega) _,ar.j.gH (by omega) _,aI bE _ _ _ ar.B,λb q=>(bV (by omega) _ _ _).trans (ar.Bu b q)⟩
theorem DR.s14(ar:DR lo bw C X O E y0 m y)(K:E.size=2)(hm:m.testBit 14=false):DR lo bw C X O E y0 (m|||2^14) (cz y (lo+1+1) 0 E.toList):=
 ⟨ar.lt,ar.b.gH (by have:=ar.lt;omega) _,by rw[aW (by decide)];exact ar.g.gH (by omega) _,by rw[aW (by decide)];exact ar.h.gH (by omega) _,by rw[kI];exact(show G y (lo+1+1) Ix _ from by have:=ar.i;rwa[hm] at this).cm E (by rw[K];rfl),ar.j.gH (by omega) _,aI (by omega) _ _ _ ar.B,λb q=>(bV (by omega) _ _ _).trans (ar.Bu b q)⟩
theorem DR.s13(ar:DR lo bw C X O E y0 m y):DR lo bw C X O E y0 (m|||2^13) (y.setCell ⟨lo+1,0,none⟩ O):=
 ⟨ar.lt,ar.b.dE (by have:=ar.lt;omega) 0 _,by rw[aW (by decide)];exact ar.g.dE (by omega) 0 _,by rw[kI];exact ar.h.bd 0 _,by rw[aW (by decide)];exact ar.i.dE (by omega) 0 _,ar.j.dE (by omega) 0 _,ar.B.setCell (by show lo<=lo+1;omega) _,λb q=>(dF _ _ _ _ (by show b≠lo+1;omega)).trans (ar.Bu b q)⟩
theorem DR.s15(ar:DR lo bw C X O E y0 m y):DR lo bw C X O E y0 (m|||2^15) (y.setCell ⟨lo+1+1+1,0,none⟩ (.int .i64 0)):=
 DR.up ⟨ar.lt,ar.b.dE (by have:=ar.lt;omega) 0 _,ar.g.dE (by omega) 0 _,ar.h.dE (by omega) 0 _,ar.i.dE (by omega) 0 _,ar.j.bd 0 _,ar.B.setCell (by show lo<=lo+1+1+1;omega) _,λb q=>(dF _ _ _ _ (by show b≠lo+1+1+1;omega)).trans (ar.Bu b q)⟩ 15 (by decide) (by decide) (by decide)
end
theorem QE{fn:Func}{tmps:Array Value}{av:Ending->World->Prop}{g h i j:Nat}{e:Int}{w:World}(hg:G w g kF 121)(hh:G w h #[()] 144)(hi:G w i Ix 157)(hj:G w j #[aP] 42)(F:g<h)(R:h<i)(h3:i<j)
 (hR:∀w',DZ g h i j w.1.size g e e w w'->∃v,(results fn tmps).run prog w'=.ok v w'/\av (.returned v) w'):
 Leaves prog fn tmps av [{target:=.fn (.func 106) #[.pointer g,.pointer h,.pointer i,.pointer j],args:=#[]}] (.panicking [te e false]) w:=by
 refine leaves_cons (f:=106) (args:=#[.pointer g,.pointer h,.pointer i,.pointer j]) (by simp) (by simp[go_sem]) ?_;refine(xX g h i j e [] w hg hh hi hj F R h3).mono ?_;rintro y u' qp ⟨rfl,rfl,ar⟩;exact hR _ ar
theorem NO{fn:Func}{tmps:Array Value}{av:Ending->World->Prop}{p q r s:Option Addr}{w:World}
 (hR:∀w',aY w w'->∃v,(results fn tmps).run prog w'=.ok v w'/\av (.returned v) w'):
 Leaves prog fn tmps av [{target:=.fn (.func 106) #[.pointer p,.pointer q,.pointer r,.pointer s],args:=#[]}] .returning w:=by
 refine leaves_cons (f:=106) (args:=#[.pointer p,.pointer q,.pointer r,.pointer s]) (by simp) (by simp[go_sem]) ?_;refine(Iw p q r s w).mono ?_;rintro y u' qp ⟨rfl,rfl,rfl⟩;exact hR _ (cT.alloc bE _)
theorem UD(aa:FuncId)(bw:Nat)(S:Nat->Prop)(a:Ap)(l:Int)(f:Fr)(av:Except Int Wk)(w:World)(Vf:bw<w.1.size)(hS:∀b,S b->b<w.1.size/\b≠bw)
 (NF:∀(args:Array Value)(W:World),(callFunc aa args).run prog W=.ok (.enter aa args) W)(hF:∀w1,aY w w1->Calls prog aa #[.pointer bw] w1 λy w'=>lr w1.1.size bw S a l f w1 av y w'):
 Calls prog 81 #[.pointer bw,.func (.func aa) #[] #[]] w λy w'=>QD bw S w av y w':=by
 go_enter_defers func81,ntmps81;go_upto_region 1 with fail
 refine nW4 λW1 bg bh bi bj J=>?_;have zl:=bj.lt;go_wp2_with fail;refine(hF W1 J).mono ?_;rintro e w2 ⟨hK,he⟩;have Gx:Kept w.1.size bw w w2:=⟨hK.os.trans J.os,hK.tape.trans J.tape,hK.output.trans J.output,bT J.size hK.size,λb q r=>(hK.block b (by omega) r).trans (J.block b q)⟩;have zs:=hK.size;replace bg:G w2 w.1.size kF 121:=(hK.block _ (by omega) (by omega)).trans bg;replace bh:G w2 (w.1.size+1) #[()] 144:=(hK.block _ (by omega) (by omega)).trans bh;replace bi:G w2 (w.1.size+1+1) Ix 157:=(hK.block _ (by omega) (by omega)).trans bi;replace bj:G w2 (w.1.size+1+1+1) #[aP] 42:=(hK.block _ (by omega) (by omega)).trans bj;cases av with
 |error e2=>
  subst he;go_wp2_with fail;refine QE bg bh bi bj (by omega) (by omega) (by omega) λw' ar=>?_;refine⟨_,uE results81 rfl rfl rfl rfl (ar.g.ju 121 _ underlying121 rfl (by kernel_rfl)) (Cl ar.h) (ar.i.ju 157 _ underlying157 rfl (by kernel_rfl)) (Cm ar.j),?_⟩;exact⟨Gx.trans ⟨ar.B.os,ar.B.tape,ar.B.output,ar.B.size,λb q _=>ar.B.block b q⟩,rfl⟩
 |ok x=>
  obtain⟨rfl,t,I,K⟩:=he;obtain⟨C,hC⟩:=cJ (lA a x l f t);have cX:C.extract 4 (4+28)=qE t x.x:=by rw[<-hC];kernel_rfl
  have cO:C[32]?=some (gW x t):=by rw[<-hC];kernel_rfl
  have cE:C.extract 33 (33+2)=NN t x:=by rw[<-hC];kernel_rfl
  rw[hC] at I;have sX:(qE t x.x).size=28:=rfl;have sE:(NN t x).size=2:=rfl;have oX:=AL t x.x;have oE:=Mh t x;obtain⟨X,hX⟩:=cJ (qE t x.x);obtain⟨E,DP⟩:=cJ (NN t x);obtain⟨oA,oN,oK,hO⟩:∃A n k,gW x t=.slice A n k:=⟨_,_,_,rfl⟩;rw[hX] at cX sX oX;rw[DP] at cE sE oE;rw[hO] at cO;replace K:=U K;change aK _ at hX DP;replace hO:=U hO;clear hC;go_upto_region 3 with fail
  refine rgd 0 λW3 fu hE3=>?_;have ar:DR w.1.size bw C X (.slice oA oN oK) E W3 0 W3:=⟨Vf,I.next fu,bg.next fu,bh.next fu,bi.next fu,bj.next fu,cT,λ_ _=>rfl⟩;have z3:=fu.size;clear hE3 bg bh bi bj I;refine tS 0 ?_;refine tS 1 ?_;refine tS 2 ?_;refine tS 4 ?_;refine tS 5 ?_;refine tS 6 ?_;refine tS 8 ?_;refine tS 9 ?_;refine aG [3] 7 ?_;refine wpList_load_mid rfl 121 (.tmp 14) rfl bw 4 rfl X.toList _ (ar.b.bO cX) underlying121 rfl (by rw[eK,sX];kernel_rfl) ?_;go_wp2;refine tJ 10 ?_;refine qe λA0 gD=>?_;obtain⟨INV,iy⟩:∃au:Nat->Act->World->Prop,∀m A y,au m A y↔∃v u:Value,A=(A0.put (some 19) v).put (some 23) u/\(m.testBit 7=true->v=.slice oA oN oK)/\(m.testBit 11=true->u=.agg E)/\DR w.1.size bw C X (.slice oA oN oK) E W3 m y:=⟨_,λ_ _ _=>Iff.rfl⟩;replace iy:=U iy;replace gD:=U gD;refine j3 [7,11,12,13,14,15] 65535 INV (by kernel_rfl) (by kernel_rfl) ?_ 0 ?_ 6 1919 _ _ (by kernel_rfl) ((iy _ _ _).2 ⟨undef,undef,by rw[<-gD.Z];rfl,λq=>absurd q (by decide),λq=>absurd q (by decide),ar.zero (by decide) (by decide) (by decide)⟩)
  ·clear ar;refine aZ ?_ (aZ ?_ (aZ ?_ (aZ ?_ (aZ ?_ (aZ ?_ iA)))));all_goals
    rintro m A y iK hd hi;obtain⟨v,u,ha,hv,hu,ar⟩:=(iy _ _ _).1 hi
   ·rw[ha,<-gD.Z];clear ha hd hi;replace hv:=U hv;replace hu:=U hu;simp only[di,dX,Act.put,eX,dK,dR];have c32:=(ar.b.open_).1 32;rw[cO] at c32;go_wp2_with fail;try refine cD (λq=>absurd q (by decide)) ?_
    show INV (m|||2^7) _ _;exact(iy _ _ _).2 ⟨.slice oA oN oK,u,by rw[<-gD.Z];rfl,λ_=>rfl,λq=>hu (by rwa[aW (i:=11) (j:=7) (by decide)] at q),ar.up 7 (by decide) (by decide) (by decide)⟩
   ·rw[ha,<-gD.Z];clear ha hd hi;replace hv:=U hv;replace hu:=U hu;simp only[di,dX,Act.put,eX,dK,dR];refine wpList_load_mid rfl 157 (.tmp 22) rfl bw 33 rfl E.toList _ (ar.b.bO cE) underlying157 rfl (by rw[eK,sE];kernel_rfl) ?_;go_wp2_with fail;try refine cD (λq=>absurd q (by decide)) ?_
    show INV (m|||2^11) _ _;exact(iy _ _ _).2 ⟨v,.agg E,by rw[<-gD.Z];rfl,λq=>hv (by rwa[aW (i:=7) (j:=11) (by decide)] at q),λ_=>rfl,ar.up 11 (by decide) (by decide) (by decide)⟩
   ·rw[ha,<-gD.Z];clear ha hd hi;replace hv:=U hv;replace hu:=U hu;simp only[di,dX,Act.put,eX,dK,dR];refine wpList_store_mid rfl 121 (.tmp 4) (.tmp 15) rfl w.1.size 0 X rfl rfl (ar.g.cR (by rw[iK];exact sX.symm)) (by rw[sX];kernel_rfl) oX ?_;rw[aH];go_wp2_with fail;try refine cD (λq=>absurd q (by decide)) ?_
    show INV (m|||2^12) _ _;exact(iy _ _ _).2 ⟨v,u,by rw[<-gD.Z];rfl,λq=>hv (by rwa[aW (i:=7) (j:=12) (by decide)] at q),λq=>hu (by rwa[aW (i:=11) (j:=12) (by decide)] at q),ar.Zg sX iK⟩
   ·have e:=hv (dw.get (m:=m) (i:=7) (λh=>h) hd (by kernel_rfl));rw[ha,<-gD.Z];clear ha hd hi;replace hv:=U hv;replace hu:=U hu;simp only[di,dX,Act.put,eX,dK,dR];rw[e];replace e:=U e;have OO:=ch ar.h;go_wp2_with fail;clear OO;try refine cD (λq=>absurd q (by decide)) ?_
    show INV (m|||2^13) _ _;exact(iy _ _ _).2 ⟨v,u,by rw[<-gD.Z,e.Z];rfl,λq=>hv (by rwa[aW (i:=7) (j:=13) (by decide)] at q),λq=>hu (by rwa[aW (i:=11) (j:=13) (by decide)] at q),ar.s13⟩
   ·have e:=hu (dw.get (m:=m) (i:=11) (λh=>h) hd (by kernel_rfl));rw[ha,<-gD.Z];clear ha hd hi;replace hv:=U hv;replace hu:=U hu;simp only[di,dX,Act.put,eX,dK,dR];rw[e];replace e:=U e;refine wpList_store_mid rfl 157 (.tmp 6) (.tmp 23) rfl (w.1.size+1+1) 0 E rfl rfl (ar.i.cR (by rw[iK];exact sE.symm)) (by rw[sE];kernel_rfl) oE ?_;rw[aH];go_wp2_with fail;try refine cD (λq=>absurd q (by decide)) ?_
    show INV (m|||2^14) _ _;exact(iy _ _ _).2 ⟨v,u,by rw[<-gD.Z,e.Z];rfl,λq=>hv (by rwa[aW (i:=7) (j:=14) (by decide)] at q),λq=>hu (by rwa[aW (i:=11) (j:=14) (by decide)] at q),ar.s14 sE iK⟩
   ·rw[ha,<-gD.Z];clear ha hd hi;replace hv:=U hv;replace hu:=U hu;simp only[di,dX,Act.put,eX,dK,dR];have OO:=ch ar.j;go_wp2_with fail;clear OO;try refine cD (λq=>absurd q (by decide)) ?_
    show INV (m|||2^15) _ _;exact(iy _ _ _).2 ⟨v,u,by rw[<-gD.Z];rfl,λq=>hv (by rwa[aW (i:=7) (j:=15) (by decide)] at q),λq=>hu (by rwa[aW (i:=11) (j:=15) (by decide)] at q),ar.s15⟩
  ·rintro A y hi;obtain⟨v,u,rfl,hv,hu,ar⟩:=(iy _ _ _).1 hi;rw[<-gD.Z];clear gD iy hi;refine eN ?_;simp only[dI];go_wp2_with fail;refine NO λw' j7=>?_;have eg:G y w.1.size X 121:=ar.g;have eh:G y (w.1.size+1) #[.slice oA oN oK] 144:=ar.h;have ei:G y (w.1.size+1+1) E 157:=ar.i;refine⟨_,uE results81 rfl rfl rfl rfl ((eg.next j7).ju 121 _ underlying121 rfl (by rw[sX];kernel_rfl)) (Cl (eh.next j7)) ((ei.next j7).ju 157 _ underlying157 rfl (by rw[sE];kernel_rfl)) (Cm (ar.j.next j7)),?_⟩;have z5:=ar.B.size;have z9:=j7.size;refine⟨Gx.trans ⟨j7.os.trans (ar.B.os.trans fu.os),j7.tape.trans (ar.B.tape.trans fu.tape),j7.output.trans (ar.B.output.trans fu.output),by omega,λb q _=>(j7.block b (by omega)).trans ((ar.B.block b q).trans (fu.block b (by omega)))⟩,t,by rw[hX.Z,DP.Z,hO.Z],?_⟩;refine K.move (λb q=>?_) λb q=>q.imp id λq=>⟨by omega,by omega⟩;have qb:b<w.1.size\/w.1.size+4<=b:=q.elim (λq=> .inl (hS b q).1) λq=> .inr (by omega);have ql:b<w2.1.size:=q.elim (λq=>by have:=(hS b q).1;omega) λq=>q.2;exact(j7.block b (by omega)).trans ((qb.elim (ar.B.block b) (ar.Bu b)).trans (fu.block b ql))
def V.Jw(e:Int):Fr:=⟨0,e,0,0,[],0,0,0,[]⟩
theorem SQ{w:World}{S:Nat->Prop}{va vx vf:Value}{a:Ap}{x:Nd}{f:Fr}(ha:da Y.ap w S va a)(D:da Y.nd w S vx x)(hf:da Y.frame w S vf f):
 ∃s:WA,va=Gu s a/\vx=.agg (qE s x)/\vf=L9 s f/\da Y.ap w S (Gu s a) a/\da Y.frame w S (L9 s f) f/\SG w S (V.lR x) s/\gW (V.lR x) s=.slice none 0 0/\
  ∀(l:Int)(W:World),(Instr.build 183 #[(0,Gu s a),(1,.agg (qE s x)),(4,.int .i64 l),(5,L9 s f)]).run prog W=.ok (.agg (lA a (V.lR x) l f s)) W:=by
 obtain⟨gA,TA,gk,Tk,rfl,_,_⟩:=id ha.ap;obtain⟨A0,A1,A2,A3,A4,A5,A6,A7,A8,A9,GR,JP,k0,k1,k2,k3,k4,k5,k6,k7,k8,k9,k10,k11,rfl,h0,F,R,h3,h4,h5,h6,h7,h8,h9,Ho,Kw⟩:=D.nd;obtain⟨fs,rfl,fa,fb,rfl,hp,hq⟩:=id hf;obtain⟨pA,pk,rfl,_⟩:=id hp;obtain⟨qA,qk,rfl,_⟩:=id hq;exact⟨⟨gA,TA,A0,A1,A2,A3,A4,A5,A6,A7,A8,A9,GR,JP,none,none,none,pA,qA,gk,Tk,k0,k1,k2,k3,k4,k5,k6,k7,k8,k9,k10,k11,0,0,0,pk,qk⟩,rfl,rfl,rfl,ha,hf,⟨da.Jo (p:=x.h) h0 F,da.BK (p:=x.m) R h3 h4 h5,da.VB (p:=x.u) h6 h7 h8,da.Sv (p:=x.t) h9,Ho,Kw,ay.none_,ay.none_⟩,rfl,λl W=>lG W _ _ _ (by kernel_rfl)⟩
theorem wX{w:World}{S:Nat->Prop}{va vx:Value}{a:Ap}{x:Nd}(e:Int)(ha:da Y.ap w S va a)(D:da Y.nd w S vx x):
 ∃s:WA,va=Gu s a/\vx=.agg (qE s x)/\da Y.ap w S (Gu s a) a/\da Y.frame w S (L9 s (V.Jw e)) (V.Jw e)/\SG w S (V.lR x) s/\gW (V.lR x) s=.slice none 0 0/\
  (∀W:World,(Instr.build 149 #[(1,.int .i64 e)]).run prog W=.ok (L9 s (V.Jw e)) W)/\
  (∀W:World,(Instr.build 183 #[(0,Gu s a),(1,.agg (qE s x)),(5,L9 s (V.Jw e))]).run prog W=.ok (.agg (lA a (V.lR x) 0 (V.Jw e) s)) W)/\
  ∀W:World,(Instr.build 183 #[(0,Gu s a),(1,.agg (qE s x))]).run prog W=.ok (.agg (lA a (V.lR x) 0 (V.Jw 0) s)) W:=by
 obtain⟨gA,TA,gk,Tk,rfl,_,_⟩:=id ha.ap;obtain⟨A0,A1,A2,A3,A4,A5,A6,A7,A8,A9,GR,JP,k0,k1,k2,k3,k4,k5,k6,k7,k8,k9,k10,k11,rfl,h0,F,R,h3,h4,h5,h6,h7,h8,h9,Ho,Kw⟩:=D.nd;exact⟨⟨gA,TA,A0,A1,A2,A3,A4,A5,A6,A7,A8,A9,GR,JP,none,none,none,none,none,gk,Tk,k0,k1,k2,k3,k4,k5,k6,k7,k8,k9,k10,k11,0,0,0,0,0⟩,rfl,rfl,ha,⟨_,rfl,_,_,rfl,ay.none_,ay.none_⟩,⟨da.Jo (p:=x.h) h0 F,da.BK (p:=x.m) R h3 h4 h5,da.VB (p:=x.u) h6 h7 h8,da.Sv (p:=x.t) h9,Ho,Kw,ay.none_,ay.none_⟩,rfl,λW=>lG W _ _ _ (by kernel_rfl),λW=>lG W _ _ _ (by kernel_rfl),λW=>lG W _ _ _ (by kernel_rfl)⟩
theorem eW.start{w w':World}{S:Nat->Prop}{bw:Nat}{a:Ap}{x:Nd}{f:Fr}{s:WA}(ha:da Y.ap w S (Gu s a) a)(hf:da Y.frame w S (L9 s f) f)(D:SG w S (V.lR x) s)(ho:gW (V.lR x) s=.slice none 0 0)
 (hS:∀b,S b->b<w.1.size)(I:Below w.1.size w w')(F:w.1.size<=bw)(R:bw<w'.1.size):eW w' w'.1.size bw S a (V.lR x) f s:=
 have Q:∀b,S b->w'.1[b]?=w.1[b]?:=λb q=>I.block b (hS b q)
 ⟨bE,R,λb q=>⟨aU (hS b q) I.size,by have:=hS b q;omega⟩,ha.aE Q,hf.aE Q,D.move Q λ_ q=> .inl q,by rw[ho];exact cj.nil _ _ _ _ _⟩
def Zh(S:Nat->Prop)(lo:Nat)(w':World)(av:Except Int Wk)(X E:Array Value)(O:Value)(e:Int):Prop:=
 match av with
 | .error e'=>e=e'
 | .ok x=>e=0/\∃t,X=qE t x.x/\O=gW x t/\E=NN t x/\SO w' (EW S lo w') x t
def UE(S:Nat->Prop)(lo:Nat)(w':World)(av:Except Int Wk)(X E:Array Value)(O:Value)(e:Int):Prop:=
 match av with
 | .error e'=>e=e'
 | .ok x=>e=0/\∃p q,E=#[p,q]/\da Y.nd w' (EW S lo w') (.agg X) x.x/\ay Y.Z false w' (EW S lo w') O x.Z/\ay Y.piece false w' (EW S lo w') p x.nC/\ay Y.int false w' (EW S lo w') q x.pC
theorem QD.split{bw:Nat}{S:Nat->Prop}{w w':World}{av:Except Int Wk}{y:Ending}(h:QD bw S w av y w'):Kept w.1.size bw w w'/\∃X O E e,y=.returned (.tuple #[.agg X,O,.agg E,.int .i64 e])/\X.size=28/\E.size=2/\X.all (·.oneCell')=true/\E.all (·.oneCell')=true/\
 aK (Zh S w.1.size w' av X E O e):=by
 obtain⟨F,R⟩:=h;refine⟨F,?_⟩;cases av with
 |error e=>exact⟨_,_,_,e,R,rfl,rfl,ub,Mg,U rfl⟩
 |ok x=>obtain⟨t,h3,h4⟩:=R;exact⟨_,_,_,0,h3,rfl,rfl,AL _ _,Mh _ _,U ⟨rfl,t,rfl,rfl,rfl,h4⟩⟩
section
variable{P:Program}{w:World}{ops:Array Oper}{rest:List Oper}{o:Oper}{a:Act}{ao:Exit->Act->World->Prop}
theorem wpList_build(o7:o.guard=none)(ty:TypeId)(parts:Array (Nat×Operand))(ho:o.op=.build ty parts)(Zi:Array (Nat×Value))(v:Value)(I:∀W,(Instr.build ty Zi).run P W=.ok v W)(hv:(parts.map λ(i,x)=>(i,a.eval x))=Zi)(h:wpList P ops ao rest (a.put o.dst v) w):wpList P ops ao (o::rest) a w:=
 px o7 λ_ hK=>by
  have hb':=I w;rw[<-hv] at hb';unfold Oper.wp execOp;simp only[ho,iI,hb',qK,tI];exact hK _ _ h
end
def UF(S:Nat->Prop)(w:World)(av:Except Int Wk)(y:Ending)(w':World):Prop:=
 Below w.1.size w w'/\∃X O E e,y=.returned (.tuple #[.agg X,O,.agg E,.int .i64 e])/\X.size=28/\E.size=2/\X.all (·.oneCell')=true/\E.all (·.oneCell')=true/\
  aK (UE S w.1.size w' av X E O e)
theorem SO.nd{w:World}{S:Nat->Prop}{x:Wk}{t:WA}(h:SO w S x t):da Y.nd w S (.agg (qE t x.x)) x.x:=by
 obtain⟨_,e,_,_,rfl,h0,F⟩:=h.fx.ho;injection e with e;injection e with e;injection e with _ e;injection e with _ e;injection e with _ e;injection e with e0 e;injection e with e1 _;subst e0;subst e1
 obtain⟨_,e,_,_,_,_,rfl,R,h3,h4,h5⟩:=h.fx.mr;injection e with e;injection e with e;injection e with _ e;injection e with e2 e;injection e with _ e;injection e with _ e;injection e with _ e;injection e with e3 e;injection e with e4 e;injection e with e5 _;subst e2;subst e3;subst e4;subst e5
 obtain⟨_,e,_,_,_,rfl,h6,h7,h8⟩:=h.fx.hu;injection e with e;injection e with e;injection e with _ e;injection e with _ e;injection e with _ e;injection e with _ e;injection e with e6 e;injection e with e7 e;injection e with e8 _;subst e6;subst e7;subst e8
 obtain⟨_,e,_,rfl,h9⟩:=h.fx.tr;injection e with e;injection e with e;injection e with _ e;injection e with _ e;injection e with _ e;injection e with e9 _;subst e9
 exact da.nd_ h0 F R h3 h4 h5 h6 h7 h8 h9 h.fx.go h.fx.se
theorem yK{fn:Func}{p q r s:Tmp}{t1 t3:TypeId}(h:fn.results=#[.cell p t1,.tmp q,.cell r t3,.tmp s]){tmps:Array Value}{P:Program}{w:World}{a1 a3:Addr}{v1 v2 v3 v4:Value}
 (F:tmps.getD p undef=.pointer (some a1))(R:tmps.getD q undef=v2)(h3:tmps.getD r undef=.pointer (some a3))(h4:tmps.getD s undef=v4)
 (l1:(loadVar t1 a1).run P w=.ok v1 w)(l3:(loadVar t3 a3).run P w=.ok v3 w):(results fn tmps).run P w=.ok (.tuple #[v1,v2,v3,v4]) w:=by
 have e:∀ {p:Tmp} {a:Addr},tmps.getD p undef=.pointer (some a)->asAddr (tmps[p]?.getD undef)=pure a:=λhp=>by
  rw[show tmps[_]?.getD undef=.pointer (some _) by simpa using hp];rfl
 have e2:tmps[q]?.getD undef=v2:=by simpa using R
 have e4:tmps[s]?.getD undef=v4:=by simpa using h4
 simp only[results,h];simp[e F,e h3,e2,e4,iI,Result.andThen,l1,l3]
theorem qt(va vx vf:Value)(a:Ap)(x:Nd)(ln:Nat)(f:Fr)(w:World)(S:Nat->Prop)(hS:∀b,S b->b<w.1.size)(ha:da Y.ap w S va a)(D:da Y.nd w S vx x)(hf:da Y.frame w S vf f)(hP:QA a (V.lR x) ln f):
 Calls prog 55 #[va,vx,(ln:Int),vf] w λy w'=>UF S w (V.pE a (V.lR x) (ln:Int) f) y w':=by
 obtain⟨s,rfl,rfl,rfl,Ha,Hf,Hx,ho,rZ⟩:=SQ ha D hf;replace rZ:=rZ (ln:Int);clear ha D;obtain⟨av,hR⟩:=cJ (V.pE a (V.lR x) (ln:Int) f);obtain⟨C,hC⟩:=cJ (lA a (V.lR x) (ln:Int) f s);have sC:C.size=45:=by rw[<-hC];rfl
 have oC:C.all (·.oneCell')=true:=by rw[<-hC];simp[Value.oneCell']
 rw[hC] at rZ;have jr:(Value.agg (qE s x)).cells=qE s x:=rfl;have SR:(Gu s a).cells=#[.int .i64 a.n,.slice s.gA a.az.length s.gk,.slice s.TA a.T.length s.Tk,.bool a.bF]:=rfl;have NF:(L9 s f).cells=#[.int .i64 f.kind,.int .i64 f.aC,.int .i64 f.seq,.int .i64 f.bB,.slice s.CR f.pieces.length s.CT,.int .i64 f.init,.int .i64 f.num,.int .i64 f.count,.slice s.CS f.path.length s.CU]:=rfl;have sX:(qE s x).size=28:=rfl;obtain⟨X,hX⟩:=cJ (qE s x);rw[hX] at jr rZ sX⊢;obtain⟨vA,qF⟩:=cJ (Gu s a);obtain⟨cA,o4⟩:=cJ (#[Value.int .i64 a.n,.slice s.gA a.az.length s.gk,.slice s.TA a.T.length s.Tk,.bool a.bF]);have eA:vA=.agg cA:=by rw[<-qF,<-o4]
 have sA:cA.size=4:=by rw[<-o4];rfl
 rw[qF] at rZ;rw[qF,o4] at SR;rw[qF];obtain⟨vF,hvF⟩:=cJ (L9 s f);obtain⟨cF,hcF⟩:=cJ (#[Value.int .i64 f.kind,.int .i64 f.aC,.int .i64 f.seq,.int .i64 f.bB,.slice s.CR f.pieces.length s.CT,.int .i64 f.init,.int .i64 f.num,.int .i64 f.count,.slice s.CS f.path.length s.CU]);have eF:vF=.agg cF:=by rw[<-hvF,<-hcF]
 have sF:cF.size=9:=by rw[<-hcF];rfl
 rw[hvF] at rZ;rw[hvF,hcF] at NF;rw[hvF];rw[eF] at rZ NF⊢;rw[eA] at rZ SR⊢;change aK _ at hC hX qF o4 eA hvF hcF eF hS hR;replace ho:=U ho;replace Ha:=U Ha;replace Hf:=U Hf;replace Hx:=U Hx;go_in;go_upto_region 1 with fail
 refine bK λW1 hW=>?_;have ba:G W1 w.1.size cA 27:=G.eqv hW (((((G.kZ _ _ (by simp)).alloc _).alloc _).alloc _).alloc _);have bx:G W1 (w.1.size+1) X 121:=G.eqv hW ((((G.kZ _ _ (by simp)).alloc _).alloc _).alloc _);have bf:G W1 (w.1.size+1+1) cF 149:=G.eqv hW (((G.kZ _ _ (by simp)).alloc _).alloc _);have bg:G W1 (w.1.size+1+1+1) kF 121:=G.eqv hW ((G.kZ _ _ (by simp)).alloc _);have bi:G W1 (w.1.size+1+1+1+1) Ix 157:=G.eqv hW (G.kZ _ _ (by simp));have J:Below w.1.size w W1:=Below.eqv hW (((((cT.alloc (by first |(simp;done)|(simp;omega)) _).alloc (by first |(simp;done)|(simp;omega)) _).alloc (by first |(simp;done)|(simp;omega)) _).alloc (by first |(simp;done)|(simp;omega)) _).alloc (by first |(simp;done)|(simp;omega)) _);clear hW;have zl:w.1.size+5<=W1.1.size:=by have:=bi.lt;omega
 go_upto_region 2 with(first |refine wpList_load_mid rfl 27 (.tmp 4) rfl w.1.size 0 rfl cA.toList _ (ba.bO (n:=4) (by rw[<-sA];simp)) underlying27 rfl (by rw[eK,sA];kernel_rfl) ?_|refine wpList_load_mid rfl 121 (.tmp 5) rfl (w.1.size+1) 0 rfl X.toList _ (bx.bO (n:=28) (by rw[<-sX];simp)) underlying121 rfl (by rw[eK,sX];kernel_rfl) ?_|refine wpList_load_mid rfl 149 (.tmp 7) rfl (w.1.size+1+1) 0 rfl cF.toList _ (bf.bO (n:=9) (by rw[<-sF];simp)) underlying149 rfl (by rw[eK,sF];kernel_rfl) ?_|refine wpList_build rfl 183 _ rfl _ _ rZ (by go_simp) ?_|(refine wpList_store_mid rfl 183 (.tmp 12) (.tmp 17) rfl W1.1.size 0 C rfl rfl ((G.new W1 _ _).cR (by rw[sC];rfl)) (by rw[sC];kernel_rfl) oC ?_;rw[aH]))
 refine bK λW2 hW=>?_;have bw:G W2 W1.1.size C 183:=G.eqv hW ((G.new W1 _ _).cm C (by rw[sC];rfl));have dO:Below W1.1.size W1 W2:=Below.eqv hW (aI bE _ _ _ (cT.alloc bE _));clear hW rZ;have z2:=dO.size;have zw:=bw.lt;replace bg:=bg.next dO;replace bi:=bi.next dO;have ly:Below w.1.size w W2:=dW J dO;obtain⟨q,hq⟩:=cJ W1.1.size;rw[hq] at zl bw dO z2 zw⊢;go_wp2_with fail;refine(UD 82 q S a (ln:Int) f av W2 zw (λb k=>⟨by have:=hS.Z b k;omega,by have:=hS.Z b k;omega⟩) (λ_ _=>by go_simp) λW3 fu=>?_).mono ?_
 ·have HK:=eW.start (bw:=q) Ha.Z Hf.Z Hx.Z ho.Z hS.Z (dW ly fu) (by omega) (by have:=fu.size;omega);rw[<-hR.Z];have b3:=bw.next fu;rw[<-hC.Z] at b3;exact Zd _ q S a (V.lR x) _ f s ln W3 HK b3 rfl hP
 rintro y w4 J4;obtain⟨hK,ae,O,E,e,rfl,sY,sE,oY,oE,hM⟩:=J4.split;clear J4 bw;have z4:=hK.size;replace bg:G w4 _ _ _:=(hK.block _ (by omega) (by omega)).trans bg;replace bi:G w4 _ _ _:=(hK.block _ (by omega) (by omega)).trans bi;go_wp2_with (first |(refine wpList_store_mid rfl 121 (.tmp 8) (.tmp 19) rfl (w.1.size+1+1+1) 0 ae rfl rfl (bg.cR sY.symm) (by rw[sY];kernel_rfl) oY ?_;rw[aH])|(refine wpList_store_mid rfl 157 (.tmp 10) (.tmp 21) rfl (w.1.size+1+1+1+1) 0 E rfl rfl ((bi.gH (by omega) ae.toList).cR sE.symm) (by rw[sE];kernel_rfl) oE ?_;rw[aH]));have Wg:G (cz (cz w4 (w.1.size+1+1+1) 0 ae.toList) (w.1.size+1+1+1+1) 0 E.toList) (w.1.size+1+1+1) ae 121:=(bg.cm ae (by rw[sY];rfl)).gH (by omega) _;have bi2:G (cz (cz w4 (w.1.size+1+1+1) 0 ae.toList) (w.1.size+1+1+1+1) 0 E.toList) (w.1.size+1+1+1+1) E 157:=(bi.gH (by omega) _).cm E (by rw[sE];rfl);refine bL (v:=.tuple #[.agg ae,O,.agg E,e]) (yK results55 rfl rfl rfl rfl (Wg.ju 121 _ underlying121 rfl (by rw[sY];kernel_rfl)) (bi2.ju 157 _ underlying157 rfl (by rw[sE];kernel_rfl))) rfl ?_;have UG:Below w.1.size w w4:=⟨hK.os.trans ly.os,hK.tape.trans ly.tape,hK.output.trans ly.output,by omega,λb k=>(hK.block b (by omega) (by omega)).trans (ly.block b k)⟩;have VS:=aI (b:=w.1.size+1+1+1+1) (by omega:w.1.size<=_) E.toList 0 _ (aI (b:=w.1.size+1+1+1) (by omega) ae.toList 0 _ UG);refine⟨VS,ae,O,E,e,rfl,sY,sE,oY,oE,?_⟩;rw[hR.Z];cases av with
 |error e'=>exact hM
 |ok r=>
  obtain⟨rfl,t,rfl,rfl,rfl,K⟩:=hM.Z;have zz:(cz (cz w4 (w.1.size+1+1+1) 0 (qE t r.x).toList) (w.1.size+1+1+1+1) 0 (NN t r).toList).1.size=w4.1.size:=by rw[bR,bR]
  have NP:=K.move (w':=cz (cz w4 (w.1.size+1+1+1) 0 (qE t r.x).toList) (w.1.size+1+1+1+1) 0 (NN t r).toList) (S':=EW S w.1.size (cz (cz w4 (w.1.size+1+1+1) 0 (qE t r.x).toList) (w.1.size+1+1+1+1) 0 (NN t r).toList)) (λb k=>?_) (λb k=>k.imp id λk=>⟨by omega,by rw[zz];exact k.2⟩)
  ·exact U ⟨rfl,_,_,rfl,NP.nd,NP.ou,NP.fx.ep,NP.fx.eq⟩
  ·have n1:b≠w.1.size+1+1+1:=k.elim (λk=>by have:=hS.Z b k;omega) λk=>by omega
   have n2:b≠w.1.size+1+1+1+1:=k.elim (λk=>by have:=hS.Z b k;omega) λk=>by omega
   rw[bV n2,bV n1]
theorem oR(va vx:Value)(a:Ap)(x:Nd)(ep:Int)(w:World)(S:Nat->Prop)(hS:∀b,S b->b<w.1.size)(ha:da Y.ap w S va a)(D:da Y.nd w S vx x)(hL:a.az.length<=900)(hs:x.h.sized)(iu:x.h.bD.length<=1000)(mJ:Pc.sized (V.jJ a (V.Ch a (V.lR x) ep).x)):
 Calls prog 57 #[va,vx,ep] w λy w'=>UF S w (V.kY a (V.lR x) ep) y w':=by
 obtain⟨s,rfl,rfl,Ha,Hf,Hx,ho,RD,rZ,-⟩:=wX ep ha D;clear ha D;obtain⟨av,hR⟩:=cJ (V.kY a (V.lR x) ep);obtain⟨C,hC⟩:=cJ (lA a (V.lR x) 0 (V.Jw ep) s);have sC:C.size=45:=by rw[<-hC];rfl
 have oC:C.all (·.oneCell')=true:=by rw[<-hC];simp[Value.oneCell']
 rw[hC] at rZ;have jr:(Value.agg (qE s x)).cells=qE s x:=rfl;have SR:(Gu s a).cells=#[.int .i64 a.n,.slice s.gA a.az.length s.gk,.slice s.TA a.T.length s.Tk,.bool a.bF]:=rfl;have sX:(qE s x).size=28:=rfl;obtain⟨X,hX⟩:=cJ (qE s x);rw[hX] at jr rZ sX⊢;obtain⟨vA,qF⟩:=cJ (Gu s a);obtain⟨cA,o4⟩:=cJ (#[Value.int .i64 a.n,.slice s.gA a.az.length s.gk,.slice s.TA a.T.length s.Tk,.bool a.bF]);have eA:vA=.agg cA:=by rw[<-qF,<-o4]
 have sA:cA.size=4:=by rw[<-o4];rfl
 rw[qF] at rZ;rw[qF,o4] at SR;rw[qF];rw[eA] at rZ SR⊢;change aK _ at hC hX qF o4 eA hS hR;replace ho:=U ho;replace Ha:=U Ha;replace Hf:=U Hf;replace Hx:=U Hx;go_in;go_upto_region 1 with fail
 refine nW4 λW1 ba bx bg bi J=>?_;have zl:=bi.lt;go_upto_region 2 with(first |refine wpList_load_mid rfl 27 (.tmp 3) rfl w.1.size 0 rfl cA.toList _ (ba.bO (n:=4) (by rw[<-sA];simp)) underlying27 rfl (by rw[eK,sA];kernel_rfl) ?_|refine wpList_load_mid rfl 121 (.tmp 4) rfl (w.1.size+1) 0 rfl X.toList _ (bx.bO (n:=28) (by rw[<-sX];simp)) underlying121 rfl (by rw[eK,sX];kernel_rfl) ?_|refine wpList_build rfl 183 _ rfl _ _ rZ (by go_simp) ?_|refine wpList_build rfl 149 _ rfl _ _ RD (by go_simp) ?_|(refine wpList_store_mid rfl 183 (.tmp 10) (.tmp 15) rfl W1.1.size 0 C rfl rfl ((G.new W1 _ _).cR (by rw[sC];rfl)) (by rw[sC];kernel_rfl) oC ?_;rw[aH]))
 refine bK λW2 hW=>?_;have bw:G W2 W1.1.size C 183:=G.eqv hW ((G.new W1 _ _).cm C (by rw[sC];rfl));have dO:Below W1.1.size W1 W2:=Below.eqv hW (aI bE _ _ _ (cT.alloc bE _));clear hW rZ RD;have z2:=dO.size;have zw:=bw.lt;replace bg:=bg.next dO;replace bi:=bi.next dO;have ly:Below w.1.size w W2:=dW J dO;obtain⟨q,hq⟩:=cJ W1.1.size;rw[hq] at zl bw dO z2 zw⊢;go_wp2_with fail;refine(UD 84 q S a 0 (V.Jw ep) av W2 zw (λb k=>⟨by have:=hS.Z b k;omega,by have:=hS.Z b k;omega⟩) (λ_ _=>by go_simp) λW3 fu=>?_).mono ?_
 ·have HK:=eW.start (bw:=q) Ha.Z Hf.Z Hx.Z ho.Z hS.Z (dW ly fu) (by omega) (by have:=fu.size;omega);rw[<-hR.Z];have b3:=bw.next fu;rw[<-hC.Z] at b3;exact(We _ q S a (V.lR x) 0 (V.Jw ep) s W3 HK b3 (by omega) (by show 0+_<=_;omega) hs iu mJ).mono λ_ _ h=>h.end_
 rintro y w4 J4;obtain⟨hK,ae,O,E,e,rfl,sY,sE,oY,oE,hM⟩:=J4.split;clear J4 bw;have z4:=hK.size;replace bg:G w4 _ _ _:=(hK.block _ (by omega) (by omega)).trans bg;replace bi:G w4 _ _ _:=(hK.block _ (by omega) (by omega)).trans bi;go_wp2_with (first |(refine wpList_store_mid rfl 121 (.tmp 6) (.tmp 17) rfl (w.1.size+1+1) 0 ae rfl rfl (bg.cR sY.symm) (by rw[sY];kernel_rfl) oY ?_;rw[aH])|(refine wpList_store_mid rfl 157 (.tmp 8) (.tmp 19) rfl (w.1.size+1+1+1) 0 E rfl rfl ((bi.gH (by omega) ae.toList).cR sE.symm) (by rw[sE];kernel_rfl) oE ?_;rw[aH]));have Wg:G (cz (cz w4 (w.1.size+1+1) 0 ae.toList) (w.1.size+1+1+1) 0 E.toList) (w.1.size+1+1) ae 121:=(bg.cm ae (by rw[sY];rfl)).gH (by omega) _;have bi2:G (cz (cz w4 (w.1.size+1+1) 0 ae.toList) (w.1.size+1+1+1) 0 E.toList) (w.1.size+1+1+1) E 157:=(bi.gH (by omega) _).cm E (by rw[sE];rfl);refine bL (v:=.tuple #[.agg ae,O,.agg E,e]) (yK results57 rfl rfl rfl rfl (Wg.ju 121 _ underlying121 rfl (by rw[sY];kernel_rfl)) (bi2.ju 157 _ underlying157 rfl (by rw[sE];kernel_rfl))) rfl ?_;have UG:Below w.1.size w w4:=⟨hK.os.trans ly.os,hK.tape.trans ly.tape,hK.output.trans ly.output,by omega,λb k=>(hK.block b (by omega) (by omega)).trans (ly.block b k)⟩;have VS:=aI (b:=w.1.size+1+1+1) (by omega:w.1.size<=_) E.toList 0 _ (aI (b:=w.1.size+1+1) (by omega) ae.toList 0 _ UG);refine⟨VS,ae,O,E,e,rfl,sY,sE,oY,oE,?_⟩;rw[hR.Z];cases av with
 |error e'=>exact hM
 |ok r=>
  obtain⟨rfl,t,rfl,rfl,rfl,K⟩:=hM.Z;have zz:(cz (cz w4 (w.1.size+1+1) 0 (qE t r.x).toList) (w.1.size+1+1+1) 0 (NN t r).toList).1.size=w4.1.size:=by rw[bR,bR]
  have NP:=K.move (w':=cz (cz w4 (w.1.size+1+1) 0 (qE t r.x).toList) (w.1.size+1+1+1) 0 (NN t r).toList) (S':=EW S w.1.size (cz (cz w4 (w.1.size+1+1) 0 (qE t r.x).toList) (w.1.size+1+1+1) 0 (NN t r).toList)) (λb k=>?_) (λb k=>k.imp id λk=>⟨by omega,by rw[zz];exact k.2⟩)
  ·exact U ⟨rfl,_,_,rfl,NP.nd,NP.ou,NP.fx.ep,NP.fx.eq⟩
  ·have n1:b≠w.1.size+1+1:=k.elim (λk=>by have:=hS.Z b k;omega) λk=>by omega
   have n2:b≠w.1.size+1+1+1:=k.elim (λk=>by have:=hS.Z b k;omega) λk=>by omega
   rw[bV n2,bV n1]
end Go.Proofs.YtmgahjkopiaglaaGreat
