/- Lemmas, walks and contracts by which the statement is proved. -/
import Derived.Test.YtmgahjkopiaglaaGreatK3
set_option maxRecDepth 100000
set_option maxHeartbeats 16000000
set_option linter.all false
namespace Go.Proofs.YtmgahjkopiaglaaGreat
open Go.RowKit Go.Proofs.Tryz
section
variable{P:Program}{ops:Array Oper}{ao:Exit->Act->World->Prop}{md:Region.Mode}
def wB:Op->Bool
 | .move _| .assign _| .pick ..| .load ..| .fieldAddr ..| .field ..| .indexAddr ..| .index ..| .slice ..| .extract ..| .makeFunc ..| .makeInterface ..| .build ..| .unOp ..=>true
 | .call {callee:=.builtin .len,..}| .call {callee:=.builtin .cap,..}=>true
 |_=>false
def Al:Op->Bool
 | .alloc _| .box ..| .buildSlice ..=>true
 | .call {callee:=.builtin .min,..}| .call {callee:=.builtin .max,..}=>true
 |o=>wB o
theorem AZ{o:Oper}(h:wB o.op=true)(ρ:Operand->Value):∃s:Sem Value,aR P s/\execOp ρ o=(s>>=λv=>pure (Next.value v)):=by
 obtain⟨dst,op,type,pos,after,guard⟩:=o;dsimp only at h;cases op<;>simp only[wB,tC] at h<;>unfold execOp<;>dsimp only
 case move x=>exact⟨pure (ρ x),aR.pure _,rfl⟩
 case assign x=>exact⟨pure (ρ x),aR.pure _,rfl⟩
 case pick c a b=>
  refine⟨(do pure (if <-asBool (ρ c) then ρ a else ρ b)),aR.bind (aR.asBool _) λb=>aR.pure _,?_⟩;simp
 case load=>exact⟨_,aR.loadAt _ _,rfl⟩
 case fieldAddr=>exact⟨_,aR.fieldAt _ _ _,rfl⟩
 case field=>exact⟨_,aR.field _ _ _,rfl⟩
 case indexAddr=>exact⟨_,aR.indexAt _ _ _,rfl⟩
 case index=>exact⟨_,aR.index _ _ _,rfl⟩
 case slice=>exact⟨_,aR.sliceAt _ _ _ _ _,rfl⟩
 case extract=>exact⟨_,aR.extract _ _,rfl⟩
 case makeFunc=>exact⟨_,aR.pure _,rfl⟩
 case makeInterface=>exact⟨_,aR.makeInterface _ _,rfl⟩
 case build=>exact⟨_,aR.build _ _,rfl⟩
 case unOp=>exact⟨_,aR.unary _ _,rfl⟩
 case call c=>
  obtain⟨callee,args,ats⟩:=c;cases callee with
  |builtin b=>
   cases b<;>simp at h
   ·exact⟨_,aR.cap ats type (args.map ρ),rfl⟩
   ·exact⟨_,aR.len ats type (args.map ρ),rfl⟩
  |invoke _ _=>simp at h
  |value _=>simp at h
theorem JI{o:Oper}(h:Al o.op=true)(ρ:Operand->Value):∃s:Sem Value,fN P s/\execOp ρ o=(s>>=λv=>pure (Next.value v)):=by
 by_cases hr:wB o.op=true
 ·obtain⟨s,F,R⟩:=AZ (P:=P) hr ρ;exact⟨s,F.grow,R⟩
 ·obtain⟨dst,op,type,pos,after,guard⟩:=o;dsimp only at h hr;cases op<;>(first |exact absurd h hr|skip)
  case alloc=>exact⟨_,fN.alloc _,rfl⟩
  case box=>exact⟨_,fN.box _ _,rfl⟩
  case buildSlice=>exact⟨_,fN.buildSlice _ _ _,rfl⟩
  case call c=>
   obtain⟨callee,args,ats⟩:=c;cases callee with
   |builtin b=>
    cases b<;>(first |exact absurd h hr|skip)
    ·exact⟨_,fN.max_ ats type (args.map ρ),rfl⟩
    ·exact⟨_,fN.min_ ats type (args.map ρ),rfl⟩
   |invoke _ _=>exact absurd h hr
   |value _=>exact absurd h hr
def dI(av:Act->World->Prop):Exit->Act->World->Prop
 | .normal,a,w=>av a w
 |_,_,_=>False
theorem uP{av:Act->World->Prop}(h:LetsOut (dI av)):False:=by obtain⟨_,_,h⟩:=h;exact h
theorem JJ{av:Act->World->Prop}{o:Oper}{aj:Act->World->Prop}{a:Act}{r:Result Next}(h:o.upon P a aj (dI av) r):o.upon P a aj ao r:=by
 cases r with
 |ok n w=>
  cases n<;>simp only[Oper.upon] at h⊢<;>try exact h
  exact Calls.mono h λe w' he=>by
   cases e with
   |returned v=>exact he
   |panicked c=>exact he.elim
   |outgrown=>exact(uP he).elim
 |halt x w=>
  cases x<;>simp only[Oper.upon] at h⊢<;>try exact h
  exact h.elim
theorem Pb{av:Act->World->Prop}{o:Oper}{aj:Act->World->Prop}{a:Act}{w:World}(h:o.wp P a w aj (dI av)):o.wp P a w aj ao:=JJ h
theorem qP{av:Act->World->Prop}{i:Nat}{aj:Act->World->Prop}{a:Act}{w:World}(h:wpOp P ops (dI av) i aj a w):wpOp P ops ao i aj a w:=by
 unfold wpOp at *;split
 ·rename_i ho;simpa[ho] using h
 ·rename_i o ho;simp only[ho] at h;split
  ·rename_i hw;rw[aS hw] at h;rcases h with h|⟨_,R⟩
   ·exact .inl (Pb h)
   ·exact(uP R).elim
  ·rename_i hw;rw[aO hw] at h;exact h
theorem JK{j:Nat}{o:Oper}{aj:Act->World->Prop}{a:Act}{w:World}(hj:ops[j]?=some o)(hg:Al o.op=true)(h:wpOp P ops ao j aj a w):wpOp P ops ao j (λa' w'=>aj a' w'/\Ext w w') a w:=by
 unfold wpOp at *;simp only[hj] at *;split
 ·rename_i hw;rw[aS hw] at h;rcases h with h|h
  ·refine .inl ?_;obtain⟨s,hs,he⟩:=JI (P:=P) hg a.eval;unfold Oper.wp at *;rw[he,iI] at h⊢;cases hr:s.run P w with
   |ok v w1=>
    rw[hr] at h;exact⟨h,hs w v w1 hr⟩
   |halt x w1=>
    rw[hr] at h;simp only[Result.andThen_halt] at h⊢;cases x<;>simp only[Oper.upon] at h⊢<;>exact h
  ·exact .inr h
 ·rename_i hw;rw[aO hw] at h;exact⟨h,Ext.refl _⟩
def aV(P:Program)(md:Region.Mode)(ops:Array Oper)(ao:Exit->Act->World->Prop)(M:Nat)(w0:World):Nat->Array Bool->Act->World->Prop
 |0,eb,a,w=>Region.ready md ops eb=[]/\ao .normal a w
 |fuel+1,eb,a,w=>(Region.ready md ops eb=[]->ao .normal a w)/\
  ∀i∈Region.ready md ops eb,wpOp P ops ao i (λa' w'=>(M.testBit i=true->Ext w0 w')/\aV P md ops ao M w0 fuel (eb.setIfInBounds i true) a' w') a w
theorem Ba{M:Nat}{w0:World}:∀(fuel:Nat)(eb:Array Bool)(a:Act)(w:World),aV P md ops ao M w0 fuel eb a w->wpAny P md ops ao fuel eb a w
 |0,_,_,_,h=>h
 |fuel+1,_,_,_,h=>⟨h.1,λi hi=>mD (λa' w' h'=>Ba fuel _ a' w' h'.2) (h.2 i hi)⟩
theorem GO{M:Nat}{wM:World}{i:Nat}{oi:Oper}{v:Value}(hi:ops[i]?=some oi)(Ye:∀(j:Nat)(o:Oper) cs b,ops[j]?=some o->o.op≠.select cs b)
 (hQ:∀c a w,ao (.panic c) (a.put oi.dst v) w->ao (.panic c) a w)(Bb:M.testBit i=false)(Wt:Nat->Prop)(hW:∀j oj,ops[j]?=some oj->Wt j->∃e∈oj.after,Region.binds md e=true/\(e.on=i\/Wt e.on))(w0:World)(ok:Nat->Prop)(iZ:∀j,ok j->M.testBit j=true/\w0=wM):
 ∀(fuel:Nat)(eb:Array Bool)(a:Act)(w:World),(∀j,Wt j->eb.getD j false=false)->eb.getD i false=false->
  (∀j oj,ops[j]?=some oj->j≠i->eb.getD j true=false->¬Wt j->oi.apart ops oj=true/\(Al oj.op=true\/ok j))->
  i∈Region.ready md ops eb->YieldsIf P ops (Ext w0) oi v a->Ext w0 w->
  aV P md ops ao M wM fuel (eb.setIfInBounds i true) (a.put oi.dst v) w->aV P md ops ao M wM (fuel+1) eb a w:=by
 intro fuel;induction fuel with
 |zero=>
  intro eb a w _ _ _ hr hy he ar;refine⟨λh=>(by rw[h] at hr;cases hr),λj hj=>?_⟩;by_cases C5:j=i
  ·subst C5;exact hy.wpOp hi he ⟨λhm=>(by rw[Bb] at hm;cases hm),ar⟩
  ·have:=tN hj C5;rw[ar.1] at this;cases this
 |succ fuel ih=>
  intro eb a w hWt U5 GP hr hy he ar;refine⟨λh=>(by rw[h] at hr;cases hr),λj hj=>?_⟩;by_cases C5:j=i
  ·subst C5;exact hy.wpOp hi he ⟨λhm=>(by rw[Bb] at hm;cases hm),ar⟩
  ·have F:=ar.2 j (tN hj C5);obtain⟨hjun,oj,MB,fg⟩:=mem_ready.1 hj;have hnW:¬Wt j:=by
    intro hw;obtain⟨e,ur,I,R⟩:=hW j oj MB hw;have h3:=fg e ur I;rcases R with R|R
    ·rw[R,U5] at h3;cases h3
    ·rw[hWt _ R] at h3;cases h3
   obtain⟨mZ,DB⟩:=GP j oj MB C5 hjun hnW;have R:=wpOp_putIf MB mZ (λcs b=>Ye i oi cs b hi) (λcs b=>Ye j oj cs b MB) hQ hy F;have U6:∀k,k≠j->∀d,(eb.setIfInBounds j true).getD k d=eb.getD k d:=λk Q d=>getD_set_ne d (fT Q);have fin:∀a' w',(YieldsIf P ops (Ext w0) oi v a'/\((M.testBit j=true->Ext wM w')/\aV P md ops ao M wM fuel ((eb.setIfInBounds i true).setIfInBounds j true) (a'.put oi.dst v) w'))/\Ext w0 w'->(M.testBit j=true->Ext wM w')/\aV P md ops ao M wM (fuel+1) (eb.setIfInBounds j true) a' w':=by
    intro a' w' h3;refine⟨h3.1.2.1,ih (eb.setIfInBounds j true) a' w' (λk Q=>?_) ?_ (λk ok' Q MC Yf hnk=>?_) (tN hr (fT C5)) h3.1.1 h3.2 ?_⟩
    ·rw[U6 k (by rintro rfl;exact hnW Q)];exact hWt k Q
    ·rw[U6 i (fT C5)];exact U5
    ·refine GP k ok' Q MC ?_ hnk;by_cases Pd:k=j
     ·subst Pd;exact hjun
     ·rw[U6 k Pd] at Yf;exact Yf
    ·rw[Array.setIfInBounds_comm _ _ C5];exact h3.1.2.2
   rcases DB with DB|DB
   ·exact mD (λa' w' h3=>fin a' w' ⟨h3.1,he.trans h3.2⟩) (JK MB DB R)
   ·obtain⟨hMj,rfl⟩:=iZ j DB;exact mD (λa' w' h3=>fin a' w' ⟨h3,h3.2.1 hMj⟩) R
theorem l7{M:Nat}{wM:World}{rs:List Nat}{fuel:Nat}{eb:Array Bool}{a:Act}{w:World}(hr:Region.ready md ops eb=rs)(fz:rs≠[])
 (h:∀i∈rs,wpOp P ops ao i (λa' w'=>(M.testBit i=true->Ext wM w')/\aV P md ops ao M wM fuel (eb.setIfInBounds i true) a' w') a w):aV P md ops ao M wM (fuel+1) eb a w:=
 ⟨λh0=>absurd (hr▸h0) fz,hr▸h⟩
theorem GQ{M:Nat}{wM:World}{eb:Array Bool}{a:Act}{w:World}(hr:Region.ready md ops eb=[])(h:ao .normal a w):∀fuel,aV P md ops ao M wM fuel eb a w
 |0=>⟨hr,h⟩
 |_+1=>⟨λ_=>h,by rw[hr];simp⟩
def JL(i:Nat):List Nat->Nat->Nat->Nat
 |[],_,acc=>acc
 |em::t,j,acc=>JL i t (j+1) (if em&&& (acc|||2^i)==0 then acc else acc|||2^j)
def LJ(C6:List Nat)(i W mask:Nat):Bool:=(W&&& (mask|||2^i)==0)&&(List.range C6.length).all λj=> !W.testBit j|| !((C6.getD j 0)&&& (W|||2^i)==0)
def Bc(l:List Oper)(C6:List Nat)(X mask i:Nat):Bool:=
 (ff mask C6 0).contains i&&((l[i]?).map λo=>wB o.op).getD false&& !mask.testBit i&& !X.testBit i&&
  (λW=>LJ C6 i W mask&&(List.range l.length).all λj=>j==i||mask.testBit j||W.testBit j||(match l[i]?,l[j]? with |some oi,some oj=>oi.apart l.toArray oj&&(Al oj.op||X.testBit j)|_,_=>false)) (JL i C6 0 0 % 2^l.length)
def DC(l:List Oper)(C6:List Nat)(M:Nat):Nat->List Nat->Bool
 |_,[]=>true
 |mask,i::rest=>Bc l C6 M mask i&&DC l C6 M (mask|||2^i) rest
def DE(l:List Oper)(C6:List Nat)(M:Nat):Nat->List Nat->Bool
 |_,[]=>true
 |mask,i::rest=>((ff mask C6 0==[i])&& !M.testBit i||Bc l C6 0 mask i&& !M.testBit i)&&DE l C6 M (mask|||2^i) rest
theorem E7{o:Oper}{k:Nat}(h:(bW md o).testBit k=true):∃e∈o.after,Region.binds md e=true/\e.on=k:=by
 unfold bW at h;have:∀es:List Edge,(es.foldr (λ(e:Edge) s=>2^e.on|||s) 0).testBit k=true->∃e∈es,e.on=k:=by
  intro es;induction es with
  |nil=>intro h;simp at h
  |cons x t ih=>
   intro h;simp only[List.foldr_cons,pO,lY,si,dC] at h;rcases h with h|h
   ·exact⟨x,by simp,h⟩
   ·obtain⟨e,he,Q⟩:=ih h;exact⟨e,by simp[he],Q⟩
 obtain⟨e,he,Q⟩:=this _ h;simp only[List.mem_filter,Array.mem_toList_iff] at he;exact⟨e,he.1,he.2,Q⟩
theorem R0{a b:Nat}(h:(a&&& b==0)=false):∃k,a.testBit k=true/\b.testBit k=true:=by
 have h':a&&& b≠0:=by simpa using h
 obtain⟨k,Q⟩:=Nat.exists_testBit_of_ne_zero h';rw[wg,cQ] at Q;exact⟨k,Q⟩
theorem and_zero{a b k:Nat}(h:(a&&& b==0)=true)(ha:a.testBit k=true):b.testBit k=false:=by
 have h':a&&& b=0:=by simpa using h
 have:=fS (·.testBit k) h';simp only[wg,ha,pP,Nat.zero_testBit] at this;exact this
theorem Bd{M:Nat}{wM:World}{l:List Oper}{mask i X:Nat}(hs:Region.noSelect l.toArray=true)(iu:et l=true)(hQ:∀c a d v w,ao (.panic c) (a.put (some d) v) w->ao (.panic c) a w)(pd:i<l.length)
 (iZ:Bc l (l.map (bW md)) X mask i=true)(Bb:M.testBit i=false){f:Nat}{a:Act}{w:World}(hX:∀j,X.testBit j=true->M.testBit j=true/\w=wM)
 {aj:Act->World->Prop}{av:Act->World->Prop}(hK:∀v,aj (a.put l[i].dst v) w->aV P md l.toArray ao M wM f (dH l.length (mask|||2^i)) (a.put l[i].dst v) w)
 (h:wpOp P l.toArray (dI av) i aj a w):aV P md l.toArray ao M wM (f+1) (dH l.length mask) a w:=by
 simp only[Bc,cQ,eT,ke,lY,nT,mz] at iZ;obtain⟨⟨⟨⟨k1,k2⟩,k3⟩,_⟩,k4,k5⟩:=iZ;generalize hW:JL i (l.map (bW md)) 0 0 % 2^l.length=W at k4 k5;have hoi:l.toArray[i]?=some l[i]:=by simp[pd]
 have Yg:l[i]?=some l[i]:=by simp[pd]
 rw[Yg] at k2;simp only[we,pM] at k2;simp only[LJ,cQ,eT,ke,lY,nT] at k4;obtain⟨k6,k7⟩:=k4;have U5:(dH l.length mask).getD i false=false:=by rw[nM _ _ _ _ pd];exact k3
 have key:∀v,YieldsIf P l.toArray (Ext w) l[i] v a->aj (a.put l[i].dst v) w->aV P md l.toArray ao M wM (f+1) (dH l.length mask) a w:=by
  intro v hy hr;refine GO hoi (Region.noSelect_spec hs) (λc a w hq=>?_) Bb (λj=>W.testBit j=true) (λj oj hj hw=>?_) w (λj=>X.testBit j=true) hX f _ a w (λj hj=>?_) U5 (λj oj hj C5 hju hnw=>?_) ?_ hy (Ext.refl w) (by rw[pY _ _ _ pd];exact hK v hr)
  ·cases hd:l[i].dst with
   |none=>rw[hd] at hq;exact hq
   |some d=>rw[hd] at hq;exact hQ c a d v w hq
  ·have wC:j<l.length:=by have:=(xv.1 hj).1;simpa using this
   have MB:oj=l[j]:=by simp[wC] at hj;exact hj.symm
   subst MB;have h3:=(k7 j (by simpa using wC)).resolve_left (by simp[hw]);have e1:(l.map (bW md)).getD j 0=bW md l[j]:=by simp[List.getD,wC]
   rw[e1] at h3;obtain⟨k,uu,wD⟩:=R0 h3;obtain⟨e,he,I,cW⟩:=E7 uu;refine⟨e,he,I,?_⟩;rw[cW];rw[pO,lY,si,dC] at wD;rcases wD with wD|wD
   ·exact .inr wD
   ·exact .inl wD.symm
  ·have h3:=and_zero (k:=j) k6 hj;rw[pO,EV] at h3;by_cases wC:j<l.length
   ·rw[nM _ _ _ _ wC];exact h3.1
   ·exact C0 _ _ _ _ wC
  ·have wC:j<l.length:=by have:=(xv.1 hj).1;simpa using this
   have MB:oj=l[j]:=by simp[wC] at hj;exact hj.symm
   subst MB;rw[nM _ _ _ _ wC] at hju;have h3:=k5 j wC;have e2:l[j]?=some l[j]:=by simp[wC]
   rw[Yg,e2] at h3;rcases h3 with((h3|h3)|h3)|h3
   ·exact absurd h3 C5
   ·rw[hju] at h3;cases h3
   ·exact absurd h3 hnw
   ·simpa[cQ] using h3
  ·rw[jg l mask iu];simpa using k1
 unfold wpOp at h;simp only[hoi] at h;by_cases hw:Region.wanted l[i] (yielded l.toArray a.tmps)=true
 ·rw[aS hw] at h;rcases h with h|⟨_,h⟩
  ·obtain⟨s,gw,he⟩:=AZ (P:=P) k2 a.eval;unfold Oper.wp at h;cases hr:s.run P w with
   |ok v w1=>
    have e3:=gw w v w1 hr w (Ext.refl w);rw[hr] at e3;injection e3 with _ e3
    subst e3;rw[he,iI,hr] at h;refine key v (.inl ⟨hw,λw' D=>?_⟩) h;rw[he,iI,gw _ v _ hr w' D];rfl
   |halt x w1=>
    rw[he,iI,hr] at h;simp only[Result.andThen_halt] at h;cases x<;>simp only[Oper.upon] at h<;>exact h.elim
  ·exact(uP h).elim
 ·rw[aO hw] at h;exact key undef (.inr ⟨by simpa using hw,rfl⟩) h
theorem sw(M mask:Nat)(fw:List Nat)(dz ig:Nat){l:List Oper}(hs:Region.noSelect l.toArray=true)(iu:et l=true)(hQ:∀c a d v w,ao (.panic c) (a.put (some d) v) w->ao (.panic c) a w){fuel:Nat}{a:Act}{w:World}
 (fg:(fw.all λi=>decide (i<l.length))=true)(hf:fuel=ig+fw.length)(hm:fw.foldl (λs i=>s|||2^i) mask=dz)
 (iZ:DC l (l.map (bW md)) M mask fw=true)(h:wpList P l.toArray (dI λa w'=>w=w'->aV P md l.toArray ao M w ig (dH l.length dz) a w) (fw.map λi=>l.getD i default) a w):aV P md l.toArray ao M w fuel (dH l.length mask) a w:=by
 have h':=pZ l fw a w fg h;clear h;induction fw generalizing mask a fuel with
 |nil=>
  simp only[List.foldl_nil] at hm;subst hm;simp only[nj,iS] at hf;subst hf;exact h' rfl
 |cons i rest ih=>
  simp only[tH,cQ,dC] at fg;obtain⟨pd,fg⟩:=fg;simp only[fF] at hf;obtain⟨f,rfl⟩:∃f,fuel=f+1:=⟨ig+rest.length,by omega⟩;simp only[DC,cQ] at iZ;obtain⟨F,R⟩:=iZ;have Bb:M.testBit i=false:=by
   have:=F;simp only[Bc,cQ,nT] at this;exact this.1.2
  rw[tM] at h';exact Bd (X:=M) hs iu hQ pd F Bb (λj hj=>⟨hj,rfl⟩) (λv hr=>ih _ fg (by omega) hm R hr) h'
theorem Be(M:Nat)(mask:Nat)(fw:List Nat)(dz ig:Nat){wM:World}{l:List Oper}(hs:Region.noSelect l.toArray=true)(iu:et l=true)(hQ:∀c a d v w,ao (.panic c) (a.put (some d) v) w->ao (.panic c) a w){fuel:Nat}{a:Act}{w:World}
 (fg:(fw.all λi=>decide (i<l.length))=true)(hf:fuel=ig+fw.length)(hm:fw.foldl (λs i=>s|||2^i) mask=dz)
 (iZ:DE l (l.map (bW md)) M mask fw=true)(h:wpList P l.toArray (dI λa w=>aV P md l.toArray ao M wM ig (dH l.length dz) a w) (fw.map λi=>l.getD i default) a w):aV P md l.toArray ao M wM fuel (dH l.length mask) a w:=by
 have h':=pZ l fw a w fg h;clear h;induction fw generalizing mask a w fuel with
 |nil=>
  simp only[List.foldl_nil] at hm;subst hm;simp only[nj,iS] at hf;subst hf;exact h'
 |cons i rest ih=>
  simp only[tH,cQ,dC] at fg;obtain⟨pd,fg⟩:=fg;simp only[fF] at hf;obtain⟨f,rfl⟩:∃f,fuel=f+1:=⟨ig+rest.length,by omega⟩;simp only[DE,cQ,lY,nT] at iZ;obtain⟨F,R⟩:=iZ;rw[tM] at h';rcases F with⟨F,Bb⟩|⟨F,Bb⟩
  ·have xk:=mz.1 F;rw[<-jg l mask iu] at xk;refine l7 xk (by simp) (λj hj=>?_);obtain rfl:j=i:=by simpa using hj
   refine mD (λa w hr=>⟨λhm=>(by rw[Bb] at hm;cases hm),?_⟩) (qP h');rw[pY _ _ _ pd];exact ih _ fg (by omega) hm R hr
  ·exact Bd (X:=0) hs iu hQ pd F Bb (λj hj=>by simp at hj) (λv hr=>ih _ fg (by omega) hm R hr) h'
theorem eU(M:Nat){id:Nat}{l:List Oper}{a:Act}{w:World}(hm:P.follows .mixedOrders=true)(h:aV P .any l.toArray ao M w.drew l.length (dH l.length 0) a w.drew):(Code.region id l.toArray true).wp P ao a w:=by
 refine wp_region_any hm (Ba (M:=M) (w0:=w.drew) _ _ _ _ ?_);rw[jN,Mz];exact h
theorem mL(i:Nat){M:Nat}{wM:World}{l:List Oper}{oi:Oper}{v:Value}{fuel mask dz:Nat}{a:Act}{w:World}(hi:l[i]?=some oi)(iu:et l=true)(hm:mask|||2^i=dz)
 (hs:Region.noSelect l.toArray=true)(hf:Region.free md l.toArray (dH l.length mask) i=true)(hr:(ff mask (l.map (bW md)) 0).contains i=true)(Bb:M.testBit i=false)
 (hQ:∀c a w,ao (.panic c) (a.put oi.dst v) w->ao (.panic c) a w)(hy:Yields P l.toArray oi v a)
 (h:aV P md l.toArray ao M wM fuel (dH l.length dz) (a.put oi.dst v) w):aV P md l.toArray ao M wM (fuel+1) (dH l.length mask) a w:=by
 subst hm;have pd:=(eD.1 hi).1;have AU:l.toArray[i]?=some oi:=by simpa using hi
 have h0:aV P md l.toArray ao M wM fuel ((dH l.length mask).setIfInBounds i true) (a.put oi.dst v) w:=by rw[pY _ _ _ pd];exact h
 have CK:i∈Region.ready md l.toArray (dH l.length mask):=by rw[jg l mask iu];simpa using hr
 clear h hr;revert hf CK h0;generalize dH l.length mask=eb;intro hf h0 CK;have GP:=Region.free_spec (md:=md) AU hf;clear hf;induction fuel generalizing eb a w with
 |zero=>
  refine⟨λh=>(by rw[h] at CK;cases CK),λj hj=>?_⟩;by_cases C5:j=i
  ·subst C5;exact(Yields.yieldsIf (S:=λ_=>True) hy).wpOp AU trivial ⟨λhm=>(by rw[Bb] at hm;cases hm),h0⟩
  ·have:=tN hj C5;rw[h0.1] at this;cases this
 |succ fuel ih=>
  refine⟨λh=>(by rw[h] at CK;cases CK),λj hj=>?_⟩;by_cases C5:j=i
  ·subst C5;exact(Yields.yieldsIf (S:=λ_=>True) hy).wpOp AU trivial ⟨λhm=>(by rw[Bb] at hm;cases hm),h0⟩
  ·have F:=h0.2 j (tN hj C5);obtain⟨hjun,oj,MB,fg⟩:=mem_ready.1 hj;have MD:∀e∈oj.after,Region.binds md e=true->e.on≠i:=λe he I heq=>by
    have F:=fg e he I;have R:=(mem_ready.1 CK).1;rw[heq] at F;rcases pQ i eb.size with h'|h'
    ·simp[h'] at R F;rw[R] at F;cases F
    ·simp[Array.getElem?_eq_none h'] at F
   have R:=wpOp_putIf MB (GP j oj MB C5 hjun MD) (λcs b=>Region.noSelect_spec hs i oi cs b AU) (λcs b=>Region.noSelect_spec hs j oj cs b MB) hQ (Yields.yieldsIf (S:=λ_=>True) hy) F;refine mD (λa' w' h3=>⟨h3.2.1,?_⟩) R;refine ih ?_ (eb.setIfInBounds j true) ?_ (tN CK (fT C5)) ?_
   ·exact h3.1.imp (λ⟨q1,q2⟩=>⟨q1,λw=>q2 w trivial⟩) id
   ·rw[Array.setIfInBounds_comm _ _ C5];exact h3.2.2
   ·intro k ok Q MC U5 uf;refine GP k ok Q MC ?_ uf;by_cases Pd:j=k
    ·subst Pd;exact hjun
    ·rw[getD_set_ne true Pd] at U5;exact U5
theorem uQ{M:Nat}{wM:World}{l:List Oper}{fuel mask:Nat}{a:Act}{w:World}(iu:et l=true)(hr:(ff mask (l.map (bW md)) 0).isEmpty=true)(h:ao .normal a w):aV P md l.toArray ao M wM fuel (dH l.length mask) a w:=
 GQ (by rw[jg l mask iu];simpa using hr) h _
theorem ME{M:Nat}{wM:World}{l:List Oper}{fuel mask k:Nat}{a:Act}{w:World}(Q:k<l.length)
 (h:wpList P l.toArray (dI λa w=>(M.testBit k=true->Ext wM w)/\aV P md l.toArray ao M wM fuel (dH l.length (mask|||2^k)) a w) [l.getD k default] a w):
 wpOp P l.toArray ao k (λa' w'=>(M.testBit k=true->Ext wM w')/\aV P md l.toArray ao M wM fuel ((dH l.length mask).setIfInBounds k true) a' w') a w:=by
 have h':=pZ l [k] a w (by simp[Q]) h;rw[tM] at h';rw[pY _ _ _ Q];exact mD (λa' w' hh=>hh) (qP h')
theorem uR(i dz:Nat){M:Nat}{wM:World}{l:List Oper}{fuel mask:Nat}{a:Act}{w:World}(iu:et l=true)(hr:(ff mask (l.map (bW md)) 0==[i])=true)(pd:i<l.length)(hm:mask|||2^i=dz)
 (F:wpList P l.toArray (dI λa w=>(M.testBit i=true->Ext wM w)/\aV P md l.toArray ao M wM fuel (dH l.length dz) a w) [l.getD i default] a w):aV P md l.toArray ao M wM (fuel+1) (dH l.length mask) a w:=by
 subst hm;have Pe:=mz.1 hr;rw[<-jg l mask iu] at Pe;refine l7 Pe (by simp) (λk Q=>?_);obtain rfl:k=i:=by simpa using Q
 exact ME pd F
theorem Bf(i j m1 m2:Nat){M:Nat}{wM:World}{l:List Oper}{fuel mask:Nat}{a:Act}{w:World}(iu:et l=true)(hr:(ff mask (l.map (bW md)) 0==[i,j])=true)(pd:i<l.length)(wC:j<l.length)(lu:mask|||2^i=m1)(xH:mask|||2^j=m2)
 (F:wpList P l.toArray (dI λa w=>(M.testBit i=true->Ext wM w)/\aV P md l.toArray ao M wM fuel (dH l.length m1) a w) [l.getD i default] a w)
 (R:wpList P l.toArray (dI λa w=>(M.testBit j=true->Ext wM w)/\aV P md l.toArray ao M wM fuel (dH l.length m2) a w) [l.getD j default] a w):aV P md l.toArray ao M wM (fuel+1) (dH l.length mask) a w:=by
 subst lu xH;have Pe:=mz.1 hr;rw[<-jg l mask iu] at Pe;refine l7 Pe (by simp) (λk Q=>?_);simp only[jQ,List.not_mem_nil,or_false] at Q;rcases Q with rfl |rfl
 ·exact ME pd F
 ·exact ME wC R
theorem df{M:Nat}{wM w1:World}(he:Ext wM w1):∀(fuel:Nat)(eb:Array Bool)(a:Act)(w:World),aV P md ops ao M w1 fuel eb a w->aV P md ops ao M wM fuel eb a w
 |0,_,_,_,h=>h
 |fuel+1,_,_,_,h=>⟨h.1,λi hi=>mD (λa' w' h'=>⟨λhm=>he.trans (h'.1 hm),df he fuel _ a' w' h'.2⟩) (h.2 i hi)⟩
theorem Ext.below{w w':World}{B:Nat}(h:Below B w w')(J:w.1.size<=B):Ext w w':=⟨h.size,λb I=>h.block b (by omega)⟩
end
end Go.Proofs.YtmgahjkopiaglaaGreat
namespace Go.Proofs.YtmgahjkopiaglaaGreat
open Go.RowKit Go.Proofs.Tryz
namespace Pc
end Pc
section
variable{av gp:Nat}{W w w':World}{cs:Array Value}{a b c d e f:Value}
end
section
variable{gp:Nat}{W wc w w':World}{cs:Array Value}{a b c d e f:Value}
end
section
variable{P:Program}{w:World}{ops:Array Oper}{o:Oper}{a:Act}{ao:Exit->Act->World->Prop}
end
end Go.Proofs.YtmgahjkopiaglaaGreat
namespace Go.Proofs.YtmgahjkopiaglaaGreat
open Go.RowKit Go.Proofs.Tryz
theorem Xo{P:Program}{f:FuncId}{args:Array Value}{w:World}{av:Ending->World->Prop}(h:∀W,w=W->Calls P f args W av):Calls P f args w av:=h w rfl
theorem bK{P:Program}{c:Code}{a:Act}{w:World}{ao:Exit->Act->World->Prop}(h:∀W,w=W->Code.wp P c ao a W):Code.wp P c ao a w:=h w rfl
def G(w:World)(b:Nat)(cs:Array Value)(T:TypeId):Prop:=w.1[b]?=some (.cells cs T (0,0))
section
variable{w w':World}{b:Nat}{cs:Array Value}{T:TypeId}{x0 x1 x2 x3 x4 x5:Value}
theorem G.lt(h:G w b cs T):b<w.1.size:=gm h
theorem G.next(h:G w b cs T)(I:aY w w'):G w' b cs T:=(I.block b h.lt).trans h
instance:Nx w w' (G w b cs T) (G w' b cs T):=⟨λq p=>p.next q⟩
theorem G.xI(h:G w b #[x0,x1,x2,x3,x4,x5] T):w.cell? ⟨b,0,none⟩=some x0/\w.cell? ⟨b,1,none⟩=some x1/\w.cell? ⟨b,2,none⟩=some x2/\w.cell? ⟨b,3,none⟩=some x3/\w.cell? ⟨b,4,none⟩=some x4/\w.cell? ⟨b,5,none⟩=some x5:=MA h
theorem G.new(w:World)(cs:Array Value)(T:TypeId):G (w.alloc (.cells cs T)) w.1.size cs T:=np _ _
theorem G.alloc(h:G w b cs T)(o:Obj):G (w.alloc o) b cs T:=(nm _ _ h.lt).trans h
def JM(w:World)(b:Nat)(a0 a1 a2 a3 a4 a5:Value):World:=(((((w.setCell ⟨b,0,none⟩ a0).setCell ⟨b,1,none⟩ a1).setCell ⟨b,2,none⟩ a2).setCell ⟨b,3,none⟩ a3).setCell ⟨b,4,none⟩ a4).setCell ⟨b,5,none⟩ a5
variable{a0 a1 a2 a3 a4 a5:Value}
theorem Am(h:G w b #[x0,x1,x2,x3,x4,x5] T):G (JM w b a0 a1 a2 a3 a4 a5) b #[a0,a1,a2,a3,a4,a5] T:=RZ h _ _ _ _ _ _
theorem lI{k:Nat}(Q:k≠b):(JM w b a0 a1 a2 a3 a4 a5).1[k]?=w.1[k]?:=by
 have o:∀(w0:World)(i:Nat)(u:Value),(w0.setCell ⟨b,i,none⟩ u).1[k]?=w0.1[k]?:=λw0 i u=>dF _ _ _ _ Q;unfold JM;rw[o,o,o,o,o,o]
theorem G.lI{k:Nat}(h:G w k cs T)(Q:k≠b):G (JM w b a0 a1 a2 a3 a4 a5) k cs T:=(Go.Proofs.YtmgahjkopiaglaaGreat.lI Q).trans h
end
section
variable{fr:Bool}{w w':World}{lo Gh:Nat}{v:Value}{p:Pc.bG}{b:Nat}{a0 a1 a2 a3 a4 a5:Value}
end
theorem ay.wG{α:Type}{r:Y α}{fr:Bool}{w:World}{S:Nat->Prop}{g n c:Nat}{e:TypeId}{cells:List Value}{xs:List α}(h:w.1[g]?=some (.cells cells.toArray e (0,0)))(ha:r.all fr w S cells xs)(hS:S g)
 (hn:n=xs.length)(hl:xs.length<=c)(hm:c<=maxLen):ay r fr w S (.slice g n c) xs:=by
 subst hn;refine⟨_,c,rfl,hl,hm,cells,ha,λ_=>⟨g,0,rfl,hS,λj u hj=>⟨?_,λ_=>by simp[World.frozen?,h]⟩⟩⟩;rw[iR,cell_of_row w g j cells.toArray e (0,0) h];simpa using hj
end Go.Proofs.YtmgahjkopiaglaaGreat
namespace Go.Proofs.YtmgahjkopiaglaaGreat
open Go.RowKit Go.Proofs.Tryz
section
variable{fr:Bool}{w w':World}{lo hi k Gh AU:Nat}{A:Option Addr}
theorem dM.piece{xs:List Pc.bG}{x:Pc.bG}(h:dM Y.piece fr w lo hi A xs)(D:xs[k]?=some x):
 ∃g o a b c,A=some ⟨g,o,none⟩/\lo<=g/\g<hi/\w.cell? ⟨g,o+k * 6,none⟩=some (.int .i64 x.node)/\w.cell? ⟨g,o+k * 6+1,none⟩=some (.int .i64 x.state)/\w.cell? ⟨g,o+k * 6+2,none⟩=some (.int .i64 x.steps)/\
  w.cell? ⟨g,o+k * 6+3,none⟩=some a/\w.cell? ⟨g,o+k * 6+4,none⟩=some b/\w.cell? ⟨g,o+k * 6+5,none⟩=some c/\iq fr w lo hi (.agg #[x.node,x.state,x.steps,a,b,c]) x:=by
 obtain⟨g,o,cs,rfl,F,⟨a,b,c,rfl,h3⟩,h4⟩:=dm.at_ h D;have e:∀i u,[Value.int .i64 x.node,x.state,x.steps,a,b,c][i]?=some u->w.cell? ⟨g,o+k * 6+i,none⟩=some u:=λi u hi=>by simpa[Y.piece,fK] using(h4 i u hi).1
 exact⟨g,o,a,b,c,rfl,F.1,F.2,e 0 _ rfl,e 1 _ rfl,e 2 _ rfl,e 3 _ rfl,e 4 _ rfl,e 5 _ rfl,a,b,c,rfl,h3⟩
def iO(fr:Bool)(w:World)(lo hi:Nat)(v:Value)(f:Fr):Prop:=
 ∃A B k l,v=.agg #[f.kind,f.aC,f.seq,f.bB,.slice A f.pieces.length k,f.init,f.num,.int .i64 f.count,.slice B f.path.length l]/\
  aM Y.piece fr w lo hi (.slice A f.pieces.length k) f.pieces/\aM Y.int fr w lo hi (.slice B f.path.length l) f.path
variable{v:Value}{f:Fr}
theorem iO.aE(h:iO fr w lo hi v f)(Q:∀b,lo<=b->b<hi->w'.1[b]?=w.1[b]?):iO fr w' lo hi v f:=by
 obtain⟨A,B,k,l,rfl,F,R⟩:=h;exact⟨A,B,k,l,rfl,F.aE Q,R.aE Q⟩
theorem iO.aF(h:iO fr w lo hi v f)(k1:Gh<=lo)(k2:hi<=AU):iO fr w Gh AU v f:=by
 obtain⟨A,B,k,l,rfl,F,R⟩:=h;exact⟨A,B,k,l,rfl,F.aF k1 k2,R.aF k1 k2⟩
theorem iO.next(h:iO fr w lo w.1.size v f)(I:aY w w'):iO fr w' lo w'.1.size v f:=(h.aE λb _ R=>I.block b R).aF bE I.size
instance:Nx w w' (iO fr w lo w.1.size v f) (iO fr w' lo w'.1.size v f):=⟨λq p=>p.next q⟩
theorem iO.of{a b:Value}(F:aM Y.piece fr w lo hi a f.pieces)(R:aM Y.int fr w lo hi b f.path):
 iO fr w lo hi (.agg #[f.kind,f.aC,f.seq,f.bB,a,f.init,f.num,.int .i64 f.count,b]) f:=by
 obtain⟨A,k,rfl,q1⟩:=id F;obtain⟨B,l,rfl,q2⟩:=id R;exact⟨A,B,k,l,rfl,F,R⟩
end
theorem yR(v u:Value)(xs ys:List Pc.bG)(w:World)(h:aM Y.piece false w 0 w.1.size v xs)(h':aM Y.piece false w 0 w.1.size u ys)(fz:xs.length≠ys.length):
 Calls prog 183 #[v,u,.func (.func 184) #[] #[]] w λx w'=>x=.returned (.bool false)/\aY w w':=by
 obtain⟨A,c,rfl,l1,m1,_⟩:=h;obtain⟨A',c',rfl,l2,m2,_⟩:=h';have e:(((xs.length:Nat):Int) !=((ys.length:Nat):Int))=true:=by rw[bne_iff_ne];omega
 clear fz;unfold maxLen at m1 m2;go_in;go_wp2;go_ret;exact⟨rfl,cT⟩
theorem Bg(v u:Value)(xs ys:List Pc.bG)(w:World)(h:aM Y.piece false w 0 w.1.size v xs)(h':aM Y.piece false w 0 w.1.size u ys)(fz:xs.length=ys.length):
 Calls prog 183 #[v,u,.func (.func 184) #[] #[]] w λx w'=>x=.returned (.bool (decide (xs=ys)))/\aY w w':=by
 obtain⟨A,c,rfl,l1,m1,F⟩:=h;obtain⟨A',c',rfl,l2,m2,R⟩:=h';rw[<-fz] at l2⊢;change aK _ at fz;generalize hd:decide (xs=ys)=d;change aK _ at hd;unfold maxLen at m1 m2;go_in;go_wp2;go_loopg [17] xs.length (λk i wr=>∃j:Nat,i=.int .i64 (j:Int)/\j<=xs.length/\k=xs.length-j/\xs.take j=ys.take j/\aY w wr)
 case atStart=>exact⟨0,rfl,by omega,by omega,rfl,cT⟩
 case round=>
  obtain⟨j,rfl,hj,Q,hl,I⟩:=hrel;change aK _ at hl Q;by_cases bY:j<xs.length
  ·obtain⟨x,D⟩:=Pc.get_at bY;obtain⟨y,hy⟩:=Pc.get_at (l:=ys) (j:=j) (by have:=fz.Z;omega);obtain⟨g,o,a3,a4,a5,rfl,_,hg,c0,c1,c2,c3,c4,c5,hp⟩:=(F.below I bE).piece D;obtain⟨g',o',b3,b4,b5,rfl,_,Dx,d0,d1,d2,d3,d4,d5,hq⟩:=(R.below I bE).piece hy;replace D:=U D;replace hy:=U hy;clear F R;have fM:=I.size;obtain⟨_,_,_,he,q3,q4,q5⟩:=id hp;cases he;obtain⟨A3,k3,rfl,_⟩:=q3;obtain⟨A4,k4,rfl,_⟩:=q4;obtain⟨A5,k5,rfl,_⟩:=q5;obtain⟨_,_,_,he,q3,q4,q5⟩:=id hq;cases he;obtain⟨B3,l3,rfl,_⟩:=q3;obtain⟨B4,l4,rfl,_⟩:=q4;obtain⟨B5,l5,rfl,_⟩:=q5;replace hp:=U hp;replace hq:=U hq;have TX:g<wr.1.size:=by omega
   have ahs:g'<wr.1.size:=by omega
   go_upto_region 7 with fail
   clear c0 c1 c2 c3 c4 c5 d0 d1 d2 d3 d4 d5;refine bK λax hV=>?_;have Pf:aY wr ax:=hV▸(cT.alloc bE _).alloc (by simp) _;have JN:G ax wr.1.size #[x.node,x.state,x.steps,.slice A3 x.aQ.length k3,.slice A4 x.bD.length k4,.slice A5 x.Z.length k5] 112:=hV▸(G.new _ _ _).alloc _;have JO:G ax (wr.1.size+1) #[y.node,y.state,y.steps,.slice B3 y.aQ.length l3,.slice B4 y.bD.length l4,.slice B5 y.Z.length l5] 112:=by
    rw[<-hV];have h0:=G.new (wr.alloc (.cells #[x.node,x.state,x.steps,.slice A3 x.aQ.length k3,.slice A4 x.bD.length k4,.slice A5 x.Z.length k5] 112)) #[y.node,y.state,y.steps,.slice B3 y.aQ.length l3,.slice B4 y.bD.length l4,.slice B5 y.Z.length l5] 112;rw[World.size_alloc] at h0;exact h0
   clear hV;have OA:=((hp.below (Pf.mono fM) bE).aF (ev 0) (bT fM Pf.size));have kr:=((hq.below (Pf.mono fM) bE).aF (ev 0) (bT fM Pf.size));obtain⟨c0,c1,c2,c3,c4,c5⟩:=JN.xI;obtain⟨d0,d1,d2,d3,d4,d5⟩:=JO.xI;go_wp2_with fail;clear c0 c1 c2 c3 c4 c5 d0 d1 d2 d3 d4 d5;refine(O' _ _ x y _ OA kr).mono ?_;rintro e w1 ⟨rfl,ee⟩;replace I:=(I.trans (Pf.mono fM)).trans (ee.mono (bT fM Pf.size));clear ee fM Pf OA kr JN JO;cases yQ:decide (x=y)
   ·have GI:=U (m6 yQ);clear yQ;go_wp2;go_ret;exact⟨by rw[<-hd.Z,Pc.tP D.Z hy.Z GI.Z];rfl,I⟩
   ·have GI:=U (eM yQ);clear yQ;go_wp2;go_roundg (xs.length-(j+1))
    case rel=>exact⟨j+1,by simp,by omega,rfl,Pc.pX hl.Z D.Z (by rw[GI.Z];exact hy.Z),I⟩
    case measure=>have:=Q.Z;omega
  ·go_wp2;go_ret;exact⟨by rw[<-hd.Z,Pc.sq fz.Z bY hl.Z];rfl,I⟩
theorem C7(v u:Value)(xs ys:List Pc.bG)(w:World)(h:aM Y.piece false w 0 w.1.size v xs)(h':aM Y.piece false w 0 w.1.size u ys):
 Calls prog 183 #[v,u,.func (.func 184) #[] #[]] w λx w'=>x=.returned (.bool (decide (xs=ys)))/\aY w w':=by
 by_cases fz:xs.length=ys.length
 ·exact Bg v u xs ys w h h' fz
 ·rw[Pc.sr fz];exact yR v u xs ys w h h' fz
end Go.Proofs.YtmgahjkopiaglaaGreat
namespace Go.Proofs.YtmgahjkopiaglaaGreat
open Go.RowKit Go.Proofs.Tryz
theorem G.kZ{w:World}{n:Nat}(cs:Array Value)(T:TypeId)(h:w.1.size=n):G (w.alloc (.cells cs T)) n cs T:=by subst h;exact G.new _ _ _
section
variable{w w' w0 v:World}{aw A0 A1 A2 A3 A4 A5 A6 A7 A8 A9 GR JP A12 A13 B0 B1 B2 B3 B4 B5 B6 B7 B8 B9 Rt Xp B12 U7:Prop}{b c d e:Nat}{cs ds es fs:Array Value}{T ai ax aj:TypeId}
instance:Nx w w' (aY w0 w) (aY w0 w'):=⟨λh a=>a.trans (h.mono a.size)⟩
instance:Nx w w' (Ext w0 w) (Ext w0 w'):=⟨λh a=>a.trans (Ext.below h bE)⟩
theorem Ru(h:aY w w')[Nx w w' A0 B0](a0:A0)(k:w.1.size<=w'.1.size->B0->aw):aw:=k h.size (Nx.f h a0)
theorem lW(h:aY w w')[Nx w w' A0 B0][Nx w w' A1 B1](a0:A0)(a1:A1)(k:w.1.size<=w'.1.size->B0->B1->aw):aw:=k h.size (Nx.f h a0) (Nx.f h a1)
theorem iX(h:aY w w')[Nx w w' A0 B0][Nx w w' A1 B1][Nx w w' A2 B2](a0:A0)(a1:A1)(a2:A2)(k:w.1.size<=w'.1.size->B0->B1->B2->aw):aw:=k h.size (Nx.f h a0) (Nx.f h a1) (Nx.f h a2)
theorem ja(h:aY w w')[Nx w w' A0 B0][Nx w w' A1 B1][Nx w w' A2 B2][Nx w w' A3 B3](a0:A0)(a1:A1)(a2:A2)(a3:A3)(k:w.1.size<=w'.1.size->B0->B1->B2->B3->aw):aw:=k h.size (Nx.f h a0) (Nx.f h a1) (Nx.f h a2) (Nx.f h a3)
theorem lD(h:aY w w')[Nx w w' A0 B0][Nx w w' A1 B1][Nx w w' A2 B2][Nx w w' A3 B3][Nx w w' A4 B4](a0:A0)(a1:A1)(a2:A2)(a3:A3)(a4:A4)(k:w.1.size<=w'.1.size->B0->B1->B2->B3->B4->aw):aw:=k h.size (Nx.f h a0) (Nx.f h a1) (Nx.f h a2) (Nx.f h a3) (Nx.f h a4)
theorem xl(h:aY w w')[Nx w w' A0 B0][Nx w w' A1 B1][Nx w w' A2 B2][Nx w w' A3 B3][Nx w w' A4 B4][Nx w w' A5 B5](a0:A0)(a1:A1)(a2:A2)(a3:A3)(a4:A4)(a5:A5)(k:w.1.size<=w'.1.size->B0->B1->B2->B3->B4->B5->aw):aw:=k h.size (Nx.f h a0) (Nx.f h a1) (Nx.f h a2) (Nx.f h a3) (Nx.f h a4) (Nx.f h a5)
theorem An(h:aY w w')[Nx w w' A0 B0][Nx w w' A1 B1][Nx w w' A2 B2][Nx w w' A3 B3][Nx w w' A4 B4][Nx w w' A5 B5][Nx w w' A6 B6](a0:A0)(a1:A1)(a2:A2)(a3:A3)(a4:A4)(a5:A5)(a6:A6)(k:w.1.size<=w'.1.size->B0->B1->B2->B3->B4->B5->B6->aw):aw:=k h.size (Nx.f h a0) (Nx.f h a1) (Nx.f h a2) (Nx.f h a3) (Nx.f h a4) (Nx.f h a5) (Nx.f h a6)
theorem Xq(h:aY w w')[Nx w w' A0 B0][Nx w w' A1 B1][Nx w w' A2 B2][Nx w w' A3 B3][Nx w w' A4 B4][Nx w w' A5 B5][Nx w w' A6 B6][Nx w w' A7 B7](a0:A0)(a1:A1)(a2:A2)(a3:A3)(a4:A4)(a5:A5)(a6:A6)(a7:A7)(k:w.1.size<=w'.1.size->B0->B1->B2->B3->B4->B5->B6->B7->aw):aw:=k h.size (Nx.f h a0) (Nx.f h a1) (Nx.f h a2) (Nx.f h a3) (Nx.f h a4) (Nx.f h a5) (Nx.f h a6) (Nx.f h a7)
theorem TY(h:aY w w')[Nx w w' A0 B0][Nx w w' A1 B1][Nx w w' A2 B2][Nx w w' A3 B3][Nx w w' A4 B4][Nx w w' A5 B5][Nx w w' A6 B6][Nx w w' A7 B7][Nx w w' A8 B8](a0:A0)(a1:A1)(a2:A2)(a3:A3)(a4:A4)(a5:A5)(a6:A6)(a7:A7)(a8:A8)(k:w.1.size<=w'.1.size->B0->B1->B2->B3->B4->B5->B6->B7->B8->aw):aw:=k h.size (Nx.f h a0) (Nx.f h a1) (Nx.f h a2) (Nx.f h a3) (Nx.f h a4) (Nx.f h a5) (Nx.f h a6) (Nx.f h a7) (Nx.f h a8)
theorem aht(h:aY w w')[Nx w w' A0 B0][Nx w w' A1 B1][Nx w w' A2 B2][Nx w w' A3 B3][Nx w w' A4 B4][Nx w w' A5 B5][Nx w w' A6 B6][Nx w w' A7 B7][Nx w w' A8 B8][Nx w w' A9 B9](a0:A0)(a1:A1)(a2:A2)(a3:A3)(a4:A4)(a5:A5)(a6:A6)(a7:A7)(a8:A8)(a9:A9)(k:w.1.size<=w'.1.size->B0->B1->B2->B3->B4->B5->B6->B7->B8->B9->aw):aw:=k h.size (Nx.f h a0) (Nx.f h a1) (Nx.f h a2) (Nx.f h a3) (Nx.f h a4) (Nx.f h a5) (Nx.f h a6) (Nx.f h a7) (Nx.f h a8) (Nx.f h a9)
theorem ahu(h:aY w w')[Nx w w' A0 B0][Nx w w' A1 B1][Nx w w' A2 B2][Nx w w' A3 B3][Nx w w' A4 B4][Nx w w' A5 B5][Nx w w' A6 B6][Nx w w' A7 B7][Nx w w' A8 B8][Nx w w' A9 B9][Nx w w' GR Rt](a0:A0)(a1:A1)(a2:A2)(a3:A3)(a4:A4)(a5:A5)(a6:A6)(a7:A7)(a8:A8)(a9:A9)(U8:GR)(k:w.1.size<=w'.1.size->B0->B1->B2->B3->B4->B5->B6->B7->B8->B9->Rt->aw):aw:=k h.size (Nx.f h a0) (Nx.f h a1) (Nx.f h a2) (Nx.f h a3) (Nx.f h a4) (Nx.f h a5) (Nx.f h a6) (Nx.f h a7) (Nx.f h a8) (Nx.f h a9) (Nx.f h U8)
theorem ahv(h:aY w w')[Nx w w' A0 B0][Nx w w' A1 B1][Nx w w' A2 B2][Nx w w' A3 B3][Nx w w' A4 B4][Nx w w' A5 B5][Nx w w' A6 B6][Nx w w' A7 B7][Nx w w' A8 B8][Nx w w' A9 B9][Nx w w' GR Rt][Nx w w' JP Xp](a0:A0)(a1:A1)(a2:A2)(a3:A3)(a4:A4)(a5:A5)(a6:A6)(a7:A7)(a8:A8)(a9:A9)(U8:GR)(Yh:JP)(k:w.1.size<=w'.1.size->B0->B1->B2->B3->B4->B5->B6->B7->B8->B9->Rt->Xp->aw):aw:=k h.size (Nx.f h a0) (Nx.f h a1) (Nx.f h a2) (Nx.f h a3) (Nx.f h a4) (Nx.f h a5) (Nx.f h a6) (Nx.f h a7) (Nx.f h a8) (Nx.f h a9) (Nx.f h U8) (Nx.f h Yh)
theorem ahw(h:aY w w')[Nx w w' A0 B0][Nx w w' A1 B1][Nx w w' A2 B2][Nx w w' A3 B3][Nx w w' A4 B4][Nx w w' A5 B5][Nx w w' A6 B6][Nx w w' A7 B7][Nx w w' A8 B8][Nx w w' A9 B9][Nx w w' GR Rt][Nx w w' JP Xp][Nx w w' A12 B12](a0:A0)(a1:A1)(a2:A2)(a3:A3)(a4:A4)(a5:A5)(a6:A6)(a7:A7)(a8:A8)(a9:A9)(U8:GR)(Yh:JP)(a12:A12)(k:w.1.size<=w'.1.size->B0->B1->B2->B3->B4->B5->B6->B7->B8->B9->Rt->Xp->B12->aw):aw:=k h.size (Nx.f h a0) (Nx.f h a1) (Nx.f h a2) (Nx.f h a3) (Nx.f h a4) (Nx.f h a5) (Nx.f h a6) (Nx.f h a7) (Nx.f h a8) (Nx.f h a9) (Nx.f h U8) (Nx.f h Yh) (Nx.f h a12)
theorem ahx(h:aY w w')[Nx w w' A0 B0][Nx w w' A1 B1][Nx w w' A2 B2][Nx w w' A3 B3][Nx w w' A4 B4][Nx w w' A5 B5][Nx w w' A6 B6][Nx w w' A7 B7][Nx w w' A8 B8][Nx w w' A9 B9][Nx w w' GR Rt][Nx w w' JP Xp][Nx w w' A12 B12][Nx w w' A13 U7](a0:A0)(a1:A1)(a2:A2)(a3:A3)(a4:A4)(a5:A5)(a6:A6)(a7:A7)(a8:A8)(a9:A9)(U8:GR)(Yh:JP)(a12:A12)(a13:A13)(k:w.1.size<=w'.1.size->B0->B1->B2->B3->B4->B5->B6->B7->B8->B9->Rt->Xp->B12->U7->aw):aw:=k h.size (Nx.f h a0) (Nx.f h a1) (Nx.f h a2) (Nx.f h a3) (Nx.f h a4) (Nx.f h a5) (Nx.f h a6) (Nx.f h a7) (Nx.f h a8) (Nx.f h a9) (Nx.f h U8) (Nx.f h Yh) (Nx.f h a12) (Nx.f h a13)
abbrev Op(w:World)(b:Nat)(cs:Array Value):=(∀i,w.cell? ⟨b,i,none⟩=cs[i]?)/\(∀i,w.frozen? ⟨b,i,none⟩=false)/\b<w.1.size
theorem ch(h:G w b cs T):Op w b cs:=⟨λi=>aD h i,λi=>by unfold G at h;simp[World.frozen?,h],h.lt⟩
variable{u0 u1 u2 u3 u4 u5 u6 u7 u8 u9 u10 u11 u12 u13:World}{b0 b1 b2 b3 b4 b5 b6 b7 b8 b9 Jk GS r8 yS:Nat}{c0 c1 c2 c3 c4 c5 c6 c7 c8 c9 c10 c11 c12 c13:Array Value}{t0 t1 t2 t3 t4 t5 t6 t7 t8 t9 t10 t11 t12 t13:TypeId}
abbrev eE(x0:G u0 b0 c0 t0)(x1:G u1 b1 c1 t1):=cD (ch x0) (ch x1)
abbrev iB(x0:G u0 b0 c0 t0)(x1:G u1 b1 c1 t1)(x2:G u2 b2 c2 t2):=cD (ch x0) (eE x1 x2)
abbrev ld(x0:G u0 b0 c0 t0)(x1:G u1 b1 c1 t1)(x2:G u2 b2 c2 t2)(x3:G u3 b3 c3 t3):=cD (ch x0) (iB x1 x2 x3)
abbrev Jl(x0:G u0 b0 c0 t0)(x1:G u1 b1 c1 t1)(x2:G u2 b2 c2 t2)(x3:G u3 b3 c3 t3)(x4:G u4 b4 c4 t4):=cD (ch x0) (ld x1 x2 x3 x4)
abbrev LK(x0:G u0 b0 c0 t0)(x1:G u1 b1 c1 t1)(x2:G u2 b2 c2 t2)(x3:G u3 b3 c3 t3)(x4:G u4 b4 c4 t4)(x5:G u5 b5 c5 t5):=cD (ch x0) (Jl x1 x2 x3 x4 x5)
abbrev oo7(x0:G u0 b0 c0 t0)(x1:G u1 b1 c1 t1)(x2:G u2 b2 c2 t2)(x3:G u3 b3 c3 t3)(x4:G u4 b4 c4 t4)(x5:G u5 b5 c5 t5)(x6:G u6 b6 c6 t6):=cD (ch x0) (LK x1 x2 x3 x4 x5 x6)
abbrev oo8(x0:G u0 b0 c0 t0)(x1:G u1 b1 c1 t1)(x2:G u2 b2 c2 t2)(x3:G u3 b3 c3 t3)(x4:G u4 b4 c4 t4)(x5:G u5 b5 c5 t5)(x6:G u6 b6 c6 t6)(x7:G u7 b7 c7 t7):=cD (ch x0) (oo7 x1 x2 x3 x4 x5 x6 x7)
abbrev oo9(x0:G u0 b0 c0 t0)(x1:G u1 b1 c1 t1)(x2:G u2 b2 c2 t2)(x3:G u3 b3 c3 t3)(x4:G u4 b4 c4 t4)(x5:G u5 b5 c5 t5)(x6:G u6 b6 c6 t6)(x7:G u7 b7 c7 t7)(x8:G u8 b8 c8 t8):=cD (ch x0) (oo8 x1 x2 x3 x4 x5 x6 x7 x8)
abbrev ach(x0:G u0 b0 c0 t0)(x1:G u1 b1 c1 t1)(x2:G u2 b2 c2 t2)(x3:G u3 b3 c3 t3)(x4:G u4 b4 c4 t4)(x5:G u5 b5 c5 t5)(x6:G u6 b6 c6 t6)(x7:G u7 b7 c7 t7)(x8:G u8 b8 c8 t8)(x9:G u9 b9 c9 t9):=cD (ch x0) (oo9 x1 x2 x3 x4 x5 x6 x7 x8 x9)
abbrev aci(x0:G u0 b0 c0 t0)(x1:G u1 b1 c1 t1)(x2:G u2 b2 c2 t2)(x3:G u3 b3 c3 t3)(x4:G u4 b4 c4 t4)(x5:G u5 b5 c5 t5)(x6:G u6 b6 c6 t6)(x7:G u7 b7 c7 t7)(x8:G u8 b8 c8 t8)(x9:G u9 b9 c9 t9)(qa:G u10 Jk c10 t10):=cD (ch x0) (ach x1 x2 x3 x4 x5 x6 x7 x8 x9 qa)
abbrev acj(x0:G u0 b0 c0 t0)(x1:G u1 b1 c1 t1)(x2:G u2 b2 c2 t2)(x3:G u3 b3 c3 t3)(x4:G u4 b4 c4 t4)(x5:G u5 b5 c5 t5)(x6:G u6 b6 c6 t6)(x7:G u7 b7 c7 t7)(x8:G u8 b8 c8 t8)(x9:G u9 b9 c9 t9)(qa:G u10 Jk c10 t10)(lJ:G u11 GS c11 t11):=cD (ch x0) (aci x1 x2 x3 x4 x5 x6 x7 x8 x9 qa lJ)
abbrev ack(x0:G u0 b0 c0 t0)(x1:G u1 b1 c1 t1)(x2:G u2 b2 c2 t2)(x3:G u3 b3 c3 t3)(x4:G u4 b4 c4 t4)(x5:G u5 b5 c5 t5)(x6:G u6 b6 c6 t6)(x7:G u7 b7 c7 t7)(x8:G u8 b8 c8 t8)(x9:G u9 b9 c9 t9)(qa:G u10 Jk c10 t10)(lJ:G u11 GS c11 t11)(lU:G u12 r8 c12 t12):=cD (ch x0) (acj x1 x2 x3 x4 x5 x6 x7 x8 x9 qa lJ lU)
abbrev ahD(x0:G u0 b0 c0 t0)(x1:G u1 b1 c1 t1)(x2:G u2 b2 c2 t2)(x3:G u3 b3 c3 t3)(x4:G u4 b4 c4 t4)(x5:G u5 b5 c5 t5)(x6:G u6 b6 c6 t6)(x7:G u7 b7 c7 t7)(x8:G u8 b8 c8 t8)(x9:G u9 b9 c9 t9)(qa:G u10 Jk c10 t10)(lJ:G u11 GS c11 t11)(lU:G u12 r8 c12 t12)(x13:G u13 yS c13 t13):=cD (ch x0) (ack x1 x2 x3 x4 x5 x6 x7 x8 x9 qa lJ lU x13)
theorem jt{P:Program}{c:Code}{a:Act}{ao:Exit->Act->World->Prop}(h:∀W,G W (w.1.size) c0 t0->aY w W->Code.wp P c ao a W):Code.wp P c ao a (w.alloc (.cells c0 t0)):=h _ (G.kZ _ _ (by simp)) (cT.alloc (by simp<;>omega) _)
theorem U9{P:Program}{md:Region.Mode}{ao:Exit->Act->World->Prop}{M:Nat}{wM:World}{ops:Array Oper}{fuel:Nat}{li:Array Bool}{a:Act}(h:∀W,G W (w.1.size) c0 t0->aY w W->aV P md ops ao M wM fuel li a W):aV P md ops ao M wM fuel li a (w.alloc (.cells c0 t0)):=h _ (G.kZ _ _ (by simp)) (cT.alloc (by simp<;>omega) _)
theorem Yi{P:Program}{f:FuncId}{args:Array Value}{av:Ending->World->Prop}(h:∀W,G W (w.1.size) c0 t0->aY w W->Calls P f args W av):Calls P f args (w.alloc (.cells c0 t0)) av:=h _ (G.kZ _ _ (by simp)) (cT.alloc (by simp<;>omega) _)
theorem r9{P:Program}{c:Code}{a:Act}{ao:Exit->Act->World->Prop}(h:∀W,G W (w.1.size) c0 t0->G W (w.1.size+1) c1 t1->aY w W->Code.wp P c ao a W):Code.wp P c ao a ((w.alloc (.cells c0 t0)).alloc (.cells c1 t1)):=h _ ((G.kZ _ _ (by simp)).alloc _) (G.kZ _ _ (by simp)) ((cT.alloc (by simp<;>omega) _).alloc (by simp<;>omega) _)
theorem nB2{P:Program}{md:Region.Mode}{ao:Exit->Act->World->Prop}{M:Nat}{wM:World}{ops:Array Oper}{fuel:Nat}{li:Array Bool}{a:Act}(h:∀W,G W (w.1.size) c0 t0->G W (w.1.size+1) c1 t1->aY w W->aV P md ops ao M wM fuel li a W):aV P md ops ao M wM fuel li a ((w.alloc (.cells c0 t0)).alloc (.cells c1 t1)):=h _ ((G.kZ _ _ (by simp)).alloc _) (G.kZ _ _ (by simp)) ((cT.alloc (by simp<;>omega) _).alloc (by simp<;>omega) _)
theorem nC2{P:Program}{f:FuncId}{args:Array Value}{av:Ending->World->Prop}(h:∀W,G W (w.1.size) c0 t0->G W (w.1.size+1) c1 t1->aY w W->Calls P f args W av):Calls P f args ((w.alloc (.cells c0 t0)).alloc (.cells c1 t1)) av:=h _ ((G.kZ _ _ (by simp)).alloc _) (G.kZ _ _ (by simp)) ((cT.alloc (by simp<;>omega) _).alloc (by simp<;>omega) _)
theorem OB{P:Program}{c:Code}{a:Act}{ao:Exit->Act->World->Prop}(h:∀W,G W (w.1.size) c0 t0->G W (w.1.size+1) c1 t1->G W (w.1.size+1+1) c2 t2->aY w W->Code.wp P c ao a W):Code.wp P c ao a (((w.alloc (.cells c0 t0)).alloc (.cells c1 t1)).alloc (.cells c2 t2)):=h _ (((G.kZ _ _ (by simp)).alloc _).alloc _) ((G.kZ _ _ (by simp)).alloc _) (G.kZ _ _ (by simp)) (((cT.alloc (by simp<;>omega) _).alloc (by simp<;>omega) _).alloc (by simp<;>omega) _)
theorem nB3{P:Program}{md:Region.Mode}{ao:Exit->Act->World->Prop}{M:Nat}{wM:World}{ops:Array Oper}{fuel:Nat}{li:Array Bool}{a:Act}(h:∀W,G W (w.1.size) c0 t0->G W (w.1.size+1) c1 t1->G W (w.1.size+1+1) c2 t2->aY w W->aV P md ops ao M wM fuel li a W):aV P md ops ao M wM fuel li a (((w.alloc (.cells c0 t0)).alloc (.cells c1 t1)).alloc (.cells c2 t2)):=h _ (((G.kZ _ _ (by simp)).alloc _).alloc _) ((G.kZ _ _ (by simp)).alloc _) (G.kZ _ _ (by simp)) (((cT.alloc (by simp<;>omega) _).alloc (by simp<;>omega) _).alloc (by simp<;>omega) _)
theorem nC3{P:Program}{f:FuncId}{args:Array Value}{av:Ending->World->Prop}(h:∀W,G W (w.1.size) c0 t0->G W (w.1.size+1) c1 t1->G W (w.1.size+1+1) c2 t2->aY w W->Calls P f args W av):Calls P f args (((w.alloc (.cells c0 t0)).alloc (.cells c1 t1)).alloc (.cells c2 t2)) av:=h _ (((G.kZ _ _ (by simp)).alloc _).alloc _) ((G.kZ _ _ (by simp)).alloc _) (G.kZ _ _ (by simp)) (((cT.alloc (by simp<;>omega) _).alloc (by simp<;>omega) _).alloc (by simp<;>omega) _)
theorem nW4{P:Program}{c:Code}{a:Act}{ao:Exit->Act->World->Prop}(h:∀W,G W (w.1.size) c0 t0->G W (w.1.size+1) c1 t1->G W (w.1.size+1+1) c2 t2->G W (w.1.size+1+1+1) c3 t3->aY w W->Code.wp P c ao a W):Code.wp P c ao a ((((w.alloc (.cells c0 t0)).alloc (.cells c1 t1)).alloc (.cells c2 t2)).alloc (.cells c3 t3)):=h _ ((((G.kZ _ _ (by simp)).alloc _).alloc _).alloc _) (((G.kZ _ _ (by simp)).alloc _).alloc _) ((G.kZ _ _ (by simp)).alloc _) (G.kZ _ _ (by simp)) ((((cT.alloc (by simp<;>omega) _).alloc (by simp<;>omega) _).alloc (by simp<;>omega) _).alloc (by simp<;>omega) _)
theorem nB4{P:Program}{md:Region.Mode}{ao:Exit->Act->World->Prop}{M:Nat}{wM:World}{ops:Array Oper}{fuel:Nat}{li:Array Bool}{a:Act}(h:∀W,G W (w.1.size) c0 t0->G W (w.1.size+1) c1 t1->G W (w.1.size+1+1) c2 t2->G W (w.1.size+1+1+1) c3 t3->aY w W->aV P md ops ao M wM fuel li a W):aV P md ops ao M wM fuel li a ((((w.alloc (.cells c0 t0)).alloc (.cells c1 t1)).alloc (.cells c2 t2)).alloc (.cells c3 t3)):=h _ ((((G.kZ _ _ (by simp)).alloc _).alloc _).alloc _) (((G.kZ _ _ (by simp)).alloc _).alloc _) ((G.kZ _ _ (by simp)).alloc _) (G.kZ _ _ (by simp)) ((((cT.alloc (by simp<;>omega) _).alloc (by simp<;>omega) _).alloc (by simp<;>omega) _).alloc (by simp<;>omega) _)
theorem nC4{P:Program}{f:FuncId}{args:Array Value}{av:Ending->World->Prop}(h:∀W,G W (w.1.size) c0 t0->G W (w.1.size+1) c1 t1->G W (w.1.size+1+1) c2 t2->G W (w.1.size+1+1+1) c3 t3->aY w W->Calls P f args W av):Calls P f args ((((w.alloc (.cells c0 t0)).alloc (.cells c1 t1)).alloc (.cells c2 t2)).alloc (.cells c3 t3)) av:=h _ ((((G.kZ _ _ (by simp)).alloc _).alloc _).alloc _) (((G.kZ _ _ (by simp)).alloc _).alloc _) ((G.kZ _ _ (by simp)).alloc _) (G.kZ _ _ (by simp)) ((((cT.alloc (by simp<;>omega) _).alloc (by simp<;>omega) _).alloc (by simp<;>omega) _).alloc (by simp<;>omega) _)
end
theorem G.tr{w w':World}{b:Nat}{cs:Array Value}{T:TypeId}(h:w'.1[b]?=w.1[b]?)(a:G w b cs T):G w' b cs T:=h.trans a
theorem G.eqv{w W:World}{b:Nat}{cs:Array Value}{T:TypeId}(hW:w=W)(h:G w b cs T):G W b cs T:=hW▸h
theorem Below.eqv{lo:Nat}{w0 w W:World}(hW:w=W)(h:Below lo w0 w):Below lo w0 W:=hW▸h
section
variable{w:World}{av:Nat}{T:TypeId}{x0 x1 x2 x3 x4 x5 x6 x7 x8:Value}
theorem bJ(h:G w av #[x0,x1,x2,x3,x4,x5,x6,x7,x8] T):w.cell? ⟨av,0,none⟩=some x0/\w.cell? ⟨av,1,none⟩=some x1/\w.cell? ⟨av,2,none⟩=some x2/\w.cell? ⟨av,3,none⟩=some x3/\w.cell? ⟨av,4,none⟩=some x4/\w.cell? ⟨av,5,none⟩=some x5/\w.cell? ⟨av,6,none⟩=some x6/\w.cell? ⟨av,7,none⟩=some x7/\w.cell? ⟨av,8,none⟩=some x8:=
 ⟨aD h 0,aD h 1,aD h 2,aD h 3,aD h 4,aD h 5,aD h 6,aD h 7,aD h 8⟩
theorem tR(h:G w av #[x0,x1,x2,x3,x4,x5,x6,x7,x8] T):w.frozen? ⟨av,0,none⟩=false/\w.frozen? ⟨av,1,none⟩=false/\w.frozen? ⟨av,2,none⟩=false/\w.frozen? ⟨av,3,none⟩=false/\w.frozen? ⟨av,4,none⟩=false/\w.frozen? ⟨av,5,none⟩=false/\w.frozen? ⟨av,6,none⟩=false/\w.frozen? ⟨av,7,none⟩=false/\w.frozen? ⟨av,8,none⟩=false:=by
 have k:∀i,w.frozen? ⟨av,i,none⟩=false:=λi=>by simp[World.frozen?,show w.1[av]?=_ from h]
 exact⟨k 0,k 1,k 2,k 3,k 4,k 5,k 6,k 7,k 8⟩
end
end Go.Proofs.YtmgahjkopiaglaaGreat
namespace Go.Proofs.YtmgahjkopiaglaaGreat
open Go.RowKit Go.Proofs.Tryz
theorem JQ(v u:Value)(f g:Fr)(w:World)(h:iO false w 0 w.1.size v f)(h':iO false w 0 w.1.size u g):Calls prog 138 #[v,u] w
 λx w'=>x=.returned (.bool (decide (f=g)))/\aY w w':=by
 obtain⟨k,e,s,t,ps,i,n,c,p⟩:=f;obtain⟨k',e',s',t',ps',i',n',c',p'⟩:=g;obtain⟨A,B,x,y,rfl,F,R⟩:=h;obtain⟨A',B',x',y',rfl,xk,C4⟩:=h';dsimp only at F R xk C4⊢;have hn:=@Fr.EY ⟨k,e,s,t,ps,i,n,c,p⟩ ⟨k',e',s',t',ps',i',n',c',p'⟩;dsimp only at hn;have hy:k=k'->e=e'->s=s'->t=t'->ps=ps'->i=i'->n=n'->c=c'->p=p'->decide ((⟨k,e,s,t,ps,i,n,c,p⟩:Fr)=⟨k',e',s',t',ps',i',n',c',p'⟩)=true:=by rintro rfl rfl rfl rfl rfl rfl rfl rfl rfl;exact cV rfl
 generalize decide ((⟨k,e,s,t,ps,i,n,c,p⟩:Fr)=⟨k',e',s',t',ps',i',n',c',p'⟩)=d at hn hy⊢;replace hn:=U hn;change aK _ at hy;go_in;go_upto_region 1 with fail
 refine bK λW0 pU=>?_;have JN:G W0 w.1.size #[k,e,s,t,.slice A ps.length x,i,n,c,.slice B p.length y] 149:=pU▸(G.kZ _ _ rfl).alloc _;have JO:G W0 (w.1.size+1) #[k',e',s',t',.slice A' ps'.length x',i',n',c',.slice B' p'.length y'] 149:=pU▸G.kZ _ _ (by simp);have J:aY w W0:=pU▸(cT.alloc bE _).alloc (by simp) _;replace F:=(F.below J bE).aF (ev 0) J.size;replace R:=(R.below J bE).aF (ev 0) J.size;replace xk:=(xk.below J bE).aF (ev 0) J.size;replace C4:=(C4.below J bE).aF (ev 0) J.size;clear pU;by_cases z0:k=k'
 ·
  subst z0;have b0:(k==k)=true:=by simp
  by_cases z1:e=e'
  ·
   subst z1;have b1:(e==e)=true:=by simp
   by_cases z2:s=s'
   ·
    subst z2;have b2:(s==s)=true:=by simp
    by_cases z3:t=t'
    ·
     subst z3;have b3:(t==t)=true:=by simp
     obtain⟨d0,d1,d2,d3,d4,d5,d6,d7,d8⟩:=bJ JN;obtain⟨g0,g1,g2,g3,g4,g5,g6,g7,g8⟩:=bJ JO;go_wp2_with fail;clear d0 d1 d2 d3 d4 d5 d6 d7 d8 g0 g1 g2 g3 g4 g5 g6 g7 g8;refine(C7 _ _ ps ps' _ F xk).mono ?_;rintro e9 w1 ⟨rfl,I⟩;replace JN:=JN.next I;replace JO:=JO.next I;replace R:=(R.below I bE).aF (ev 0) I.size;replace C4:=(C4.below I bE).aF (ev 0) I.size;replace J:=J.trans (I.mono J.size);clear I F xk;cases zp:decide (ps=ps')
     ·
      have ah:=U (m6 zp);clear zp;obtain⟨d0,d1,d2,d3,d4,d5,d6,d7,d8⟩:=bJ JN;obtain⟨g0,g1,g2,g3,g4,g5,g6,g7,g8⟩:=bJ JO;go_wp2;go_ret;exact⟨by rw[hn.Z (λh=>ah.Z h.2.2.2.2.1)];rfl,J⟩
     ·
      have Z4:=U (eM zp);clear zp;by_cases z5:i=i'
      ·
       subst z5;have b5:(i==i)=true:=by simp
       by_cases z6:n=n'
       ·
        subst z6;have b6:(n==n)=true:=by simp
        by_cases z7:c=c'
        ·
         subst z7;have b7:(c==c)=true:=by simp
         obtain⟨d0,d1,d2,d3,d4,d5,d6,d7,d8⟩:=bJ JN;obtain⟨g0,g1,g2,g3,g4,g5,g6,g7,g8⟩:=bJ JO;go_wp2_with fail;clear d0 d1 d2 d3 d4 d5 d6 d7 d8 g0 g1 g2 g3 g4 g5 g6 g7 g8;refine(uN _ _ p p' _ R C4).mono ?_;rintro e9 w2 ⟨rfl,hq⟩;replace J:=J.trans (hq.below (B:=w.1.size));clear hq R C4;cases zp:decide (p=p')
         ·
          have ah:=U (m6 zp);clear zp;go_wp2;go_ret;exact⟨by rw[hn.Z (λh=>ah.Z h.2.2.2.2.2.2.2.2)];rfl,J⟩
         ·
          have Z8:=U (eM zp);clear zp;go_wp2;go_ret;exact⟨by rw[hy.Z (by trivial) (by trivial) (by trivial) (by trivial) Z4.Z (by trivial) (by trivial) (by trivial) Z8.Z];rfl,J⟩
        ·
         have b7:(c==c')=false:=by simpa using z7
         replace z7:=U z7;obtain⟨d0,d1,d2,d3,d4,d5,d6,d7,d8⟩:=bJ JN;obtain⟨g0,g1,g2,g3,g4,g5,g6,g7,g8⟩:=bJ JO;go_wp2;go_ret;exact⟨by rw[hn.Z (λh=>z7.Z h.2.2.2.2.2.2.2.1)];rfl,J⟩
       ·
        have b6:(n==n')=false:=by simpa using z6
        replace z6:=U z6;obtain⟨d0,d1,d2,d3,d4,d5,d6,d7,d8⟩:=bJ JN;obtain⟨g0,g1,g2,g3,g4,g5,g6,g7,g8⟩:=bJ JO;go_wp2;go_ret;exact⟨by rw[hn.Z (λh=>z6.Z h.2.2.2.2.2.2.1)];rfl,J⟩
      ·
       have b5:(i==i')=false:=by simpa using z5
       replace z5:=U z5;obtain⟨d0,d1,d2,d3,d4,d5,d6,d7,d8⟩:=bJ JN;obtain⟨g0,g1,g2,g3,g4,g5,g6,g7,g8⟩:=bJ JO;go_wp2;go_ret;exact⟨by rw[hn.Z (λh=>z5.Z h.2.2.2.2.2.1)];rfl,J⟩
    ·
     have b3:(t==t')=false:=by simpa using z3
     replace z3:=U z3;obtain⟨d0,d1,d2,d3,d4,d5,d6,d7,d8⟩:=bJ JN;obtain⟨g0,g1,g2,g3,g4,g5,g6,g7,g8⟩:=bJ JO;go_wp2;go_ret;exact⟨by rw[hn.Z (λh=>z3.Z h.2.2.2.1)];rfl,J⟩
   ·
    have b2:(s==s')=false:=by simpa using z2
    replace z2:=U z2;obtain⟨d0,d1,d2,d3,d4,d5,d6,d7,d8⟩:=bJ JN;obtain⟨g0,g1,g2,g3,g4,g5,g6,g7,g8⟩:=bJ JO;go_wp2;go_ret;exact⟨by rw[hn.Z (λh=>z2.Z h.2.2.1)];rfl,J⟩
  ·
   have b1:(e==e')=false:=by simpa using z1
   replace z1:=U z1;obtain⟨d0,d1,d2,d3,d4,d5,d6,d7,d8⟩:=bJ JN;obtain⟨g0,g1,g2,g3,g4,g5,g6,g7,g8⟩:=bJ JO;go_wp2;go_ret;exact⟨by rw[hn.Z (λh=>z1.Z h.2.1)];rfl,J⟩
 ·
  have b0:(k==k')=false:=by simpa using z0
  replace z0:=U z0;obtain⟨d0,d1,d2,d3,d4,d5,d6,d7,d8⟩:=bJ JN;obtain⟨g0,g1,g2,g3,g4,g5,g6,g7,g8⟩:=bJ JO;go_wp2;go_ret;exact⟨by rw[hn.Z (λh=>z0.Z h.1)];rfl,J⟩
end Go.Proofs.YtmgahjkopiaglaaGreat
namespace Go.Proofs.YtmgahjkopiaglaaGreat
open Go.RowKit Go.Proofs.Tryz
theorem GU(n l h:Int)(w:World):Calls prog 137 #[n,l,h] w λx w'=>x=.returned (.bool (Pc.within n l h))/\w=w':=by
 generalize I:Pc.within n l h=b;change aK _ at I;by_cases h0:l<=n
 ·by_cases F:n<=h;all_goals
   go_in;go_wp2;go_ret
  ·exact⟨by rw[<-I.Z,Pc.qO ⟨h0,F⟩];rfl,rfl⟩
  ·exact⟨by rw[<-I.Z,Pc.nL (by omega)];rfl,rfl⟩
 ·go_in;go_wp2;go_ret;exact⟨by rw[<-I.Z,Pc.nL (by omega)];rfl,rfl⟩
theorem kv{n l h:Int}{b:Bool}{w:World}(I:Pc.within n l h=b):Calls prog 137 #[n,l,h] w λx w'=>x=.returned (.bool b)/\w=w':=I▸GU n l h w
theorem Bh(n:Int)(w:World):Calls prog 191 #[n] w λx w'=>x=.returned (.bool (!Fr.node n))/\w=w':=by
 unfold Fr.node;obtain⟨b,I⟩:=cJ (Pc.within n 0 5);rw[I];change aK _ at I;go_in;go_wp2_with fail;refine(kv I.Z).mono ?_;rintro e w1 ⟨rfl,rfl⟩;go_wp2;go_ret;exact⟨rfl,rfl⟩
theorem E8{A C:Prop}(hc:C)(h:C->A):A/\C:=⟨h hc,hc⟩
namespace Fr
theorem U'(e s t:Int)(ps:List Pc.bG)(i n c:Int)(p:List Int):only ⟨0,e,s,t,ps,i,n,c,p⟩=⟨0,e,s,t,[],0,0,0,[]⟩:=rfl
theorem Va(e s t:Int)(ps:List Pc.bG)(i n c:Int)(p:List Int):only ⟨5,e,s,t,ps,i,n,c,p⟩=⟨5,e,0,0,ps,0,0,0,[]⟩:=rfl
theorem Vb(e s t:Int)(ps:List Pc.bG)(i n c:Int)(p:List Int):only ⟨6,e,s,t,ps,i,n,c,p⟩=⟨6,0,0,0,[],i,n,c,p⟩:=rfl
theorem Vc{k:Int}(h0:k≠0)(h5:k≠5)(h6:k≠6)(e s t:Int)(ps:List Pc.bG)(i n c:Int)(p:List Int):only ⟨k,e,s,t,ps,i,n,c,p⟩=⟨k,e,0,0,[],0,0,0,[]⟩:=by
 unfold only;rw[aO h0,aO h5,aO h6]
end Fr
theorem Pg(v:Value)(f:Fr)(w:World)(h:iO false w 0 w.1.size v f):Calls prog 139 #[v] w
 λy w'=>(∃u,y=.returned u/\iO false w' 0 w'.1.size u (Fr.only f))/\aY w w':=by
 obtain⟨k,e,s,t,ps,i,n,c,p⟩:=f;obtain⟨A,B,x,y,rfl,F,R⟩:=h;dsimp only at F R⊢;by_cases k0:k=0
 ·subst k0;go_in;go_wp2;refine bL (v:=.agg #[aP,e,s,t,(),aP,aP,aP,()]) (by simp[results,results139,go_sem]) rfl (E8 ((cT.alloc bE _).alloc (by simp) _) λI=>⟨_,rfl,?_⟩);rw[Fr.U'];exact iO.of (f:=⟨0,e,s,t,[],0,0,0,[]⟩) aM.none_ aM.none_
 by_cases k5:k=5
 ·subst k5;go_in;go_wp2;refine bL (v:=.agg #[.int .i64 5,e,aP,aP,.slice A ps.length x,aP,aP,aP,()]) (by simp[results,results139,go_sem]) rfl (E8 ((cT.alloc bE _).alloc (by simp) _) λI=>⟨_,rfl,?_⟩);rw[Fr.Va];exact iO.of (f:=⟨5,e,0,0,ps,0,0,0,[]⟩) ((F.below I bE).aF (ev 0) I.size) aM.none_
 by_cases k6:k=6
 ·subst k6;go_in;go_wp2;refine bL (v:=.agg #[.int .i64 6,aP,aP,aP,(),i,n,c,.slice B p.length y]) (by simp[results,results139,go_sem]) rfl (E8 ((cT.alloc bE _).alloc (by simp) _) λI=>⟨_,rfl,?_⟩);rw[Fr.Vb];exact iO.of (f:=⟨6,0,0,0,[],i,n,c,p⟩) aM.none_ ((R.below I bE).aF (ev 0) I.size)
 have b0:(k==0)=false:=by simpa using k0
 have b5:(k==5)=false:=by simpa using k5
 have b6:(k==6)=false:=by simpa using k6
 go_in;go_wp2;refine bL (v:=.agg #[k,e,aP,aP,(),aP,aP,aP,()]) (by simp[results,results139,go_sem]) rfl (E8 ((cT.alloc bE _).alloc (by simp) _) λI=>⟨_,rfl,?_⟩);rw[Fr.Vc k0 k5 k6];exact iO.of (f:=⟨k,e,0,0,[],0,0,0,[]⟩) aM.none_ aM.none_
theorem JR(v:Value)(f:Fr)(w:World)(h:iO false w 0 w.1.size v f):Calls prog 146 #[v] w
 λy w'=>y=.returned (.bool (Fr.yh f))/\aY w w':=by
 obtain⟨k,e,s,t,ps,i,n,c,p⟩:=f;obtain⟨A,B,x,y,rfl,F,R⟩:=h;dsimp only at F R⊢;unfold Fr.yh;dsimp only;obtain⟨_,_,he,rT,Xr,_⟩:=id R;cases he;unfold maxLen at Xr;obtain⟨b1,ee⟩:=cJ (Pc.within i 0 5);obtain⟨b2,dO⟩:=cJ (Pc.within n 1 200);obtain⟨b3,fu⟩:=cJ (Pc.within c 0 500);obtain⟨b4,ob⟩:=cJ (Pc.within (p.length:Int) 1 6);obtain⟨b5,Ao⟩:=cJ (p.all Fr.node);rw[ee,dO,fu,ob,Ao];have ha:p.any (λn=> !Fr.node n)= !b5:=by rw[Pc.EX,Ao]
 have hn:Fr.node i=b1:=ee;change aK _ at ha hn dO fu ob;clear ee Ao;go_in;go_upto_region 1 with fail
 refine bK λW0 pU=>?_;have bx:G W0 w.1.size #[k,e,s,t,.slice A ps.length x,i,n,c,.slice B p.length y] 149:=pU▸G.new _ _ _;have J:aY w W0:=pU▸cT.alloc bE _;replace R:=(R.below J bE).aF (ev 0) J.size;clear pU F;obtain⟨d0,d1,d2,d3,d4,d5,d6,d7,d8⟩:=bJ bx;go_wp2_with fail;refine(Bh i W0).mono ?_;rintro z w1 ⟨rfl,rfl⟩;rw[hn.Z];cases b1
 ·go_wp2;go_ret;exact⟨rfl,J⟩
 go_wp2_with fail;refine(kv dO.Z).mono ?_;rintro z w1 ⟨rfl,rfl⟩;cases b2
 ·go_wp2;go_ret;exact⟨rfl,J⟩
 go_wp2_with fail;refine(kv fu.Z).mono ?_;rintro z w1 ⟨rfl,rfl⟩;cases b3
 ·go_wp2;go_ret;exact⟨rfl,J⟩
 go_wp2_with fail;refine(kv ob.Z).mono ?_;rintro z w1 ⟨rfl,rfl⟩;cases b4
 ·go_wp2;go_ret;exact⟨rfl,J⟩
 go_wp2_with fail;clear d0 d1 d2 d3 d4 d5 d6 d7 d8;refine(pW 191 (λ_ _=>rfl) (λn=> !Fr.node n) (λn w=>Bh n w) _ _ _ R).mono ?_;rintro z w1 ⟨rfl,I⟩;rw[ha.Z];cases b5;all_goals
  go_wp2;go_ret
 ·exact⟨rfl,J.trans (I.mono J.size)⟩
 ·exact⟨rfl,J.trans (I.mono J.size)⟩
section
variable{P:Program}{md:Region.Mode}{ao:Exit->Act->World->Prop}
theorem aG(fw:List Nat)(ig:Nat){M mask dz:Nat}{wM:World}{l ops:List Oper}{fuel:Nat}{a:Act}{w:World}(h:wpList P l.toArray (dI λa w=>aV P md l.toArray ao M wM ig (dH l.length dz) a w) ops a w)
 (ho:(fw.map λi=>l.getD i default)=ops:=by(simp only[jR,pw,di,dX];first |done|rfl))(hs:Region.noSelect l.toArray=true:=by kernel_rfl)(iu:et l=true:=by kernel_rfl)(hQ:∀c a d v w,ao (.panic c) (a.put (some d) v) w->ao (.panic c) a w:=by exact λ_ _ _ _ _ h=>h)
 (fg:(fw.all λi=>decide (i<l.length))=true:=by kernel_rfl)(hf:fuel=ig+fw.length:=by rfl)(hm:fw.foldl (λs i=>s|||2^i) mask=dz:=by(simp only[kK,List.foldl_nil,Nat.reducePow,Nat.reduceOr];rfl))
 (iZ:DE l (l.map (bW md)) M mask fw=true:=by kernel_rfl):aV P md l.toArray ao M wM fuel (dH l.length mask) a w:=Be M mask fw dz ig hs iu hQ fg hf hm iZ (ho▸h)
theorem rD(fw:List Nat)(ig:Nat){M mask dz:Nat}{l ops:List Oper}{fuel:Nat}{a:Act}{w:World}(h:wpList P l.toArray (dI λa w'=>w=w'->aV P md l.toArray ao M w ig (dH l.length dz) a w) ops a w)
 (ho:(fw.map λi=>l.getD i default)=ops:=by(simp only[jR,pw,di,dX];first |done|rfl))(hs:Region.noSelect l.toArray=true:=by kernel_rfl)(iu:et l=true:=by kernel_rfl)(hQ:∀c a d v w,ao (.panic c) (a.put (some d) v) w->ao (.panic c) a w:=by exact λ_ _ _ _ _ h=>h)
 (fg:(fw.all λi=>decide (i<l.length))=true:=by kernel_rfl)(hf:fuel=ig+fw.length:=by rfl)(hm:fw.foldl (λs i=>s|||2^i) mask=dz:=by(simp only[kK,List.foldl_nil,Nat.reducePow,Nat.reduceOr];rfl))
 (iZ:DC l (l.map (bW md)) M mask fw=true:=by kernel_rfl):aV P md l.toArray ao M w fuel (dH l.length mask) a w:=sw M mask fw dz ig hs iu hQ fg hf hm iZ (ho▸h)
theorem tK(i:Nat){dz:Nat}{M:Nat}{wM:World}{l:List Oper}{oi:Oper}{v:Value}{fuel mask:Nat}{a:Act}{w:World}(h:aV P md l.toArray ao M wM fuel (dH l.length dz) (a.put oi.dst v) w)
 (hm:mask|||2^i=dz:=by(simp only[Nat.reducePow,Nat.reduceOr];rfl))(hi:l[i]?=some oi:=by rfl)(iu:et l=true:=by kernel_rfl)(hs:Region.noSelect l.toArray=true:=by kernel_rfl)(hf:Region.free md l.toArray (dH l.length mask) i=true:=by kernel_rfl)(hr:(ff mask (l.map (bW md)) 0).contains i=true:=by kernel_rfl)(Bb:M.testBit i=false:=by kernel_rfl)
 (hQ:∀c a w,ao (.panic c) (a.put oi.dst v) w->ao (.panic c) a w:=by exact λ_ _ _ h=>h)(hy:Yields P l.toArray oi v a:=by exact .inl ⟨by rfl,λw=>by(go_simp;try with_reducible rfl)⟩):aV P md l.toArray ao M wM (fuel+1) (dH l.length mask) a w:=mL i hi iu hm hs hf hr Bb hQ hy h
theorem tS(i:Nat){dz:Nat}{M:Nat}{wM:World}{l:List Oper}{oi:Oper}{v:Value}{fuel mask:Nat}{a a':Act}{w:World}(h:aV P md l.toArray ao M wM fuel (dH l.length dz) a' w)
 (hm:mask|||2^i=dz:=by(simp only[Nat.reducePow,Nat.reduceOr];rfl))(hi:l[i]?=some oi:=by rfl)(iu:et l=true:=by kernel_rfl)(hs:Region.noSelect l.toArray=true:=by kernel_rfl)(hf:Region.free md l.toArray (dH l.length mask) i=true:=by kernel_rfl)(hr:(ff mask (l.map (bW md)) 0).contains i=true:=by kernel_rfl)(Bb:M.testBit i=false:=by kernel_rfl)
 (hQ:∀c a w,ao (.panic c) (a.put oi.dst v) w->ao (.panic c) a w:=by exact λ_ _ _ h=>h)(hy:Yields P l.toArray oi v a:=by exact .inl ⟨by rfl,λw=>by(go_simp;try with_reducible rfl)⟩)(ha:a.put oi.dst v=a':=by(simp only[Act.put,eX,dK,dR];first |done|rfl)):aV P md l.toArray ao M wM (fuel+1) (dH l.length mask) a w:=mL i hi iu hm hs hf hr Bb hQ hy (ha▸h)
theorem oN(i:Nat){dz:Nat}{M:Nat}{wM:World}{l ops:List Oper}{fuel mask:Nat}{a:Act}{w:World}
 (F:wpList P l.toArray (dI λa w=>(M.testBit i=true->Ext wM w)/\aV P md l.toArray ao M wM fuel (dH l.length dz) a w) ops a w)
 (ho:[l.getD i default]=ops:=by(simp only[di,dX];first |done|rfl))(iu:et l=true:=by kernel_rfl)(hr:(ff mask (l.map (bW md)) 0==[i])=true:=by kernel_rfl)(pd:i<l.length:=by exact eM (by kernel_rfl))(hm:mask|||2^i=dz:=by(simp only[Nat.reducePow,Nat.reduceOr];rfl)):aV P md l.toArray ao M wM (fuel+1) (dH l.length mask) a w:=uR i dz iu hr pd hm (ho▸F)
theorem eN{M:Nat}{wM:World}{l:List Oper}{fuel mask:Nat}{a:Act}{w:World}(h:ao .normal a w)(iu:et l=true:=by kernel_rfl)(hr:(ff mask (l.map (bW md)) 0).isEmpty=true:=by kernel_rfl):aV P md l.toArray ao M wM fuel (dH l.length mask) a w:=uQ iu hr h
theorem tW(i j:Nat){m1 m2:Nat}{M:Nat}{wM:World}{l o1 o2:List Oper}{fuel mask:Nat}{a:Act}{w:World}
 (F:wpList P l.toArray (dI λa w=>(M.testBit i=true->Ext wM w)/\aV P md l.toArray ao M wM fuel (dH l.length m1) a w) o1 a w)
 (R:wpList P l.toArray (dI λa w=>(M.testBit j=true->Ext wM w)/\aV P md l.toArray ao M wM fuel (dH l.length m2) a w) o2 a w)
 (q1:[l.getD i default]=o1:=by(simp only[di,dX];first |done|rfl))(q2:[l.getD j default]=o2:=by(simp only[di,dX];first |done|rfl))
 (iu:et l=true:=by kernel_rfl)(hr:(ff mask (l.map (bW md)) 0==[i,j])=true:=by kernel_rfl)(pd:i<l.length:=by exact eM (by kernel_rfl))(wC:j<l.length:=by exact eM (by kernel_rfl))(lu:mask|||2^i=m1:=by(simp only[Nat.reducePow,Nat.reduceOr];rfl))(xH:mask|||2^j=m2:=by(simp only[Nat.reducePow,Nat.reduceOr];rfl)):aV P md l.toArray ao M wM (fuel+1) (dH l.length mask) a w:=Bf i j m1 m2 iu hr pd wC lu xH (q1▸F) (q2▸R)
theorem aJ(fw:List Nat)(ig:Nat){M mask dz:Nat}{wM:World}{l ops:List Oper}{fuel:Nat}{a:Act}{w:World}(h:wpList P l.toArray (dI λa w=>aV P md l.toArray ao M wM ig (dH l.length dz) a w) ops a w)
 (ho:(fw.map λi=>l.getD i default)=ops:=by(simp only[jR,pw,di,dX];first |done|rfl))(hs:Region.noSelect l.toArray=true:=by kernel_rfl)(iu:et l=true:=by kernel_rfl)(hQ:∀c a d v w,ao (.panic c) (a.put (some d) v) w->ao (.panic c) a w:=by exact λ_ _ _ _ _ h=>h)
 (fg:(fw.all λi=>decide (i<l.length))=true:=by kernel_rfl)(hf:fuel=ig+fw.length:=by rfl)(hm:fw.foldl (λs i=>s|||2^i) mask=dz:=by(simp only[kK,List.foldl_nil,Nat.reducePow,Nat.reduceOr];rfl))
 (iZ:DE l (l.map (bW md)) M mask fw=true:=by kernel_rfl):dI (λa w=>aV P md l.toArray ao M wM fuel (dH l.length mask) a w) .normal a w:=Be M mask fw dz ig hs iu hQ fg hf hm iZ (ho▸h)
theorem rJ(fw:List Nat)(ig:Nat){M mask dz:Nat}{l ops:List Oper}{fuel:Nat}{a:Act}{w:World}(h:wpList P l.toArray (dI λa w'=>w=w'->aV P md l.toArray ao M w ig (dH l.length dz) a w) ops a w)
 (ho:(fw.map λi=>l.getD i default)=ops:=by(simp only[jR,pw,di,dX];first |done|rfl))(hs:Region.noSelect l.toArray=true:=by kernel_rfl)(iu:et l=true:=by kernel_rfl)(hQ:∀c a d v w,ao (.panic c) (a.put (some d) v) w->ao (.panic c) a w:=by exact λ_ _ _ _ _ h=>h)
 (fg:(fw.all λi=>decide (i<l.length))=true:=by kernel_rfl)(hf:fuel=ig+fw.length:=by rfl)(hm:fw.foldl (λs i=>s|||2^i) mask=dz:=by(simp only[kK,List.foldl_nil,Nat.reducePow,Nat.reduceOr];rfl))
 (iZ:DC l (l.map (bW md)) M mask fw=true:=by kernel_rfl):dI (λa w'=>aV P md l.toArray ao M w fuel (dH l.length mask) a w') .normal a w:=sw M mask fw dz ig hs iu hQ fg hf hm iZ (ho▸h)
theorem tJ(i:Nat){dz:Nat}{M:Nat}{wM:World}{l:List Oper}{oi:Oper}{v:Value}{fuel mask:Nat}{a:Act}{w:World}(h:aV P md l.toArray ao M wM fuel (dH l.length dz) (a.put oi.dst v) w)
 (hm:mask|||2^i=dz:=by(simp only[Nat.reducePow,Nat.reduceOr];rfl))(hi:l[i]?=some oi:=by rfl)(iu:et l=true:=by kernel_rfl)(hs:Region.noSelect l.toArray=true:=by kernel_rfl)(hf:Region.free md l.toArray (dH l.length mask) i=true:=by kernel_rfl)(hr:(ff mask (l.map (bW md)) 0).contains i=true:=by kernel_rfl)(Bb:M.testBit i=false:=by kernel_rfl)
 (hQ:∀c a w,ao (.panic c) (a.put oi.dst v) w->ao (.panic c) a w:=by exact λ_ _ _ h=>h)(hy:Yields P l.toArray oi v a:=by exact .inl ⟨by rfl,λw=>by(go_simp;try with_reducible rfl)⟩):dI (λa w=>aV P md l.toArray ao M wM (fuel+1) (dH l.length mask) a w) .normal a w:=mL i hi iu hm hs hf hr Bb hQ hy h
theorem sJ(i:Nat){dz:Nat}{M:Nat}{wM:World}{l:List Oper}{oi:Oper}{v:Value}{fuel mask:Nat}{a a':Act}{w:World}(h:aV P md l.toArray ao M wM fuel (dH l.length dz) a' w)
 (hm:mask|||2^i=dz:=by(simp only[Nat.reducePow,Nat.reduceOr];rfl))(hi:l[i]?=some oi:=by rfl)(iu:et l=true:=by kernel_rfl)(hs:Region.noSelect l.toArray=true:=by kernel_rfl)(hf:Region.free md l.toArray (dH l.length mask) i=true:=by kernel_rfl)(hr:(ff mask (l.map (bW md)) 0).contains i=true:=by kernel_rfl)(Bb:M.testBit i=false:=by kernel_rfl)
 (hQ:∀c a w,ao (.panic c) (a.put oi.dst v) w->ao (.panic c) a w:=by exact λ_ _ _ h=>h)(hy:Yields P l.toArray oi v a:=by exact .inl ⟨by rfl,λw=>by(go_simp;try with_reducible rfl)⟩)(ha:a.put oi.dst v=a':=by(simp only[Act.put,eX,dK,dR];first |done|rfl)):dI (λa w=>aV P md l.toArray ao M wM (fuel+1) (dH l.length mask) a w) .normal a w:=mL i hi iu hm hs hf hr Bb hQ hy (ha▸h)
theorem oJ(i:Nat){dz:Nat}{M:Nat}{wM:World}{l ops:List Oper}{fuel mask:Nat}{a:Act}{w:World}
 (F:wpList P l.toArray (dI λa w=>(M.testBit i=true->Ext wM w)/\aV P md l.toArray ao M wM fuel (dH l.length dz) a w) ops a w)
 (ho:[l.getD i default]=ops:=by(simp only[di,dX];first |done|rfl))(iu:et l=true:=by kernel_rfl)(hr:(ff mask (l.map (bW md)) 0==[i])=true:=by kernel_rfl)(pd:i<l.length:=by exact eM (by kernel_rfl))(hm:mask|||2^i=dz:=by(simp only[Nat.reducePow,Nat.reduceOr];rfl)):dI (λa w=>aV P md l.toArray ao M wM (fuel+1) (dH l.length mask) a w) .normal a w:=uR i dz iu hr pd hm (ho▸F)
theorem eJ{M:Nat}{wM:World}{l:List Oper}{fuel mask:Nat}{a:Act}{w:World}(h:ao .normal a w)(iu:et l=true:=by kernel_rfl)(hr:(ff mask (l.map (bW md)) 0).isEmpty=true:=by kernel_rfl):dI (λa w=>aV P md l.toArray ao M wM fuel (dH l.length mask) a w) .normal a w:=uQ iu hr h
theorem wJ(i j:Nat){m1 m2:Nat}{M:Nat}{wM:World}{l o1 o2:List Oper}{fuel mask:Nat}{a:Act}{w:World}
 (F:wpList P l.toArray (dI λa w=>(M.testBit i=true->Ext wM w)/\aV P md l.toArray ao M wM fuel (dH l.length m1) a w) o1 a w)
 (R:wpList P l.toArray (dI λa w=>(M.testBit j=true->Ext wM w)/\aV P md l.toArray ao M wM fuel (dH l.length m2) a w) o2 a w)
 (q1:[l.getD i default]=o1:=by(simp only[di,dX];first |done|rfl))(q2:[l.getD j default]=o2:=by(simp only[di,dX];first |done|rfl))
 (iu:et l=true:=by kernel_rfl)(hr:(ff mask (l.map (bW md)) 0==[i,j])=true:=by kernel_rfl)(pd:i<l.length:=by exact eM (by kernel_rfl))(wC:j<l.length:=by exact eM (by kernel_rfl))(lu:mask|||2^i=m1:=by(simp only[Nat.reducePow,Nat.reduceOr];rfl))(xH:mask|||2^j=m2:=by(simp only[Nat.reducePow,Nat.reduceOr];rfl)):dI (λa w=>aV P md l.toArray ao M wM (fuel+1) (dH l.length mask) a w) .normal a w:=Bf i j m1 m2 iu hr pd wC lu xH (q1▸F) (q2▸R)
theorem fX{av:Act->World->Prop}{a:Act}{w:World}(h:av a w):dI av .normal a w:=h
theorem iJ{av:Act->World->Prop}{a:Act}{w w0:World}(h:av a w):dI (λa w'=>w0=w'->av a w') .normal a w:=λ_=>h
end
end Go.Proofs.YtmgahjkopiaglaaGreat
