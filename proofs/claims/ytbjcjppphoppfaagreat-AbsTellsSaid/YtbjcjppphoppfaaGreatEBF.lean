import Derived.Test.YtbjcjppphoppfaaGreatEBE
set_option linter.all false
namespace Go.Proofs.YtbjcjppphoppfaaGreat.M
open Go.Proofs.YtbjcjppphoppfaaGreat.T hiding a8 ae av aH aw bd bM cC
def Dm (m:aK) (x:aq) (pc t:Nat) (ret:Int):cr:=(x.1+(t-(cj m pc).toNat),(((pc/256-1:Nat):Int),(((pc %256:Nat):Int)-ret,((jz x (x.1+(t-(cj m pc).toNat))).2.1,((jz x (x.1+(t-(cj m pc).toNat))).2.2.1,())))))
def zV (m:aK) (x:aq) (pc t:Nat):Bool:=
 !decide ((jz x (x.1+(t-(cj m pc).toNat))).2.2.2=0)||(!(decide ((jz x (x.1+(t-(cj m pc).toNat))).1=0)==decide (t-(cj m pc).toNat=0))||(decide ((jz x (x.1+(t-(cj m pc).toNat))).2.1=0)&&(!decide ((jz x (x.1+(t-(cj m pc).toNat))).1=0)&&decide ((jz x (x.1+(t-(cj m pc).toNat))).1 %256=0))))
def t9 (m:aK) (x:aq) (pc t:Nat) (ret:Int) (acc:List cr):(List cr×Int)⊕(Nat×Nat×Int×List cr):=
 if p9 m pc=true then .inl ([],6)
 else if 4096<cj m pc\/(t:Int)<cj m pc then .inl ([],16)
 else if zV m x pc t=true then .inl ([],12)
 else if(jz x (x.1+(t-(cj m pc).toNat))).1=0 then .inl (acc++[Dm m x pc t ret],0)
 else .inr ((jz x (x.1+(t-(cj m pc).toNat))).1,t-(cj m pc).toNat,if(jz x (x.1+(t-(cj m pc).toNat))).2.1=0 then 1 else 0,acc++[Dm m x pc t ret])
def BJ (m:aK) (x:aq):Nat->Nat->Nat->Int->List cr->List cr×Int
 |0,_,_,_,_=>([],0)
 |n+1,pc,t,ret,acc=>match t9 m x pc t ret acc with
  | .inl r=>r
  | .inr (pc',t',ret',acc')=>BJ m x n pc' t' ret' acc'
structure zS (x:aq) (pc t:Nat) (ret:Int) (acc:List cr):Prop where
 pp:pc<18446744073709551616
 tt:t<=x.2.1.length
 rr:ret=0\/ret=1
 aa:acc.length+t<=5000
theorem a0d {x:aq} (hf:Fit aP x) (a:Nat):(jz x a).1<18446744073709551616:=by
 have hb:=kG hf.2.1;unfold jz;split
 ·split
  ·split
   ·exact mE hb _
   ·decide
  ·decide
 ·decide
theorem Bk {m:aK} (hm:oD m) {x:aq} (hf:Fit aP x) {pc t:Nat} {ret:Int} {acc:List cr} (I:zS x pc t ret acc) {pc' t':Nat} {ret':Int} {acc':List cr} (h:t9 m x pc t ret acc= .inr (pc',t',ret',acc')):zS x pc' t' ret' acc'/\t'<t:=by
 unfold t9 at h;split at h
 ·cases h
 ·rename_i hn;have uh:p9 m pc=false:=by simpa using hn
  have hs:=qB hm uh;split at h
  ·cases h
  ·rename_i hc;split at h
   ·cases h
   ·split at h
    ·cases h
    ·injection h with h
     injection h with h1 h
     injection h with h2 h
     injection h with h3 h4
     have it:=I.tt;have ia:=I.aa;refine⟨⟨by rw[<-h1];exact a0d hf _,ade,?_,?_⟩,ade⟩
     ·rw[<-h3];split
      ·exact Or.inr rfl
      ·exact Or.inl rfl
     ·rw[<-h4,ado,adJ];omega
theorem Cz {S E:Type} {m:aK} (hm:oD m) {x:aq} (hf:Fit aP x) {f:S->Option (T.LR S E (List cr×Int))} (enc:Nat->Nat->Int->List cr->S) (h:∀pc t ret acc,zS x pc t ret acc->f (enc pc t ret acc)=some (match t9 m x pc t ret acc with| .inl r=> .rt r| .inr (pc',t',ret',acc')=> .ok (enc pc' t' ret' acc'))):
 ∀(n pc t:Nat) (ret:Int) (acc:List cr) (N:Nat),zS x pc t ret acc->t<n->n<=N->T.iter f N (enc pc t ret acc)=some (.rt (BJ m x n pc t ret acc))
 |0,_,_,_,_,_,_,hn,_=>absurd hn ade
 |n+1,pc,t,ret,acc,0,_,_,hN=>absurd hN ade
 |n+1,pc,t,ret,acc,N+1,I,hn,hN=>by
  show Option.bind (f _) (λr=>T.LR.rec (T.iter f N) (λs=>some (.ex s)) (λq=>some (.rt q)) r)=_;rw[h pc t ret acc I];unfold BJ;cases hs:t9 m x pc t ret acc with
  |inl r=>rfl
  |inr s=>
   obtain⟨pc',t',ret',acc'⟩:=s;obtain⟨I',ht⟩:=Bk hm hf I hs;exact Cz hm hf enc h n pc' t' ret' acc' N I' ade ade
theorem CM {S E ρ:Type} {m:aK} (hm:oD m) {x:aq} (hf:Fit aP x) {f:S->Option (T.LR S E (List cr×Int))} {kx:E->Option ρ} {kr:List cr×Int->Option ρ} (enc:Nat->Nat->Int->List cr->S) (h:∀pc t ret acc,zS x pc t ret acc->f (enc pc t ret acc)=some (match t9 m x pc t ret acc with| .inl r=> .rt r| .inr (pc',t',ret',acc')=> .ok (enc pc' t' ret' acc'))) {n pc t:Nat} {ret:Int} {acc:List cr} (I:zS x pc t ret acc) (hn:t<n) (hN:n<=1000000):loop S E (List cr×Int) f (enc pc t ret acc) kx kr=kr (BJ m x n pc t ret acc):=by
 unfold loop;rw[Cz hm hf enc h n pc t ret acc 9223372036854775808 I hn ade];rfl
theorem T4 {m:aK} (Jb:Fit bJ m) (h0:iG m=0) {x:aq} (hf:Fit aP x) (hb:rV x=true) {pc:Nat} (hp:pc<18446744073709551616):Zl x m pc=some (BJ m x (x.2.1.length+1) pc x.2.1.length 0 []):=by
 have hm:=j7 h0;obtain⟨b0,b1,b2,b3,b4,b5⟩:=pD hb;have hl:=hf.2.1.len;unfold Zl;have etop:cP 7 x.1 (bF 7 (x.2.1.length:Int))=x.1+x.2.1.length:=Qh b0;rw[etop];refine(CM (n:=x.2.1.length+1) (E:=Int×List cr) hm hf (λpc t ret acc=>(pc,x.1+t,ret,acc)) (λpc t ret acc I=> ?_) ⟨hp,adw _,Or.inl rfl,by simp;omega⟩ ade ade).trans rfl;have it:=I.tt;have ia:=I.aa;dsimp only;rw[ZH (by have:=Jb.2.2.1.len;omega) I.pp,a9];unfold t9
 by_cases hn:p9 m pc=true
 ·rw[adp hn,adp hn,aD (c:=an false) rfl];rfl
 ·have uh:p9 m pc=false:=by simpa using hn
  have hs:=qB hm uh;have hnb:=Hp uh;rw[adq hn,adq hn,aC (c:=an true) rfl];dsimp only;rw[ZI Jb h0 uh,a9];obtain⟨sz,mK⟩:∃sz:Nat,cj m pc=sz:=⟨(cj m pc).toNat,ade⟩;rw[mK] at hs;have e1:bF 7 (cj m pc)=sz:=by rw[mK,ky ade]
  have e2:eE 7 (x.1+t) x.1=t:=by rw[rq ade ade];omega
  rw[e1,e2,aW,aW,bR,join_some]
  by_cases hc:4096<cj m pc\/(t:Int)<cj m pc
  ·rw[adp hc,aD]
   ·rfl
   ·rw[aec,adk,adk];omega
  ·have hc':(decide (4096<sz)||decide (t<sz))=false:=by
    rw[ad',adj,adj];omega
   have e3:eE 7 (x.1+t) sz=x.1+(t-(cj m pc).toNat):=by rw[rq ade ade];omega
   rw[adq hc,hc',aC rfl,e3,ZJ hf ade,a9];have eb:aR (x.1+(t-(cj m pc).toNat)) x.1=decide (t-(cj m pc).toNat=0):=by rw[ax];congr 1;rw[eq_iff_iff];omega
   have Nr:∀{ρ:Type} (k:Option ρ),T.gO 256 k=k:=λk=>by rw[T.e9,adq (by decide)]
   have oN:(join Bool (af (an (bm (jz x (x.1+(t-(cj m pc).toNat))).2.2.2 0)) (λ_=>(some true)) λ_=>(af (aR (jz x (x.1+(t-(cj m pc).toNat))).1 0) (λ_=>(af (an (aR (x.1+(t-(cj m pc).toNat)) x.1)) (λ_=>(some true)) λ_=>(af (an (aR (jz x (x.1+(t-(cj m pc).toNat))).1 0)) (λ_=>(af (aR (x.1+(t-(cj m pc).toNat)) x.1) (λ_=>(some true)) λ_=>(af (aR (jz x (x.1+(t-(cj m pc).toNat))).2.1 0) (λ_=>(af (an (aR (jz x (x.1+(t-(cj m pc).toNat))).1 0)) (λ_=>(gO 256 (some (aR (eV (jz x (x.1+(t-(cj m pc).toNat))).1 256) 0)))) λ_=>(some false))) λ_=>(some false)))) λ_=>(af (aR (jz x (x.1+(t-(cj m pc).toNat))).2.1 0) (λ_=>(af (an (aR (jz x (x.1+(t-(cj m pc).toNat))).1 0)) (λ_=>(gO 256 (some (aR (eV (jz x (x.1+(t-(cj m pc).toNat))).1 256) 0)))) λ_=>(some false))) λ_=>(some false))))) λ_=>(af (an (aR (jz x (x.1+(t-(cj m pc).toNat))).1 0)) (λ_=>(af (aR (x.1+(t-(cj m pc).toNat)) x.1) (λ_=>(some true)) λ_=>(af (aR (jz x (x.1+(t-(cj m pc).toNat))).2.1 0) (λ_=>(af (an (aR (jz x (x.1+(t-(cj m pc).toNat))).1 0)) (λ_=>(gO 256 (some (aR (eV (jz x (x.1+(t-(cj m pc).toNat))).1 256) 0)))) λ_=>(some false))) λ_=>(some false)))) λ_=>(af (aR (jz x (x.1+(t-(cj m pc).toNat))).2.1 0) (λ_=>(af (an (aR (jz x (x.1+(t-(cj m pc).toNat))).1 0)) (λ_=>(gO 256 (some (aR (eV (jz x (x.1+(t-(cj m pc).toNat))).1 256) 0)))) λ_=>(some false))) λ_=>(some false))))) (λv=>some v))=some (zV m x pc t):=by
    unfold zV;rw[eb];simp only[Nr,T.dR,aA,ax,aG,bX,bR];generalize(jz x (x.1+(t-(cj m pc).toNat)))=hd
    by_cases q1:hd.1=0
    ·simp only[q1,ads,ao,adA];generalize decide (hd.2.2.2=0)=p1;generalize decide (t-(cj m pc).toNat=0)=p2;generalize decide (hd.2.1=0)=p3;cases p1<;>cases p2<;>cases p3<;>rfl
    ·simp only[q1,decide_false,ao,ae7,aeb];generalize decide (hd.2.2.2=0)=p1;generalize decide (t-(cj m pc).toNat=0)=p2;generalize decide (hd.2.1=0)=p3;generalize decide (hd.1 %256=0)=p4;cases p1<;>cases p2<;>cases p3<;>cases p4<;>rfl
   have a9I:=λ(K:Bool->Option (T.LR (Nat×(Nat×(Int×(List cr)))) (Int×(List cr)) ((List cr)×Int)))=>congrArg (λo=>Option.bind o K) oN
   have hjj:∀{ρ:Type} (o:Option Bool) (K:Bool->Option ρ),join Bool o K=Option.bind (join Bool o (λv=>some v)) K:=λo K=>by cases o<;>rfl
   rw[hjj,oN,Option.bind_some]
   by_cases EN:zV m x pc t=true
   ·rw[adp EN,aD EN];rfl
   ·rw[adq EN,aC (by simpa using EN),aY (by rw[ay];omega)];have esp:bq 3 ((pc %256:Nat):Int) ret=((pc %256:Nat):Int)-ret:=by
     rcases I.rr with r|r<;>rw[r]<;>exact cD ade ade
    rw[esp]
    by_cases BF:(jz x (x.1+(t-(cj m pc).toNat))).1=0
    ·rw[adp BF,aD (by rw[ax];exact adm BF)];rfl
    ·rw[adq BF,aC (by rw[ax];exact adl BF)]
     by_cases Cn:(jz x (x.1+(t-(cj m pc).toNat))).2.1=0
     ·rw[adp Cn,aD (by rw[ax];exact adm Cn)];rfl
     ·rw[adq Cn,aC (by rw[ax];exact adl Cn)];rfl
theorem BS {m:aK} {x:aq} {pc t:Nat}:(af (an (bm (jz x (x.1+(t-(cj m pc).toNat))).2.2.2 0)) (λ_=>(some true)) λ_=>(af (an (E4 (aR (jz x (x.1+(t-(cj m pc).toNat))).1 0) (aR (t-(cj m pc).toNat) 0))) (λ_=>(some true)) λ_=>(af (aR (jz x (x.1+(t-(cj m pc).toNat))).2.1 0) (λ_=>(af (an (aR (jz x (x.1+(t-(cj m pc).toNat))).1 0)) (λ_=>(gO 256 (some (aR (eV (jz x (x.1+(t-(cj m pc).toNat))).1 256) 0)))) λ_=>(some false))) λ_=>(some false))))=some (zV m x pc t):=by
 have Nr:∀{ρ:Type} (k:Option ρ),T.gO 256 k=k:=λk=>by rw[T.e9,adq (by decide)]
 unfold zV;simp only[Nr,T.dR,aA,ax,aG,bg,bX,bR]
theorem qX {m:aK} (Jb:Fit bJ m) (h0:iG m=0) {x:aq} (hf:Fit aP x) (hb:rV x=true) {pc t:Nat} {ret:Int} {acc:List cr} (I:zS x pc t ret acc):
 (p9 m pc=false->4096<cj m pc\/(t:Int)<cj m pc\/(cj m pc<=4096/\cj m pc<=t/\bF 7 (cj m pc)=(cj m pc).toNat/\eE 7 t (bF 7 (cj m pc))=t-(cj m pc).toNat/\cP 7 x.1 (t-(cj m pc).toNat)=x.1+(t-(cj m pc).toNat)/\x.1+(t-(cj m pc).toNat)<18446744073709551616))/\
 ∀k:Nat,bq 3 ((pc %256:Nat):Int) ret=((pc %256:Nat):Int)-ret:=by
 have hm:=j7 h0;obtain⟨b0,b1,b2,b3,b4,b5⟩:=pD hb;have it:=I.tt;refine⟨λhn=> ?_,λ_=>by rcases I.rr with r|r<;>rw[r]<;>exact cD ade ade⟩;have hs:=qB hm hn
 by_cases h1:4096<cj m pc
 ·exact Or.inl h1
 ·by_cases h2:(t:Int)<cj m pc
  ·exact Or.inr (Or.inl h2)
  ·right;right;obtain⟨sz,mK⟩:∃sz:Nat,cj m pc=sz:=⟨(cj m pc).toNat,ade⟩;rw[mK,ky ade,adx];exact⟨ade,ade,rfl,rq ade ade,gS ade,ade⟩
theorem T1 {m:aK} (Jb:Fit bJ m) {x:aq} (hf:Fit aP x) {pc:Nat} (hp:pc<18446744073709551616):Za x m pc=some (if rV x=true then(if iG m=0 then BJ m x (x.2.1.length+1) pc x.2.1.length 0 [] else([],iG m)) else([],8)):=by
 have hl:=hf.2.1.len;unfold Za;rw[T8 ade,a9]
 by_cases hb:rV x=true
 ·rw[adp hb,aC cE,GU Jb,a9,adp hb]
  by_cases h0:iG m=0
  ·have hm:=j7 h0;obtain⟨b0,b1,b2,b3,b4,b5⟩:=pD hb;rw[aC (cQ h0),adp h0];have I:zS x pc x.2.1.length 0 []:=⟨hp,adw _,Or.inl rfl,by simp;omega⟩;have a8e:bF 7 (x.2.1.length:Int)=x.2.1.length:=ky ade;rw[a8e];have one:=(qX Jb h0 hf hb I).1;have ret:=(qX Jb h0 hf hb I).2 0;generalize ht:x.2.1.length=t at I one ret;unfold BJ t9;rw[MX Jb hp,adp h0,a9,T9 Jb h0 hp,a9]
   by_cases hn:p9 m pc=true
   ·rw[adp hn,adp hn,adp hn,aD (bG (show(6:Int)≠0 by decide))]
   ·have uh:p9 m pc=false:=by simpa using hn
    have hs:=qB hm uh;rw[adq hn,adq hn,adq hn,aC cE];dsimp only;rcases one uh with h1|h1|⟨h1,h2,h3,h4,h5,h6⟩
    ·rw[adp h1,aD (bG (show(16:Int)≠0 by decide)),join_some,aD rfl,adp (Or.inl h1)]
    ·by_cases h1':4096<cj m pc
     ·rw[adp h1',aD (bG (show(16:Int)≠0 by decide)),join_some,aD rfl,adp (Or.inl h1')]
     ·obtain⟨sz,mK⟩:∃sz:Nat,cj m pc=sz:=⟨(cj m pc).toNat,ade⟩;have e1:eF t (bF 7 (cj m pc))=true:=by rw[mK,ky ade,aW];exact adf
      rw[adq h1',aC cE];dsimp only;rw[e1,join_some,aD rfl,adp (Or.inr h1)]
    ·have e1:eF t (cj m pc).toNat=false:=by rw[aW];exact adg
     rw[adq (show¬4096<cj m pc by omega),aC cE];dsimp only;rw[h4,h3,h5,e1,join_some,aC rfl,Ta hf h6,a9,BS,join_some,adq (show¬(4096<cj m pc\/(t:Int)<cj m pc) by omega)]
     by_cases EN:zV m x pc t=true
     ·rw[adp EN,aD EN]
     ·rw[adq EN,aC (by simpa using EN),aY (by decide),ret]
      by_cases BF:(jz x (x.1+(t-(cj m pc).toNat))).1=0
      ·rw[adp BF,aC (by rw[aA,ax,adm BF];rfl)];rfl
      ·rw[adq BF,aD (by rw[aA,ax,adl BF];rfl)];have Np:(af (aR (jz x (x.1+(t-(cj m pc).toNat))).2.1 0) (λ_=>(some (1:Int))) λ_=>(some 0))=some (if(jz x (x.1+(t-(cj m pc).toNat))).2.1=0 then 1 else 0):=by
        rw[ao,ax]
        by_cases h:(jz x (x.1+(t-(cj m pc).toNat))).2.1=0<;>simp[h]
       rw[Np,join_some];have I2:=Bk hm hf I (pc':=(jz x (x.1+(t-(cj m pc).toNat))).1) (t':=t-(cj m pc).toNat) (ret':=if(jz x (x.1+(t-(cj m pc).toNat))).2.1=0 then 1 else 0) (acc':=[]++[Dm m x pc t 0]) (by
        unfold t9;rw[adq hn,adi,adq EN,adq BF])
       refine(CM (n:=t) (E:=Int×List cr) hm hf (λpc t ret acc=>(pc,t,ret,acc)) (λpc t ret acc I=> ?_) I2.1 ade ade).trans rfl;have one:=(qX Jb h0 hf hb I).1;have a87:=(qX Jb h0 hf hb I).2 0;have ia:=I.aa;have it:=I.tt;dsimp only;rw[MX Jb I.pp,adp h0,a9,T9 Jb h0 I.pp,a9];unfold t9
       by_cases hn:p9 m pc=true
       ·rw[adp hn,adp hn,adp hn,aD (bG (show(6:Int)≠0 by decide))];rfl
       ·have uh:p9 m pc=false:=by simpa using hn
        have hs:=qB hm uh;rw[adq hn,adq hn,adq hn,aC cE];dsimp only;rcases one uh with h1|h1|⟨h1,h2,h3,h4,h5,h6⟩
        ·rw[adp h1,aD (bG (show(16:Int)≠0 by decide)),join_some,aD rfl,adp (Or.inl h1)];rfl
        ·by_cases h1':4096<cj m pc
         ·rw[adp h1',aD (bG (show(16:Int)≠0 by decide)),join_some,aD rfl,adp (Or.inl h1')];rfl
         ·obtain⟨sz,mK⟩:∃sz:Nat,cj m pc=sz:=⟨(cj m pc).toNat,ade⟩;have e1:eF t (bF 7 (cj m pc))=true:=by rw[mK,ky ade,aW];exact adf
          rw[adq h1',aC cE];dsimp only;rw[e1,join_some,aD rfl,adp (Or.inr h1)];rfl
        ·have e1:eF t (cj m pc).toNat=false:=by rw[aW];exact adg
         rw[adq (show¬4096<cj m pc by omega),aC cE];dsimp only;rw[h4,h3,h5,e1,join_some,aC rfl,Ta hf h6,a9,BS,join_some,adq (show¬(4096<cj m pc\/(t:Int)<cj m pc) by omega)]
         by_cases EN:zV m x pc t=true
         ·rw[adp EN,aD EN];rfl
         ·rw[adq EN,aC (by simpa using EN),aY (by rw[ay];omega),a87]
          by_cases BF:(jz x (x.1+(t-(cj m pc).toNat))).1=0
          ·rw[adp BF,aC (by rw[aA,ax,adm BF];rfl)];rfl
          ·rw[adq BF,aD (by rw[aA,ax,adl BF];rfl)];have Np:(af (aR (jz x (x.1+(t-(cj m pc).toNat))).2.1 0) (λ_=>(some (1:Int))) λ_=>(some 0))=some (if(jz x (x.1+(t-(cj m pc).toNat))).2.1=0 then 1 else 0):=by
            rw[ao,ax]
            by_cases h:(jz x (x.1+(t-(cj m pc).toNat))).2.1=0<;>simp[h]
           rw[Np,join_some];rfl
  ·rw[aD (bG h0),adq h0]
 ·rw[adq hb,aD (bG (show(8:Int)≠0 by decide)),adq hb]
theorem Tx {S E Q S' E' Q':Type} {f:S->Option (T.LR S E Q)} {g:S'->Option (T.LR S' E' Q')} (R:S->S'->Prop) (RE:E->E'->Prop) (RQ:Q->Q'->Prop) (m:S->Nat)
 (h:∀s s',R s s'->(∃t t',f s=some (.ok t)/\g s'=some (.ok t')/\R t t'/\m t<m s)\/(∃e e',f s=some (.ex e)/\g s'=some (.ex e')/\RE e e')\/(∃q q',f s=some (.rt q)/\g s'=some (.rt q')/\RQ q q')):
 ∀(N:Nat) (s:S) (s':S'),R s s'->m s<N->(∃e e',T.iter f N s=some (.ex e)/\T.iter g N s'=some (.ex e')/\RE e e')\/(∃q q',T.iter f N s=some (.rt q)/\T.iter g N s'=some (.rt q')/\RQ q q')
 |0,_,_,_,h=>absurd h ade
 |N+1,s,s',hR,hm=>by
  rcases h s s' hR with⟨t,t',h1,h2,h3,h4⟩|⟨e,e',h1,h2,h3⟩|⟨q,q',h1,h2,h3⟩
  ·have ih:=Tx R RE RQ m h N t t' h3 ade;have e1:T.iter f (N+1) s=T.iter f N t:=by
    show Option.bind (f s) _=_;rw[h1];rfl
   have e2:T.iter g (N+1) s'=T.iter g N t':=by
    show Option.bind (g s') _=_;rw[h2];rfl
   rw[e1,e2];exact ih
  ·refine Or.inl ⟨e,e',?_,?_,h3⟩
   ·show Option.bind (f s) _=_;rw[h1];rfl
   ·show Option.bind (g s') _=_;rw[h2];rfl
  ·refine Or.inr ⟨q,q',?_,?_,h3⟩
   ·show Option.bind (f s) _=_;rw[h1];rfl
   ·show Option.bind (g s') _=_;rw[h2];rfl
theorem TD {S E Q S' E' Q' ρ ρ':Type} {f:S->Option (T.LR S E Q)} {g:S'->Option (T.LR S' E' Q')} {s:S} {s':S'} {kx:E->Option ρ} {kr:Q->Option ρ} {kx':E'->Option ρ'} {kr':Q'->Option ρ'} (R:S->S'->Prop) (RE:E->E'->Prop) (RQ:Q->Q'->Prop) (m:S->Nat) (hs:R s s') (hm:m s<9223372036854775808)
 (h:∀s s',R s s'->(∃t t',f s=some (.ok t)/\g s'=some (.ok t')/\R t t'/\m t<m s)\/(∃e e',f s=some (.ex e)/\g s'=some (.ex e')/\RE e e')\/(∃q q',f s=some (.rt q)/\g s'=some (.rt q')/\RQ q q')):
 (∃e e',RE e e'/\loop S E Q f s kx kr=kx e/\loop S' E' Q' g s' kx' kr'=kx' e')\/(∃q q',RQ q q'/\loop S E Q f s kx kr=kr q/\loop S' E' Q' g s' kx' kr'=kr' q'):=by
 rcases Tx R RE RQ m h 9223372036854775808 s s' hs hm with⟨e,e',h1,h2,h3⟩|⟨q,q',h1,h2,h3⟩
 ·refine Or.inl ⟨e,e',h3,?_,?_⟩
  ·unfold loop;rw[h1];rfl
  ·unfold loop;rw[h2];rfl
 ·refine Or.inr ⟨q,q',h3,?_,?_⟩
  ·unfold loop;rw[h1];rfl
  ·unfold loop;rw[h2];rfl
theorem jI {x:aq} (h:fS x=true):ko x=0/\x.1=65536/\x.2.1.length<=16384:=by
 unfold fS at h;simp only[adr,adk] at h;have:ko x=0:=by
  unfold ko OZ;rw[adp];simp only[adr,adk];omega
 exact⟨this,h.1,ade⟩
theorem NN (x:aq):oP x 0=if fS x=true then 0 else 8:=by
 unfold oP;rw[adq (show¬((0:Int)<0\/(16384:Int)<0) by decide)]
def kn (x:aq) (a o:Nat):Nat:=cX x.2.1 (a-x.1+o) 8
theorem HI {x:aq} (hf:Fit aP x) (h0:ko x=0) {a n:Nat} (fe:gl x a (n:Int)=true) {o:Nat} (ho:o+8<=n):N2 x (a+o) 8=some (kn x a o,0):=by
 have hk:=fI h0;obtain⟨i1,i2⟩:=fG fe;rw[Tk hf ade];unfold RW kn;have fe:gl x (a+o) 8=true:=by
  unfold gl;rw[adf,adf];rfl
 rw[adp h0,adq (by decide),adp fe,show a+o-x.1=a-x.1+o by omega];rfl
theorem pU {x:aq} (hf:Fit aP x) (h0:ko x=0) {a n:Nat} (fe:gl x a (n:Int)=true) {o:Nat} (ho:o+8<=n):jm x (a+o) 8=some (kn x a o):=by
 have hk:=fI h0;obtain⟨i1,i2⟩:=fG fe;have:=Aa hf (a:=a+o) (k:=8) ade ade ade ade ade;rw[show a+o-x.1=a-x.1+o by omega] at this;exact this
def PW (x:aq) (a:Nat):Nat->List Nat
 |0=>[]
 |k+1=>PW x a k++[kn x a (8*k)]
theorem rP (x:aq) (a:Nat):∀k,(PW x a k).length=k
 |0=>rfl
 |k+1=>by rw[PW,ado,rP x a k];rfl
theorem i_ (x:aq) (a:Nat):∀{k j:Nat},j<k->a8 (PW x a k) j=kn x a (8*j)
 |k+1,j,h=>by
  by_cases hj:j<k
  ·rw[PW,dI (by rw[rP];exact hj),i_ x a hj]
  ·have:j=k:=by omega
   subst this;rw[PW,gE (rP x a j)]
theorem DS {x:aq} (h0:ko x=0) {a n:Nat} (fe:gl x a (n:Int)=true) {o:Nat} (ho:o<=n):cP 7 a o=a+o:=by
 have hk:=fI h0;obtain⟨i1,i2⟩:=fG fe;exact gS ade
abbrev dn0:bW:=(0,(0,(0,(false,(0,())))))
def E2 (x:aq) (a:Nat):bW×Int:=
 if fS x=true then(if gl x a 40=true/\a %8=0 then(if 32<=kn x a 16\/1<kn x a 24\/(kn x a 24=0/\kn x a 32≠0) then(dn0,12) else((kn x a 0,(kn x a 8,((kn x a 16:Int),(decide (kn x a 24=1),(kn x a 32,()))))),0)) else(dn0,16)) else(dn0,8)
theorem V0 {x:aq} (hf:Fit aP x) {a:Nat} (ha:a<18446744073709551616):KP x a=some (E2 x a):=by
 have hl:=hf.2.1.len;unfold KP E2;rw[yB ade,a9,NN]
 by_cases hb:fS x=true
 ·obtain⟨h0,h1,h2⟩:=jI hb;have DM:∀{ρ:Type} (k:Option ρ),T.gO 8 k=k:=λk=>by rw[T.e9,adq (by decide)]
  rw[adp hb,adp rfl,aC cE,Cf ade ha,adp h0,adq (by decide),a9,wh h0 (by decide),DM,T.dR,aA,ax,aA,bR,join_some,adp hb]
  by_cases hi:gl x a 40=true/\a %8=0
  ·have z5:(hY (.ar 5 (.u 7)):List Nat)=List.replicate 5 0:=rfl;rw[hi.1,adm hi.2,aC (c:= !true|| !true) rfl,adp ⟨rfl,hi.2⟩,z5];rw[aV (λk=>((k:Int),PW x a k++List.replicate (5-k) 0)) 5 (PW x a 5) ?_ ade ?_ ?_]
   ·have c:∀{ρ:Type} (j:Nat) (k:Nat->Option ρ),j<5->T.ai 5 (j:Int) k=k j:=λj k hj=>by rw[ak,adp hj]
    have c0:∀{ρ:Type} (k:Nat->Option ρ),T.ai 5 0 k=k 0:=λk=>c 0 k ade
    have c1:∀{ρ:Type} (k:Nat->Option ρ),T.ai 5 1 k=k 1:=λk=>c 1 k ade
    have c2:∀{ρ:Type} (k:Nat->Option ρ),T.ai 5 2 k=k 2:=λk=>c 2 k ade
    have c3:∀{ρ:Type} (k:Nat->Option ρ),T.ai 5 3 k=k 3:=λk=>c 3 k ade
    have c4:∀{ρ:Type} (k:Nat->Option ρ),T.ai 5 4 k=k 4:=λk=>c 4 k ade
    simp only[c0,c1,c2,c3,c4,i_ x a (show 0<5 by omega),i_ x a (show 1<5 by omega),i_ x a (show 2<5 by omega),i_ x a (show 3<5 by omega),i_ x a (show 4<5 by omega),aZ,aW,ax,aA,bX,bR,join_some,Nat.mul_zero,Nat.mul_one,Nat.reduceMul]
    by_cases oN:32<=kn x a 16\/1<kn x a 24\/(kn x a 24=0/\kn x a 32≠0)
    ·rw[adp oN,aD (by simpa using oN)]
    ·rw[adq oN,aC,gk ade];simpa using oN
   ·rfl
   ·intro k hk;have e1:cP 7 a (bF 7 (fg 3 8 (k:Int)))=a+8*k:=by
     rw[eh ade ade,show(8:Int)*(k:Int)=((8*k:Nat):Int) by omega,ky ade,DS h0 (n:=40) hi.1 ade]
    have lt:aO (k:Int) 5=true:=by rw[aE];exact adf
    simp only[lt,ao,adA,e1,HI hf h0 (n:=40) hi.1 (o:=8*k) ade,a9,ak,hk,mz (rP x a k) hk,aU (show k<9223372036854775807 by omega)];rfl
   ·have lt:aO ((5:Nat):Int) 5=false:=by rw[aE];rfl
    simp only[lt,ao,aep,List.replicate_zero,adP];rfl
  ·rw[adq hi,aD];rw[aec,adn,adn,adj]
   by_cases h:gl x a 40=true
   ·exact Or.inr λh8=>hi ⟨h,h8⟩
   ·exact Or.inl (by simpa using h)
 ·rw[adq hb,adq (by decide),aD (bG (show(8:Int)≠0 by decide)),adq hb]
theorem Ve {x:aq} (hf:Fit aP x) {a:Nat} (ha:a<18446744073709551616):L5 x a=some (E2 x a):=by
 have hl:=hf.2.1.len;unfold L5 E2;rw[yA ade,a9]
 by_cases hb:fS x=true
 ·obtain⟨h0,h1,h2⟩:=jI hb;have DM:∀{ρ:Type} (k:Option ρ),T.gO 8 k=k:=λk=>by rw[T.e9,adq (by decide)]
  rw[hb,aC (c:=an true) rfl,DM,T.dR,aA,ax,nc h0 ha (by decide),a9,aA,bR,join_some,adp rfl]
  by_cases hi:gl x a 40=true/\a %8=0
  ·have r0:jm x a 8=some (kn x a 0):=pU hf h0 (n:=40) hi.1 (o:=0) ade;rw[hi.1,adm hi.2,aC (c:= !true|| !true) rfl,adp ⟨rfl,hi.2⟩,DS h0 (n:=40) hi.1 ade,DS h0 (n:=40) hi.1 ade,DS h0 (n:=40) hi.1 ade,DS h0 (n:=40) hi.1 ade,pU hf h0 (n:=40) hi.1 ade,pU hf h0 (n:=40) hi.1 ade,pU hf h0 (n:=40) hi.1 ade,pU hf h0 (n:=40) hi.1 ade,r0];simp only[a9];have e1:(af (gf 32 (kn x a 16)) (λ_=>(some true)) λ_=>(af (an (aR (kn x a 24) 0)) (λ_=>(af (an (aR (kn x a 24) 1)) (λ_=>(some true)) λ_=>(af (aR (kn x a 24) 0) (λ_=>(some (eF 0 (kn x a 32)))) λ_=>(some false)))) λ_=>(af (aR (kn x a 24) 0) (λ_=>(some (eF 0 (kn x a 32)))) λ_=>(some false))))=some (decide (32<=kn x a 16\/1<kn x a 24\/(kn x a 24=0/\kn x a 32≠0))):=by
    simp only[aZ,aW,ax,aA];generalize kn x a 16=p;generalize kn x a 24=q;generalize kn x a 32=r;rcases Nat.lt_trichotomy q 1 with h|h|h
    ·have:q=0:=by omega
     subst this;simp only[ao]
     by_cases h1:32<=p<;>by_cases h2:r=0<;>simp[h1,h2]<;>omega
    ·subst h;simp only[ao]
     by_cases h1:32<=p<;>simp[h1]
    ·have:q≠0:=by omega
     have:q≠1:=ade;simp only[ao]
     by_cases h1:32<=p<;>simp[h1, *]
   rw[e1,join_some,ax]
   by_cases oN:32<=kn x a 16\/1<kn x a 24\/(kn x a 24=0/\kn x a 32≠0)
   ·rw[adp oN,aD (adm oN)]
   ·rw[adq oN,aC (adl oN),gk ade]
  ·rw[adq hi,aD];rw[aec,adn,adn,adj]
   by_cases h:gl x a 40=true
   ·exact Or.inl λh8=>hi ⟨h,h8⟩
   ·exact Or.inr (by simpa using h)
 ·have WN:fS x=false:=by simpa using hb
  rw[WN,aD (c:=an false) rfl,adq (by decide)]
def mA (a:Nat):Nat:=if 1048576<a then 2097152 else a
theorem Y' {x:aq} {a:Nat} (h:(E2 x a).2=0):a<=100000:=by
 unfold E2 at h;split at h
 ·rename_i hb;obtain⟨h0,h1,h2⟩:=jI hb;split at h
  ·rename_i hi;have:=fG hi.1;omega
  ·cases h
 ·cases h
theorem Qb {x:aq} (hf:Fit aP x) (a:Nat):(E2 x a).1.1<18446744073709551616:=by
 have hb:=kG hf.2.1;unfold E2;split
 ·split
  ·split
   ·decide
   ·exact mE hb _
  ·decide
 ·decide
theorem SQ {x:aq} (a:Nat):0<=(E2 x a).1.2.2.1/\(E2 x a).1.2.2.1<32:=by
 unfold E2;split
 ·split
  ·split
   ·decide
   ·rename_i h;dsimp only;omega
  ·decide
 ·decide
theorem Zy {x:aq} (hf:Fit aP x) {a:Nat} (ha:a<18446744073709551616):∃r,f58 x a=some r/\f77 x a=some r/\(r.2=0->r.1.length<=4194304/\∀d∈r.1,0<=d.2.2.1/\d.2.2.1<32/\d.1<18446744073709551616):=by
 have hl:=hf.2.1.len;unfold f58 f77;rw[yB ade,a9,NN,yA ade,a9]
 by_cases hb:fS x=true
 ·rw[adp hb,adp rfl,aC cE,aC (by rw[hb];rfl)];have key:=TD (S:=Nat×List bW) (E:=List bW) (Q:=List bW×Int) (S':=Nat×List bW) (E':=List bW) (Q':=List bW×Int) (ρ:=List bW×Int) (ρ':=List bW×Int)
   (f:=(λv1=>(af (an (aR v1.1 0)) (λ_=>(bind (KP x v1.1) (λv2=>(af (an (bm v2.2 0)) (λ_=>(bT ([],v2.2))) λ_=>(af (gf v1.1 v2.1.1) (λ_=>(bT ([],32))) λ_=>(bj (aJ v1.2.length 1) (bh (v2.1.1,(aw v1.2 [v2.1]))))))))) λ_=>(lex v1.2))))
   (g:=(λv1=>(af (an (aR v1.1 0)) (λ_=>(bind (L5 x v1.1) (λv2=>(af (an (bm v2.2 0)) (λ_=>(bT ([],v2.2))) λ_=>(af (gf v1.1 v2.1.1) (λ_=>(bT ([],32))) λ_=>(bj (aJ v1.2.length 1) (bh (v2.1.1,(aw v1.2 [v2.1]))))))))) λ_=>(lex v1.2))))
   (s:=(a,[])) (s':=(a,[])) (kx:=λv1=>some (v1,0)) (kr:=λv1=>some (v1.1,v1.2)) (kx':=λv1=>some (v1,0)) (kr':=λv1=>some (v1.1,v1.2))
   (λs s'=>s=s'/\s.1<18446744073709551616/\s.2.length+mA s.1<=4194304/\∀d∈s.2,0<=d.2.2.1/\d.2.2.1<32/\d.1<18446744073709551616) (λe e'=>e=e'/\e.length<=4194304/\∀d∈e,0<=d.2.2.1/\d.2.2.1<32/\d.1<18446744073709551616) (λq q'=>q=q'/\q.2≠0) (λs=>mA s.1) ⟨rfl,ha,by unfold mA;dsimp only;split<;>simp<;>omega,λd hd=>(by cases hd)⟩ (by unfold mA;dsimp only;split<;>omega) ?_
  ·rcases key with⟨e,e',⟨rfl,q1,q2⟩,h1,h2⟩|⟨q,q',⟨rfl,q1⟩,h1,h2⟩
   ·exact⟨_,h1,h2,λ_=>⟨q1,q2⟩⟩
   ·exact⟨_,h1,h2,λh=>absurd h q1⟩
  ·rintro⟨at1,acc⟩ s' ⟨rfl,I1,I2,I3⟩;dsimp only at I1 I2 I3⊢
   by_cases hz:at1=0
   ·rw[aC (by rw[aA,ax,adm hz];rfl),aC (by rw[aA,ax,adm hz];rfl)];exact Or.inr (Or.inl ⟨acc,acc,rfl,rfl,rfl,ade,I3⟩)
   ·rw[aD (by rw[aA,ax,adl hz];rfl),aD (by rw[aA,ax,adl hz];rfl),V0 hf I1,Ve hf I1,a9]
    by_cases he:(E2 x at1).2=0
    ·have fe:=Y' he;have hnx:=Qb hf at1;rw[aC (cQ he),aZ]
     by_cases hle:at1<=(E2 x at1).1.1
     ·rw[aD (adm hle)];exact Or.inr (Or.inr ⟨_,_,rfl,rfl,rfl,(by decide)⟩)
     ·have hm:mA (E2 x at1).1.1<mA at1:=by unfold mA;split<;>split<;>omega
      have J7:acc.length<=4194304:=ade;rw[aC (adl hle),aY (by rw[ay];omega)];refine Or.inl ⟨_,_,rfl,rfl,⟨rfl,hnx,?_,λd hd=> ?_⟩,hm⟩;rotate_left
      ·rcases adC.1 hd with hd|hd
       ·exact I3 d hd
       ·rw[adF] at hd;rw[hd];exact⟨(SQ at1).1,(SQ at1).2,hnx⟩
      show(acc++[_]).length+mA (E2 x at1).1.1<=_;rw[ado,adJ];omega
    ·rw[aD (bG he)];exact Or.inr (Or.inr ⟨_,_,rfl,rfl,rfl,he⟩)
 ·rw[adq hb,adq (by decide),aD (bG (show(8:Int)≠0 by decide)),aD (by rw[show fS x=false by simpa using hb];rfl)];exact⟨_,rfl,rfl,λh=>absurd h (by decide)⟩
abbrev pn0:bL:=(0,(0,(0,(0,(0,(0,(0,())))))))
def DU (x:aq) (a:Nat):bL:=(kn x a 0,(kn x a 8,(kn x a 16,(kn x a 24,(kn x a 32,(kn x a 40,(kn x a 48,())))))))
def uw (p:bL):Bool:=
 (if p.2.1=0 then decide (p.2.2.1=0)&&decide (p.2.2.2.1=0) else if p.2.1=1 then decide (p.2.2.2.1=0) else if p.2.1=2 then decide (p.2.2.1<=1)&&decide (p.2.2.2.1=0) else if p.2.1=3 then decide (p.2.2.2.1<=64) else if p.2.1=4 then(decide (1<=p.2.2.1)&&decide (p.2.2.1<=3))&&decide (p.2.2.2.1=0) else false)
 &&((if p.2.1=0 then decide (p.2.2.2.2.1=2)||decide (p.2.2.2.2.1=6) else decide (p.2.2.2.2.1=0)||(decide (p.2.2.2.2.1=1)||(decide (p.2.2.2.2.1=4)||decide (p.2.2.2.2.1=5))))
 &&(decide (p.2.2.2.2.2.1=0/\p.2.2.2.2.2.2.1=0)||decide (0<p.2.2.2.2.2.2.1/\p.2.2.2.2.2.2.1<p.2.2.2.2.2.1)))
theorem Vq (p:bL):Qw p=some (uw p):=by
 obtain⟨nx,tag,X,Y,fl,cl,fr,u⟩:=p;unfold Qw uw;dsimp only;have e1:(af (eF 7 fl) (λ_=>(some true)) λ_=>(af (an (E4 (aR tag 0) (an (aR (fW fl 2) 0)))) (λ_=>(some true)) λ_=>(af (aR tag 0) (λ_=>(some (an (aR (fW fl 1) 0)))) λ_=>(some false))))=some (!(if tag=0 then decide (fl=2)||decide (fl=6) else decide (fl=0)||(decide (fl=1)||(decide (fl=4)||decide (fl=5))))):=by
  simp only[aW,ax,aA,bg,bX,bR,T.mV];refine congrArg some ?_
  by_cases h7:7<fl
  ·rw[adm h7,Bool.true_or];split
   ·simp;omega
   ·simp;omega
  ·rw[adl h7,Bool.false_or];have h8:fl=0\/fl=1\/fl=2\/fl=3\/fl=4\/fl=5\/fl=6\/fl=7:=ade
   by_cases ht:tag=0
   ·rw[adp ht,adm ht];rcases h8 with rfl|rfl|rfl|rfl|rfl|rfl|rfl|rfl<;>rfl
   ·rw[adq ht,adl ht];rcases h8 with rfl|rfl|rfl|rfl|rfl|rfl|rfl|rfl<;>rfl
 have e2:(af (an (aR cl 0)) (λ_=>(af (aR fr 0) (λ_=>(some true)) λ_=>(some (gf cl fr)))) λ_=>(af (an (aR fr 0)) (λ_=>(af (aR fr 0) (λ_=>(some true)) λ_=>(some (gf cl fr)))) λ_=>(some false)))=some (!(decide (cl=0/\fr=0)||decide (0<fr/\fr<cl))):=by
  simp only[aZ,ax,aA,bX,bR]
  by_cases q1:cl=0
  ·subst q1
   by_cases q2:fr=0
   ·subst q2;rfl
   ·simp[ao,q2]
  ·by_cases q2:fr=0
   ·subst q2;simp[ao,q1]
   ·simp[ao,q1,q2]
    by_cases q3:cl<=fr<;>simp[q3]<;>omega
 rw[e1,e2,join_some,join_some];generalize(if tag=0 then decide (fl=2)||decide (fl=6) else decide (fl=0)||(decide (fl=1)||(decide (fl=4)||decide (fl=5))))=B1;generalize(decide (cl=0/\fr=0)||decide (0<fr/\fr<cl))=B2;cases B1 with
 |false=>rw[aD (c:= !false) rfl];simp
 |true=>
  rw[aC (c:= !true) rfl];cases B2 with
  |false=>rw[aD (c:= !false) rfl];simp
  |true=>
   rw[aC (c:= !true) rfl];simp only[aZ,ax,bX,join_some,Bool.and_true]
   by_cases t1:tag=1
   ·subst t1;simp[ao]
   ·by_cases t2:tag=2
    ·subst t2;simp[ao]
    ·by_cases t3:tag=3
     ·subst t3;simp[ao]
     ·by_cases t4:tag=4
      ·subst t4;simp[ao,Bool.and_assoc]
      ·by_cases t0:tag=0
       ·subst t0;simp[ao]
       ·simp[ao,t0,t1,t2,t3,t4]
theorem W1 (p:bL):R0 p=some (uw p):=by
 obtain⟨nx,tag,X,Y,fl,cl,fr,u⟩:=p;unfold R0 uw;dsimp only;have e2:(af (aR cl 0) (λ_=>(af (aR fr 0) (λ_=>(some true)) λ_=>(af (eF 0 fr) (λ_=>(some (eF fr cl))) λ_=>(some false)))) λ_=>(af (eF 0 fr) (λ_=>(some (eF fr cl))) λ_=>(some false)))=some (decide (cl=0/\fr=0)||decide (0<fr/\fr<cl)):=by
  simp only[aW,ax,bX,bR]
  by_cases q1:cl=0
  ·subst q1;simp[ao]
  ·simp[ao,q1]
 rw[e2];simp only[ax,aZ,bX,bR,join_some]
 by_cases t0:tag=0
 ·subst t0;simp[ao,join_some]
  try grind
 ·by_cases t1:tag=1
  ·subst t1;simp[ao,join_some]
  ·by_cases t2:tag=2
   ·subst t2
    by_cases x0:X=0
    ·subst x0;simp[ao,join_some]
    ·by_cases x1:X=1
     ·subst x1;simp[ao,join_some]
     ·have x2:¬X<=1:=by omega
      simp[ao,join_some,x0,x1,x2]
   ·by_cases t3:tag=3
    ·subst t3;simp[ao,join_some]
    ·by_cases t4:tag=4
     ·subst t4
      by_cases x1:X=1
      ·subst x1;simp[ao,join_some]
      ·by_cases x2:X=2
       ·subst x2;simp[ao,join_some]
       ·by_cases x3:X=3
        ·subst x3;simp[ao,join_some]
        ·have x4:¬(1<=X/\X<=3):=by omega
         have x5:(decide (1<=X)&&decide (X<=3))=false:=by
          rw[ae6,adj,adj];omega
         rw[adq (by decide),adq (by decide),adq (by decide),adq (by decide),adp rfl,x5];simp[ao,join_some,x1,x2,x3]
     ·simp[ao,join_some,t0,t1,t2,t3,t4]
def Fl (x:aq) (a:Nat):bL×Int:=
 if fS x=true then(if gl x a 56=true/\a %8=0 then(if uw (DU x a)=true then(DU x a,0) else(pn0,12)) else(pn0,16)) else(pn0,8)
theorem L7 {x:aq} (hf:Fit aP x) (h0:ko x=0) {a:Nat} (hi:gl x a 56=true):IF x a=some (DU x a):=by
 have r0:jm x a 8=some (kn x a 0):=pU hf h0 (n:=56) hi (o:=0) ade;have ad:=λ{o} ho=>DS h0 (n:=56) hi (o:=o) ho
 have rr:=λ{o} ho=>pU hf h0 (n:=56) hi (o:=o) ho
 unfold IF DU;rw[ad ade,ad ade,ad ade,ad ade,ad ade,ad ade,r0,rr ade,rr ade,rr ade,rr ade,rr ade,rr ade];rfl
theorem Vp {x:aq} (hf:Fit aP x) {a:Nat} (ha:a<18446744073709551616):Qv x a=some (if fS x=true then(if gl x a 56=true/\a %8=0 then 0 else 16) else 8):=by
 have hl:=hf.2.1.len;unfold Qv KR;rw[yB ade,NN]
 by_cases hb:fS x=true
 ·obtain⟨h0,h1,h2⟩:=jI hb;have DM:∀{ρ:Type} (k:Option ρ),T.gO 8 k=k:=λk=>by rw[T.e9,adq (by decide)]
  rw[adp hb,adp rfl,a9,a9,aC cE,Cf ade ha,adp h0,adq (by decide),a9,wh h0 (by decide),DM,T.dR,aA,ax,aA,bR,join_some,adp hb]
  by_cases hi:gl x a 56=true/\a %8=0
  ·rw[hi.1,adm hi.2,aC (c:= !true|| !true) rfl,adp ⟨rfl,hi.2⟩]
  ·rw[adq hi,aD];rw[aec,adn,adn,adj]
   by_cases h:gl x a 56=true
   ·exact Or.inr λh8=>hi ⟨h,h8⟩
   ·exact Or.inl (by simpa using h)
 ·rw[adq hb,adq (by decide),a9,a9,aD (bG (show(8:Int)≠0 by decide)),adq hb]
theorem V' {x:aq} (hf:Fit aP x) {a:Nat} (ha:a<18446744073709551616):M0 x a=some (if fS x=true then(if gl x a 56=true/\a %8=0 then 0 else 16) else 8):=by
 have hl:=hf.2.1.len;unfold M0;rw[yA ade,a9]
 by_cases hb:fS x=true
 ·obtain⟨h0,h1,h2⟩:=jI hb;have DM:∀{ρ:Type} (k:Option ρ),T.gO 8 k=k:=λk=>by rw[T.e9,adq (by decide)]
  rw[hb,aC (c:=an true) rfl,DM,T.dR,aA,ax,nc h0 ha (by decide),a9,aA,bR,join_some,adp rfl]
  by_cases hi:gl x a 56=true/\a %8=0
  ·rw[hi.1,adm hi.2,aC (c:= !true|| !true) rfl,adp ⟨rfl,hi.2⟩]
  ·rw[adq hi,aD];rw[aec,adn,adn,adj]
   by_cases h:gl x a 56=true
   ·exact Or.inl λh8=>hi ⟨h,h8⟩
   ·exact Or.inr (by simpa using h)
 ·have WN:fS x=false:=by simpa using hb
  rw[WN,aD (c:=an false) rfl,adq (by decide)]
theorem V3 {x:aq} (hf:Fit aP x) {a:Nat} (ha:a<18446744073709551616):KS x a=some (Fl x a):=by
 unfold KS Fl;rw[Vp hf ha,a9]
 by_cases hb:fS x=true
 ·obtain⟨h0,h1,h2⟩:=jI hb;rw[adp hb,adp hb]
  by_cases hi:gl x a 56=true/\a %8=0
  ·have z7:(hY (.ar 7 (.u 7)):List Nat)=List.replicate 7 0:=rfl;rw[adp hi,adp hi,aC cE,z7];rw[aV (λk=>((k:Int),PW x a k++List.replicate (7-k) 0)) 7 (PW x a 7) ?_ ade ?_ ?_]
   ·have c:∀{ρ:Type} (j:Nat) (k:Nat->Option ρ),j<7->T.ai 7 (j:Int) k=k j:=λj k hj=>by rw[ak,adp hj]
    have c0:∀{ρ:Type} (k:Nat->Option ρ),T.ai 7 0 k=k 0:=λk=>c 0 k ade
    have c1:∀{ρ:Type} (k:Nat->Option ρ),T.ai 7 1 k=k 1:=λk=>c 1 k ade
    have c2:∀{ρ:Type} (k:Nat->Option ρ),T.ai 7 2 k=k 2:=λk=>c 2 k ade
    have c3:∀{ρ:Type} (k:Nat->Option ρ),T.ai 7 3 k=k 3:=λk=>c 3 k ade
    have c4:∀{ρ:Type} (k:Nat->Option ρ),T.ai 7 4 k=k 4:=λk=>c 4 k ade
    have c5:∀{ρ:Type} (k:Nat->Option ρ),T.ai 7 5 k=k 5:=λk=>c 5 k ade
    have c6:∀{ρ:Type} (k:Nat->Option ρ),T.ai 7 6 k=k 6:=λk=>c 6 k ade
    simp only[c0,c1,c2,c3,c4,c5,c6,i_ x a (show 0<7 by omega),i_ x a (show 1<7 by omega),i_ x a (show 2<7 by omega),i_ x a (show 3<7 by omega),i_ x a (show 4<7 by omega),i_ x a (show 5<7 by omega),i_ x a (show 6<7 by omega),Vq,a9,Nat.mul_zero,Nat.mul_one,Nat.reduceMul];show af (an (uw (DU x a))) (λ_=>some (pn0,12)) (λ_=>some (DU x a,0))=_;cases uw (DU x a)<;>rfl
   ·rfl
   ·intro k hk;have e1:cP 7 a (bF 7 (fg 3 8 (k:Int)))=a+8*k:=by
     rw[eh ade ade,show(8:Int)*(k:Int)=((8*k:Nat):Int) by omega,ky ade,DS h0 (n:=56) hi.1 ade]
    have lt:aO (k:Int) 7=true:=by rw[aE];exact adf
    simp only[lt,ao,adA,e1,HI hf h0 (n:=56) hi.1 (o:=8*k) ade,a9,ak,hk,mz (rP x a k) hk,aU (show k<9223372036854775807 by omega)];rfl
   ·have lt:aO ((7:Nat):Int) 7=false:=by rw[aE];rfl
    simp only[lt,ao,aep,List.replicate_zero,adP];rfl
  ·rw[adq hi,adq hi,aD (bG (show(16:Int)≠0 by decide))]
 ·rw[adq hb,adq hb,aD (bG (show(8:Int)≠0 by decide))]
theorem VB {x:aq} (hf:Fit aP x) {a:Nat} (ha:a<18446744073709551616):Lr x a=some (Fl x a):=by
 unfold Lr Fl;rw[V' hf ha,a9]
 by_cases hb:fS x=true
 ·obtain⟨h0,h1,h2⟩:=jI hb;rw[adp hb,adp hb]
  by_cases hi:gl x a 56=true/\a %8=0
  ·rw[adp hi,adp hi,aC cE,L7 hf h0 hi.1,a9,W1,a9];cases uw (DU x a)<;>rfl
  ·rw[adq hi,adq hi,aD (bG (show(16:Int)≠0 by decide)),a9]
 ·rw[adq hb,adq hb,aD (bG (show(8:Int)≠0 by decide)),a9]
theorem OG {x:aq} {a:Nat} (h:(Fl x a).2=0):a<=100000/\gl x a 56=true/\ko x=0/\(Fl x a).1=DU x a/\uw (DU x a)=true:=by
 unfold Fl at h⊢;split at h
 ·rename_i hb;obtain⟨h0,h1,h2⟩:=jI hb;split at h
  ·rename_i hi;split at h
   ·rename_i hv;have:=fG hi.1;rw[adp hb,adp hi,adp hv];exact⟨ade,hi.1,h0,rfl,hv⟩
   ·cases h
  ·cases h
 ·cases h
def DI (x:aq) (l:List Nat):Nat->List bL
 |0=>[]
 |k+1=>DI x l k++[DU x (a8 l k)]
theorem FR (x:aq) (l:List Nat) (a:Nat):∀k,k<=l.length->DI x (l++[a]) k=DI x l k
 |0,_=>rfl
 |k+1,h=>by
  rw[DI,DI,FR x l a k ade,dI ade]
theorem mf (x:aq) (l:List Nat):∀k,(DI x l k).length=k
 |0=>rfl
 |k+1=>by rw[DI,ado,mf x l k];rfl
theorem Kv (x:aq) (l:List Nat):∀{k j:Nat},j<k->a8 (DI x l k) j=DU x (a8 l j)
 |k+1,j,h=>by
  by_cases hj:j<k
  ·rw[DI,dI (by rw[mf];exact hj),Kv x l hj]
  ·have:j=k:=by omega
   subst this;rw[DI,gE (mf x l j)]
theorem ZB {x:aq} (hf:Fit aP x) {a:Nat} (ha:a<18446744073709551616):∃r,f63 x a=some r/\f80 x a=some r/\(r.2=0->r.1.length<=4194304/\∀i,i<r.1.length->∃b,a8 r.1 i=DU x b/\uw (DU x b)=true):=by
 have hl:=hf.2.1.len;unfold f63 f80 Vf KR;rw[yB ade,NN,yA ade]
 by_cases hb:fS x=true
 ·rw[adp hb,adp rfl,a9,a9,aC cE,a9,aC (by rw[hb];rfl)];have key:=TD (S:=Nat×List bL) (E:=List bL) (Q:=List bL×Int) (S':=Nat×List Nat) (E':=List Nat) (Q':=List Nat×Int) (ρ:=List bL×Int) (ρ':=List Nat×Int)
   (f:=(λv1=>(af (an (aR v1.1 0)) (λ_=>(bind (KS x v1.1) (λv2=>(af (an (bm v2.2 0)) (λ_=>(bT ([],v2.2))) λ_=>(af (gf v1.1 v2.1.1) (λ_=>(bT ([],32))) λ_=>(bj (aJ v1.2.length 1) (bh (v2.1.1,(aw v1.2 [v2.1]))))))))) λ_=>(lex v1.2))))
   (g:=(λv1=>(af (an (aR v1.1 0)) (λ_=>(bind (Lr x v1.1) (λv2=>(af (an (bm v2.2 0)) (λ_=>(bT ([],v2.2))) λ_=>(af (gf v1.1 v2.1.1) (λ_=>(bT ([],32))) λ_=>(bj (aJ v1.2.length 1) (bh (v2.1.1,(aw v1.2 [v1.1]))))))))) λ_=>(lex v1.2))))
   (s:=(a,[])) (s':=(a,[])) (kx:=λv1=>some (v1,0)) (kr:=λv1=>some (v1.1,v1.2)) (kx':=λv1=>some (v1,0)) (kr':=λv1=>some (v1.1,v1.2))
   (λs s'=>s.1=s'.1/\s.2=DI x s'.2 s'.2.length/\s.1<18446744073709551616/\s'.2.length+mA s.1<=4194304/\∀b∈s'.2,(Fl x b).2=0) (λe e'=>e=DI x e' e'.length/\e'.length<=4194304/\∀b∈e',(Fl x b).2=0) (λq q'=>q.1=[]/\q'.1=[]/\q.2=q'.2/\q.2≠0) (λs=>mA s.1) ⟨rfl,rfl,ha,by unfold mA;dsimp only;split<;>simp<;>omega,λb hb=>(by cases hb)⟩ (by unfold mA;dsimp only;split<;>omega) ?_
  ·rcases key with⟨e,e',⟨rfl,hn,hk⟩,h1,h2⟩|⟨q,q',⟨h3,h4,h5,h6⟩,h1,h2⟩
   ·refine⟨_,h1,?_⟩;rw[h2,a9];dsimp only;rw[aV (λk=>((k:Int),DI x e' k)) e'.length (DI x e' e'.length) ?_ ade ?_ ?_]
    ·refine⟨rfl,λ_=>⟨by rw[mf];exact hn,λi hi=> ?_⟩⟩;rw[mf] at hi;rw[Kv x e' hi];exact⟨_,rfl,(OG (hk (a8 e' i) (by rw[bz hi];exact adT _))).2.2.2.2⟩
    ·rfl
    ·intro k hk';have:=OG (hk (a8 e' k) (by rw[bz hk'];exact adT _));simp only[cZ,hk',ao,ads,adA,ak,L7 hf this.2.2.1 this.2.1,a9,aU (show k<9223372036854775807 by omega)];rw[aY (by rw[ay,mf];omega)];rfl
    ·simp only[ba,ao];rfl
   ·refine⟨_,h1,?_⟩;rw[h2,a9];dsimp only;rw[h4];rw[aV (λk=>((k:Int),([]:List bL))) 0 [] ?_ ade ?_ ?_]
    ·exact⟨by rw[h3,h5],λh=>absurd h h6⟩
    ·rfl
    ·intro k hk;exact absurd hk (adS _)
    ·dsimp only;rw[aC (by rw[aE];rfl)];rfl
  ·rintro⟨at1,acc⟩ ⟨at2,acc'⟩ ⟨I0,I1,I2,I3,I4⟩;dsimp only at I0 I1 I2 I3 I4⊢;subst I0
   by_cases hz:at1=0
   ·rw[aC (by rw[aA,ax,adm hz];rfl),aC (by rw[aA,ax,adm hz];rfl)];exact Or.inr (Or.inl ⟨acc,acc',rfl,rfl,I1,ade,I4⟩)
   ·rw[aD (by rw[aA,ax,adl hz];rfl),aD (by rw[aA,ax,adl hz];rfl),V3 hf I2,VB hf I2,a9,a9]
    by_cases he:(Fl x at1).2=0
    ·obtain⟨p1,p2,p3,p4,p5⟩:=OG he;have hnx:(Fl x at1).1.1<18446744073709551616:=by
      rw[p4];exact mE (kG hf.2.1) _
     rw[aC (cQ he),aC (cQ he),aZ]
     by_cases hle:at1<=(Fl x at1).1.1
     ·rw[aD (adm hle),aD (adm hle)];exact Or.inr (Or.inr ⟨_,_,rfl,rfl,rfl,rfl,rfl,(by decide)⟩)
     ·have hm:mA (Fl x at1).1.1<mA at1:=by unfold mA;split<;>split<;>omega
      have hal:acc.length=acc'.length:=by rw[I1,mf]
      rw[aC (adl hle),aC (adl hle),aY (by rw[ay];omega),aY (by rw[ay];omega)];refine Or.inl ⟨_,_,rfl,rfl,⟨rfl,?_,hnx,?_,?_⟩,hm⟩
      ·show acc++[(Fl x at1).1]=DI x (acc'++[at1]) (acc'++[at1]).length;rw[ado,adJ];show _=DI x (acc'++[at1]) acc'.length++[DU x (a8 (acc'++[at1]) acc'.length)];rw[FR x acc' at1 _ (adw _),lO,p4,I1]
      ·show(acc'++[at1]).length+mA (Fl x at1).1.1<=_;rw[ado,adJ];omega
      ·intro b hb;rcases adC.1 hb with hb|hb
       ·exact I4 b hb
       ·rw[adF] at hb;rw[hb];exact he
    ·rw[aD (bG he),aD (bG he)];exact Or.inr (Or.inr ⟨_,_,rfl,rfl,rfl,rfl,rfl,he⟩)
 ·rw[adq hb,adq (by decide),a9,a9,aD (bG (show(8:Int)≠0 by decide)),a9,aD (by rw[show fS x=false by simpa using hb];rfl),a9];refine⟨_,rfl,?_⟩;dsimp only;rw[aV (λk=>((k:Int),([]:List bL))) 0 [] ?_ ade ?_ ?_]
  ·exact⟨rfl,λh=>absurd h (by decide)⟩
  ·rfl
  ·intro k hk;exact absurd hk (adS _)
  ·dsimp only;rw[aC (by rw[aE];rfl)];rfl
def kj (l:List (List Nat)) (lim:Int):Nat->aq×List Nat
 |0=>((65536,[],()),[])
 |k+1=>((l9 (kj l lim k).1 (a8 l k) lim).1,(kj l lim k).2++[(l9 (kj l lim k).1 (a8 l k) lim).2.1])
def rJ (l:List (List Nat)) (lim:Int) (k:Nat):Bool:=decide ((l9 (kj l lim k).1 (a8 l k) lim).2.2=0)
abbrev YB:aq:=(0,[],())
def txC (l:List (List Nat)) (lim:Int):aq×(List Nat×Int):=
 if lim<0\/16384<lim then(YB,[],2) else if 32<(l.length:Int) then(YB,[],4) else if(List.range l.length).all (λi=> !decide (64<((a8 l i).length:Int)))=true then
  (if(List.range l.length).all (rJ l lim)=true then((kj l lim l.length).1,(kj l lim l.length).2,0) else(YB,[],(l9 (kj l lim (fB (rJ l lim) l.length)).1 (a8 l (fB (rJ l lim) l.length)) lim).2.2)) else(YB,[],2)
theorem Se {x:aq} {b:List Nat} {lim:Int} (h:(l9 x b lim).2.2=0) (hl:lim<=16384):(l9 x b lim).1.2.1.length<=16384:=by
 unfold l9 at h⊢;split at h
 ·rename_i h0;obtain⟨z,hn,ea,hf⟩:=ph h0;have hs:=Pg b.length;rw[adp h0];simp only[ado,adz];omega
 ·rename_i h0;exact absurd h h0
theorem Bv {l:List (List Nat)} {lim:Int} (hl:lim<=16384):∀k,(∀j,j<k->rJ l lim j=true)->(kj l lim k).1.2.1.length<=16384/\(kj l lim k).2.length=k
 |0,_=>by simp[kj]
 |k+1,h=>by
  have ih:=Bv hl k λj hj=>h j ade
  have hk:=aed (h k ade);refine⟨Se hk hl,?_⟩;show((kj l lim k).2++[_]).length=_;rw[ado,ih.2];rfl
theorem Zp {l:List (List Nat)} (h:Fit (.sl .s) l) (lim:Int):f50 l lim=some (txC l lim):=by
 have n_:=h.len;unfold f50 f92 txC;rw[a9];dsimp only;have hrb:fS ((65536,[],()):aq)=true:=by decide
 rw[Th (x:=(65536,[],())) (show(0:Nat)<_ by decide),adp hrb,a9]
 by_cases uf:lim<0\/16384<lim
 ·rw[adp uf,adp uf,aD (bG (by decide)),aD (bG (by decide))]
 ·rw[adq uf,adq uf,aC cE]
  by_cases Rr:32<(l.length:Int)
  ·rw[adp Rr,aD (by rw[aE];exact adm Rr),aD (bG (by decide))]
  ·rw[adq Rr,aC (by rw[aE];exact adl Rr)];rw[fZ (λi=>((i:Int),65536,(),0,[],[])) l.length (λi=> !decide (64<((a8 l i).length:Int))) (65536,(),2,[],[]) (65536,(),0,[],[]) ?_ ade ?_ ?_];rotate_left
   ·rfl
   ·intro i hi;simp only[cZ,hi,ao,ads,adA,ak,aE,bh,bT,aU (show i<9223372036854775807 by omega)];grind
   ·simp only[ba,ao];rfl
   by_cases K2:(List.range l.length).all (λi=> !decide (64<((a8 l i).length:Int)))=true
   ·rw[adp K2,adp K2];rw[bS (λi=>((i:Int),(kj l lim i).1.1,(kj l lim i).1.2.2,0,(kj l lim i).1.2.1,(kj l lim i).2)) l.length (rJ l lim) (λi=>((l9 (kj l lim i).1 (a8 l i) lim).1.1,(l9 (kj l lim i).1 (a8 l i) lim).1.2.2,(l9 (kj l lim i).1 (a8 l i) lim).2.2,(l9 (kj l lim i).1 (a8 l i) lim).1.2.1,(kj l lim i).2)) ((kj l lim l.length).1.1,(kj l lim l.length).1.2.2,0,(kj l lim l.length).1.2.1,(kj l lim l.length).2) ?_ ade ?_ ?_];rotate_left
    ·rfl
    ·intro i hi hp;obtain⟨q1,q2⟩:=Bv ade i hp;have hx:=(h.at hi).1;have ep:ZT ((kj l lim i).1.1,((kj l lim i).1.2.1,(kj l lim i).1.2.2)) (a8 l i) lim=some (l9 (kj l lim i).1 (a8 l i) lim):=ZU (x:=(kj l lim i).1) ade _ _;simp only[cZ,hi,ao,ads,adA,ak,aU (show i<9223372036854775807 by omega)];rw[aY ade,ep,a9,aY (by rw[ay];omega)]
     by_cases hz:(l9 (kj l lim i).1 (a8 l i) lim).2.2=0
     ·rw[adq (by rw[cQ hz];decide),adp (show rJ l lim i=true from adm hz),hz];rfl
     ·rw[adp (bG hz),adq (show¬rJ l lim i=true by unfold rJ;simpa using hz)];rfl
    ·intro _;simp only[ba,ao];rfl
    by_cases dj:(List.range l.length).all (rJ l lim)=true
    ·rw[adp dj,adp dj,aC cE]
    ·rw[adq dj,adq dj];have hb:=(vJ dj).2;generalize fB (rJ l lim) l.length=j at hb⊢;have qd:(l9 (kj l lim j).1 (a8 l j) lim).2.2≠0:=by unfold rJ at hb;simpa using hb
     dsimp only;rw[aD (bG qd)]
   ·rw[adq K2,adq K2,aD (bG (by decide))]
theorem Zj {l:List (List Nat)} (h:Fit (.sl .s) l) (lim:Int):f37 l lim=some (txC l lim):=by
 have n_:=h.len;unfold f37 txC;have e1:(af (aO lim 0) (λ_=>(some true)) λ_=>(some (aO 16384 lim)))=some (decide (lim<0)||decide (16384<lim)):=by rw[bR,aE,aE]
 rw[e1,join_some]
 by_cases uf:lim<0\/16384<lim
 ·rw[adp uf,aD (by simpa using uf)]
 ·rw[adq uf,aC (by simpa using uf)]
  by_cases Rr:32<(l.length:Int)
  ·rw[adp Rr,aD (by rw[aE];exact adm Rr)]
  ·rw[adq Rr,aC (by rw[aE];exact adl Rr)];rw[fZ (λi=>((i:Int),0,[])) l.length (λi=> !decide (64<((a8 l i).length:Int))) (YB,[],2) (0,[]) ?_ ade ?_ ?_];rotate_left
   ·rfl
   ·intro i hi;simp only[cZ,hi,ao,ads,adA,ak,aE,bh,bT,aU (show i<9223372036854775807 by omega)];grind
   ·simp only[ba,ao];rfl
   by_cases K2:(List.range l.length).all (λi=> !decide (64<((a8 l i).length:Int)))=true
   ·rw[adp K2,adp K2];unfold f68;rw[a9];rw[bS (λi=>((i:Int),0,(kj l lim i).1.1,(kj l lim i).1.2.2,[],(kj l lim i).1.2.1,(kj l lim i).2)) l.length (rJ l lim) (λi=>(YB,[],(l9 (kj l lim i).1 (a8 l i) lim).2.2)) (0,(kj l lim l.length).1.1,(kj l lim l.length).1.2.2,[],(kj l lim l.length).1.2.1,(kj l lim l.length).2) ?_ ade ?_ ?_];rotate_left
    ·rfl
    ·intro i hi hp;obtain⟨q1,q2⟩:=Bv ade i hp;have hx:=(h.at hi).1;have ep:ZF ((kj l lim i).1.1,((kj l lim i).1.2.1,(kj l lim i).1.2.2)) (a8 l i) lim=some (l9 (kj l lim i).1 (a8 l i) lim):=ZG (x:=(kj l lim i).1) ade _ _;simp only[cZ,hi,ao,ads,adA,ak,aU (show i<9223372036854775807 by omega)];rw[aY ade,ep,a9,aY (by rw[ay];omega)];unfold rJ
     by_cases hz:(l9 (kj l lim i).1 (a8 l i) lim).2.2=0
     ·rw[adq (by rw[cQ hz];decide),adp (adm hz)];rfl
     ·rw[adp (bG hz),adq (by simpa using hz)];rfl
    ·intro _;simp only[ba,ao];rfl
    by_cases dj:(List.range l.length).all (rJ l lim)=true
    ·rw[adp dj,adp dj]
    ·rw[adq dj,adq dj]
   ·rw[adq K2,adq K2]
theorem Zq {a b:List Nat}:f51 a b=some (decide (b.length<=a.length)&&decide (a.take b.length=b)):=by
 unfold f51
 by_cases h:b.length<=a.length
 ·rw[aD (by rw[aN];exact adf),T.d4,adh,adm h,adW,adx];unfold f94;rw[a9,join_some,bc];rfl
 ·rw[aC (by rw[aN];exact adg),join_some,adl h];rfl
structure PY (m:bf):Prop where
 c:xP m.1=0
 b:fS m.2.2.1=true
 r:m.2.2.2.1.length=m.2.2.2.2.1.length/\1<=m.2.2.2.2.1.length/\m.2.2.2.2.1.length<=16
 f:∀i,i<m.2.2.2.1.length->rV (a8 m.2.2.2.1 i)=true/\(a8 m.2.2.2.1 i).1=dS i
 w:∀i,i<m.2.2.2.1.length->(a8 m.2.2.2.2.1 i).1≠3->(BJ m.1 (a8 m.2.2.2.1 i) ((a8 m.2.2.2.1 i).2.1.length+1) (a8 m.2.2.2.2.1 i).2.1 (a8 m.2.2.2.1 i).2.1.length 0 []).2=0
def EM (m:bf) (i:Nat):Bool:=
 (decide ((a8 m.2.2.2.1 i).1=dS i)&&(rV (a8 m.2.2.2.1 i)&&(decide ((a8 m.2.2.2.1 i).1+(a8 m.2.2.2.1 i).2.1.length=(a8 m.2.2.2.2.1 i).2.2.1)&& !decide (m.2.1.2.1<((a8 m.2.2.2.1 i).2.1.length:Int)))))
 &&(decide ((a8 m.2.2.2.2.1 i).1=3)||decide ((BJ m.1 (a8 m.2.2.2.1 i) ((a8 m.2.2.2.1 i).2.1.length+1) (a8 m.2.2.2.2.1 i).2.1 (a8 m.2.2.2.1 i).2.1.length 0 []).2=0))
theorem Ju {m:bf} (hf:Fit bH m) {n:Nat} (hn:3<n):∃c:Int,f28 m=some c/\Y9 n m=some c/\(c=0->PY m):=by
 obtain⟨h1,h2,h3,h4,h5,h6⟩:=hf;have l3:=h3.2.1.len;have l4:=h4.len;have l5:=h5.len;obtain⟨k1,k2,k3⟩:=T6 h1;unfold f28 Y9;rw[k1,k2 n hn,Zh,Zm (by simp)];simp only[a9];have es:Fu (([]:List Int),(m.2.1,()))=if qO m.2.1=true then 0 else 8:=by
  unfold Fu;cases qO m.2.1<;>rfl
 rw[es];have ea:(af (an (bm (xP m.1) 0)) (λ_=>(some true)) λ_=>(af (an (bm (if qO m.2.1=true then 0 else 8) 0)) (λ_=>(some true)) λ_=>(af (aO m.2.2.2.2.2.1 0) (λ_=>(some true)) λ_=>(some (aO m.2.1.1 m.2.2.2.2.2.1)))))=(af (an (bm (xP m.1) 0)) (λ_=>(some true)) λ_=>(af (an (qO m.2.1)) (λ_=>(some true)) λ_=>(af (aO m.2.2.2.2.2.1 0) (λ_=>(some true)) λ_=>(some (aO m.2.1.1 m.2.2.2.2.2.1))))):=by
  cases qO m.2.1 with
  |true=>rw[show an (bm (if true=true then(0:Int) else 8) 0)=an true from cE]
  |false=>rw[show an (bm (if false=true then(0:Int) else 8) 0)=an false from bG (by decide)]
 rw[ea];have eA:∃A:Bool,(af (an (bm (xP m.1) 0)) (λ_=>(some true)) λ_=>(af (an (qO m.2.1)) (λ_=>(some true)) λ_=>(af (aO m.2.2.2.2.2.1 0) (λ_=>(some true)) λ_=>(some (aO m.2.1.1 m.2.2.2.2.2.1)))))=some A/\(A=false->xP m.1=0/\qO m.2.1=true):=by
  simp only[bR,aA,aG];refine⟨_,rfl,λh=> ?_⟩;simp only[ad',Bool.not_eq_false',adk] at h;exact⟨h.1,h.2.1⟩
 obtain⟨A,eA,hA⟩:=eA;rw[eA,join_some,join_some];cases A with
 |true=>exact⟨8,rfl,rfl,λh=>absurd h (by decide)⟩
 |false=>
  obtain⟨hc,uf⟩:=hA rfl;have h0:=k3 hc;have a9U:m.2.1.2.1<=4096:=by
   unfold qO at uf;simp only[adr,adk] at uf;omega
  rw[aC rfl,aC rfl,yB ade,NN,yA ade,Zo (λx hx=>(h5.2 x hx).2.2.1),Zi (λx hx=>(h5.2 x hx).2.2.1)];simp only[a9];have eb1:(af (an (bm (if(if fS m.2.2.1=true then(0:Int) else 8)=0 then((max 0 ((0-(m.2.2.1.2.1.length:Int))/8*8),0):Int×Int) else(0,if fS m.2.2.1=true then 0 else 8)).2 0)) (λ_=>(some true)) λ_=>(some (aO m.2.1.2.2.1 m.2.2.1.2.1.length)))=some (!fS m.2.2.1||decide (m.2.1.2.2.1<(m.2.2.1.2.1.length:Int))):=by
   cases fS m.2.2.1 with
   |true=>rw[aC (by simp[aA,aG]),aE];rfl
   |false=>rw[aD (by simp[aA,aG])];rfl
  rw[eb1,join_some];have eb2:∀K:Bool->Option Int,join Bool (af (an (fS m.2.2.1)) (λ_=>(some true)) λ_=>(af (aO m.2.1.2.2.1 m.2.2.1.2.1.length) (λ_=>(some true)) λ_=>(af (an (bm (pd m.2.2.2.2.1) 0)) (λ_=>(some true)) λ_=>(af (aO m.2.1.2.2.2.1 m.2.2.2.2.1.length) (λ_=>(some true)) λ_=>(some (an (bm m.2.2.2.1.length m.2.2.2.2.1.length))))))) K=K ((!fS m.2.2.1||decide (m.2.1.2.2.1<(m.2.2.1.2.1.length:Int)))||(!decide (pd m.2.2.2.2.1=0)||(decide (m.2.1.2.2.2.1<(m.2.2.2.2.1.length:Int))|| !decide ((m.2.2.2.1.length:Int)=(m.2.2.2.2.1.length:Int))))):=by
   intro K;simp only[bR,aA,aG,aE,join_some,Bool.or_assoc]
  rw[eb2];have eb3:(af (an (bm (pd m.2.2.2.2.1) 0)) (λ_=>(some true)) λ_=>(af (aO m.2.1.2.2.2.1 m.2.2.2.2.1.length) (λ_=>(some true)) λ_=>(some (an (bm m.2.2.2.1.length m.2.2.2.2.1.length)))))=some (!decide (pd m.2.2.2.2.1=0)||(decide (m.2.1.2.2.2.1<(m.2.2.2.2.1.length:Int))|| !decide ((m.2.2.2.1.length:Int)=(m.2.2.2.2.1.length:Int)))):=by
   simp only[bR,aA,aG,aE]
  rw[eb3];cases hB1:(!fS m.2.2.1||decide (m.2.1.2.2.1<(m.2.2.1.2.1.length:Int))) with
  |true=>exact⟨8,rfl,rfl,λh=>absurd h (by decide)⟩
  |false=>
   rw[aC rfl,join_some];cases hB2:(!decide (pd m.2.2.2.2.1=0)||(decide (m.2.1.2.2.2.1<(m.2.2.2.2.1.length:Int))|| !decide ((m.2.2.2.1.length:Int)=(m.2.2.2.2.1.length:Int)))) with
   |true=>exact⟨8,rfl,rfl,λh=>absurd h (by decide)⟩
   |false=>
    simp only[ad',Bool.not_eq_false',adk,adj] at hB1 hB2;rw[aC rfl,aC (c:=false||false) rfl,Zp h1.2.1,Zj h1.2.1];simp only[a9,Zq];have a0p:1<=m.2.2.2.2.1.length/\m.2.2.2.2.1.length<=16:=by
     have:=hB2.1;unfold pd at this;split at this
     ·cases this
     ·omega
    generalize txC m.1.2.1 m.2.1.2.2.1=tx;have ex:(af (an (bm tx.2.2 0)) (λ_=>(some true)) λ_=>(af (aO m.2.2.1.2.1.length tx.1.2.1.length) (λ_=>(some true)) λ_=>(b_ m.2.2.1.2.1.length tx.1.2.1.length (λv3=>(some (an (A7 tx.1.2.1 (av v3 (aH 0 m.2.2.1.2.1)))))))))=(af (an (bm tx.2.2 0)) (λ_=>(some true)) λ_=>(some (an (decide (tx.1.2.1.length<=m.2.2.1.2.1.length)&&decide (m.2.2.1.2.1.take tx.1.2.1.length=tx.1.2.1))))):=by
     by_cases h:tx.1.2.1.length<=m.2.2.1.2.1.length
     ·rw[show aO m.2.2.1.2.1.length tx.1.2.1.length=false by rw[aE];exact adg,aC (c:=false) rfl,T.d4,adh,adx,adm h,adW,bc];have:decide (tx.1.2.1=av tx.1.2.1.length (aH 0 m.2.2.1.2.1))=decide (m.2.2.1.2.1.take tx.1.2.1.length=tx.1.2.1):=by
       show decide (tx.1.2.1=List.take _ (List.drop 0 _))=_;rw[List.drop_zero,ae8,adk,adk];exact⟨λh=>h.symm,λh=>h.symm⟩
      rw[this]
     ·rw[show aO m.2.2.1.2.1.length tx.1.2.1.length=true by rw[aE];exact adf,aD (c:=true) rfl,adl h];rfl
    rw[ex];have eT:∃T:Bool,(af (an (bm tx.2.2 0)) (λ_=>(some true)) λ_=>(some (an (decide (tx.1.2.1.length<=m.2.2.1.2.1.length)&&decide (m.2.2.1.2.1.take tx.1.2.1.length=tx.1.2.1)))))=some T:=by
     rw[bR];exact⟨_,rfl⟩
    obtain⟨T,eT⟩:=eT;rw[eT,join_some,join_some];cases T with
    |true=>exact⟨8,rfl,rfl,λh=>absurd h (by decide)⟩
    |false=>
     rw[aC rfl,aC rfl];have hlen:m.2.2.2.1.length=m.2.2.2.2.1.length:=ade;have RH:∀{ρ:Type} (x:aq) (k:Option ρ),T.wS (x.2.1.length:Int) 8 k=k:=λx k=>by rw[T.sQ,adh]
     rw[bS (λi=>(i:Int)) m.2.2.2.1.length (EM m) (λ_=>8) () ?_ ade ?_ ?_];rotate_left
     ·rfl
     ·intro i hi _;have j6:i<m.2.2.2.2.1.length:=ade;have hx:=h4.at hi;have hxl:=hx.2.1.len;have hg:=h5.at j6;have e1:sO 7 16777216 (bF 7 ((i+1:Nat):Int))=dS i:=by
       rw[ky ade];have:=Ld (i:=i) ade;unfold Eb at this;rw[aU ade,ky ade] at this;injection this
      simp only[cZ,hi,j6,ao,ads,adA,ak,RH,e1,aU (show i<9223372036854775807 by omega)];have e2:(if an (aR (a8 m.2.2.2.1 i).1 (dS i))=true then some true else if an (aR (cP 7 (a8 m.2.2.2.1 i).1 (bF 7 ((a8 m.2.2.2.1 i).2.1.length:Int))) (a8 m.2.2.2.2.1 i).2.2.1)=true then some true else if aO m.2.1.2.1 ((a8 m.2.2.2.1 i).2.1.length:Int)=true then some true else some (an (bm (w_ 3 ((a8 m.2.2.2.1 i).2.1.length:Int) 8) 0)))=some (!((decide ((a8 m.2.2.2.1 i).1=dS i)&&(rV (a8 m.2.2.2.1 i)&&(decide ((a8 m.2.2.2.1 i).1+(a8 m.2.2.2.1 i).2.1.length=(a8 m.2.2.2.2.1 i).2.2.1)&& !decide (m.2.1.2.1<((a8 m.2.2.2.1 i).2.1.length:Int))))))):=by
       by_cases q1:(a8 m.2.2.2.1 i).1=dS i
       ·have WU:cP 7 (a8 m.2.2.2.1 i).1 (bF 7 ((a8 m.2.2.2.1 i).2.1.length:Int))=(a8 m.2.2.2.1 i).1+(a8 m.2.2.2.1 i).2.1.length:=by
         rw[ky ade,gS (by rw[q1];unfold dS;omega)]
        rw[WU,OX _ ade];have BD:rV (a8 m.2.2.2.1 i)=(decide (((a8 m.2.2.2.1 i).2.1.length %8:Nat)=0)&&decide (((a8 m.2.2.2.1 i).2.1.length:Int)<=4096)):=by
         unfold rV Jp;rw[q1];rw[adm (show dS i %16777216=0 by unfold dS;omega),adm (show 1<=dS i/16777216 by unfold dS;omega),adm (show dS i/16777216<=16 by unfold dS;omega)];rw[ae8];simp only[adW,adr,adk];omega
        rw[BD];simp only[aA,ax,aG,aE,adm q1,Bool.not_true,aeb,ae7,adW]
        by_cases q2:(a8 m.2.2.2.1 i).1+(a8 m.2.2.2.1 i).2.1.length=(a8 m.2.2.2.2.1 i).2.2.1
        ·by_cases q3:m.2.1.2.1<((a8 m.2.2.2.1 i).2.1.length:Int)
         ·simp[q2,q3]
         ·have q4:((a8 m.2.2.2.1 i).2.1.length:Int)<=4096:=by omega
          simp only[q2,q3,q4,ads,decide_false,Bool.not_true,Bool.not_false,Bool.and_true,aeb,ae7];refine congrArg some ?_;congr 1;rw[ae8,adk,adk];omega
        ·simp[q2]
       ·simp[q1,aA,ax]
      rw[e2,join_some];have Ni:EM m i=((decide ((a8 m.2.2.2.1 i).1=dS i)&&(rV (a8 m.2.2.2.1 i)&&(decide ((a8 m.2.2.2.1 i).1+(a8 m.2.2.2.1 i).2.1.length=(a8 m.2.2.2.2.1 i).2.2.1)&& !decide (m.2.1.2.1<((a8 m.2.2.2.1 i).2.1.length:Int)))))&&(decide ((a8 m.2.2.2.2.1 i).1=3)||decide ((BJ m.1 (a8 m.2.2.2.1 i) ((a8 m.2.2.2.1 i).2.1.length+1) (a8 m.2.2.2.2.1 i).2.1 (a8 m.2.2.2.1 i).2.1.length 0 []).2=0))):=rfl;cases hq:(decide ((a8 m.2.2.2.1 i).1=dS i)&&(rV (a8 m.2.2.2.1 i)&&(decide ((a8 m.2.2.2.1 i).1+(a8 m.2.2.2.1 i).2.1.length=(a8 m.2.2.2.2.1 i).2.2.1)&& !decide (m.2.1.2.1<((a8 m.2.2.2.1 i).2.1.length:Int))))) with
      |false=>rw[Ni,hq];rfl
      |true=>
       have BD:rV (a8 m.2.2.2.1 i)=true:=by
        simp only[adr] at hq;exact hq.2.1
       rw[Ni,hq,adq (show¬(!true)=true by decide),adW]
       by_cases h3:(a8 m.2.2.2.2.1 i).1=3
       ·rw[adp (by rw[ax];exact adm h3),adm h3];rfl
       ·rw[adq (by rw[ax,adk];exact h3),adl h3,T1 h1 hx hg.2.1,adp BD,adp h0,a9]
        by_cases hz:(BJ m.1 (a8 m.2.2.2.1 i) ((a8 m.2.2.2.1 i).2.1.length+1) (a8 m.2.2.2.2.1 i).2.1 (a8 m.2.2.2.1 i).2.1.length 0 []).2=0
        ·rw[adq (by rw[cQ hz];decide),adm hz];rfl
        ·rw[adp (bG hz),adl hz];rfl
     ·intro _;rw[ba];rfl
     rw[bS (λi=>(i:Int)) m.2.2.2.1.length (EM m) (λ_=>8) () ?_ ade ?_ ?_];rotate_left
     ·rfl
     ·intro i hi _;have j6:i<m.2.2.2.2.1.length:=ade;have hx:=h4.at hi;have hxl:=hx.2.1.len;have hg:=h5.at j6;simp only[cZ,hi,j6,ao,ads,adA,ak,T2 (show i<16 by omega),a9,T3 (show(a8 m.2.2.2.1 i).2.1.length<4611686018427387904 by omega),aU (show i<9223372036854775807 by omega)];have e2:(if an (aR (a8 m.2.2.2.1 i).1 (dS i))=true then some true else if an (rV (a8 m.2.2.2.1 i))=true then some true else if an (aR (cP 7 (a8 m.2.2.2.1 i).1 (bF 7 ((a8 m.2.2.2.1 i).2.1.length:Int))) (a8 m.2.2.2.2.1 i).2.2.1)=true then some true else some (aO m.2.1.2.1 ((a8 m.2.2.2.1 i).2.1.length:Int)))=some (!((decide ((a8 m.2.2.2.1 i).1=dS i)&&(rV (a8 m.2.2.2.1 i)&&(decide ((a8 m.2.2.2.1 i).1+(a8 m.2.2.2.1 i).2.1.length=(a8 m.2.2.2.2.1 i).2.2.1)&& !decide (m.2.1.2.1<((a8 m.2.2.2.1 i).2.1.length:Int))))))):=by
       by_cases q1:(a8 m.2.2.2.1 i).1=dS i
       ·have WU:cP 7 (a8 m.2.2.2.1 i).1 (bF 7 ((a8 m.2.2.2.1 i).2.1.length:Int))=(a8 m.2.2.2.1 i).1+(a8 m.2.2.2.1 i).2.1.length:=by
         rw[ky ade,gS (by rw[q1];unfold dS;omega)]
        rw[WU];simp only[aA,ax,aE,adm q1];generalize rV (a8 m.2.2.2.1 i)=p2;generalize decide ((a8 m.2.2.2.1 i).1+(a8 m.2.2.2.1 i).2.1.length=(a8 m.2.2.2.2.1 i).2.2.1)=p3;generalize decide (m.2.1.2.1<((a8 m.2.2.2.1 i).2.1.length:Int))=p4;cases p2<;>cases p3<;>cases p4<;>rfl
       ·simp[q1,aA,ax]
      rw[e2,join_some];have Ni:EM m i=((decide ((a8 m.2.2.2.1 i).1=dS i)&&(rV (a8 m.2.2.2.1 i)&&(decide ((a8 m.2.2.2.1 i).1+(a8 m.2.2.2.1 i).2.1.length=(a8 m.2.2.2.2.1 i).2.2.1)&& !decide (m.2.1.2.1<((a8 m.2.2.2.1 i).2.1.length:Int)))))&&(decide ((a8 m.2.2.2.2.1 i).1=3)||decide ((BJ m.1 (a8 m.2.2.2.1 i) ((a8 m.2.2.2.1 i).2.1.length+1) (a8 m.2.2.2.2.1 i).2.1 (a8 m.2.2.2.1 i).2.1.length 0 []).2=0))):=rfl;cases hq:(decide ((a8 m.2.2.2.1 i).1=dS i)&&(rV (a8 m.2.2.2.1 i)&&(decide ((a8 m.2.2.2.1 i).1+(a8 m.2.2.2.1 i).2.1.length=(a8 m.2.2.2.2.1 i).2.2.1)&& !decide (m.2.1.2.1<((a8 m.2.2.2.1 i).2.1.length:Int))))) with
      |false=>rw[Ni,hq];rfl
      |true=>
       have BD:rV (a8 m.2.2.2.1 i)=true:=by
        simp only[adr] at hq;exact hq.2.1
       rw[Ni,hq,adq (show¬(!true)=true by decide),adW]
       by_cases h3:(a8 m.2.2.2.2.1 i).1=3
       ·rw[adp (by rw[ax];exact adm h3),adm h3];rfl
       ·rw[adq (by rw[ax,adk];exact h3),adl h3,T4 h1 h0 hx BD hg.2.1,a9]
        by_cases hz:(BJ m.1 (a8 m.2.2.2.1 i) ((a8 m.2.2.2.1 i).2.1.length+1) (a8 m.2.2.2.2.1 i).2.1 (a8 m.2.2.2.1 i).2.1.length 0 []).2=0
        ·rw[adq (by rw[cQ hz];decide),adm hz];rfl
        ·rw[adp (bG hz),adl hz];rfl
     ·intro _;rw[ba];rfl
     by_cases dj:(List.range m.2.2.2.1.length).all (EM m)=true
     ·rw[adp dj];refine⟨0,rfl,rfl,λ_=>⟨hc,hB1.1,⟨hlen,a0p⟩,λi hi=> ?_,λi hi h3=> ?_⟩⟩
      ·have:=adE.1 dj i (adL.2 hi);unfold EM at this;simp only[adr,adk] at this;exact⟨this.1.2.1,this.1.1⟩
      ·have:=adE.1 dj i (adL.2 hi);unfold EM at this;rw[adr,aec,adk,adk] at this;rcases this.2 with h|h
       ·exact absurd h h3
       ·exact h
     ·rw[adq dj];exact⟨8,rfl,rfl,λh=>absurd h (by decide)⟩
end Go.Proofs.YtbjcjppphoppfaaGreat.M
