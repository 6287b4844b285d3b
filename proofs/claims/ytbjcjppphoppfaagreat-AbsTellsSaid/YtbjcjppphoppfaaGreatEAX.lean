import Derived.Test.YtbjcjppphoppfaaGreatEAN
set_option linter.all false
namespace Go.Proofs.YtbjcjppphoppfaaGreat.M
open Go.Proofs.YtbjcjppphoppfaaGreat.T hiding a8 ae av aH aw bd bM cC
section words
variable {ρ α:Type}
theorem ao (c:Bool) (a b:Unit->Option ρ):T.af c a b=if c=true then a () else b ():=by cases c<;>rfl
theorem aE (x y:Int):T.aO x y=decide (x<y):=T.dM _
theorem aN (x y:Int):T.cB x y=decide (x<=y):=T.dM _
theorem aG (x y:Int):T.bm x y=decide (x=y):=T.dM _
theorem aW (x y:Nat):T.eF x y=decide (x<y):=T.dM _
theorem aZ (x y:Nat):T.gf x y=decide (x<=y):=T.dM _
theorem ax (x y:Nat):T.aR x y=decide (x=y):=T.dM _
theorem bc (x y:List Nat):T.A7 x y=decide (x=y):=T.dM _
theorem aA (x:Bool):T.an x= !x:=rfl
theorem bg (x y:Bool):T.E4 x y=(x==y):=rfl
@[grind =] theorem a9 (x:α) (k:α->Option ρ):bind (some x) k=k x:=rfl
@[grind =] theorem au (k:α->Option ρ):bind (none:Option α) k=none:=rfl
@[grind =] theorem join_some (x:α) (k:α->Option ρ):join α (some x) k=k x:=rfl
@[grind =] theorem join_none (k:α->Option ρ):join α (none:Option α) k=none:=rfl
theorem aF {c:Prop} [Decidable c] (a b:α):(if c then some a else some b)=some (if c then a else b):=by split<;>rfl
@[grind =] theorem aI (n:Nat) (k:Nat->Option ρ):T.ai n 0 k=if 0<n then k 0 else none:=by
  rw[T.A0];by_cases h:0<n<;>simp[h]
@[grind =] theorem ak (n i:Nat) (k:Nat->Option ρ):T.ai n (i:Int) k=if i<n then k i else none:=by
  rw[T.A0]
  by_cases h:i<n
  ·rw[adp h,adp ⟨ade,ade⟩,adx]
  ·rw[adq h,adi]
theorem cd (n i:Nat) (k:Nat->Option ρ):T.ai n (no_index (OfNat.ofNat i)) k=if i<n then k i else none:=ak n i k
theorem ay (x y:Nat):T.aJ x y=x+y:=rfl
theorem aS (x y:Nat):T.bt x y=x-y:=rfl
theorem Ke {z:Int} (h1: -9223372036854775808<=z) (h2:z<9223372036854775808):T.wr 3 z=z:=by
 show Int.bmod z 18446744073709551616=z;rw[Int.bmod_def];split<;>omega
theorem c8 {x y:Int} (h1: -9223372036854775808<=x+y) (h2:x+y<9223372036854775808):T.ab 3 x y=x+y:=by rw[T.Ko,Ke h1 h2]
theorem cD {x y:Int} (h1: -9223372036854775808<=x-y) (h2:x-y<9223372036854775808):T.bq 3 x y=x-y:=by rw[T.Fy,Ke h1 h2]
theorem eh {x y:Int} (h1: -9223372036854775808<=x*y) (h2:x*y<9223372036854775808):T.fg 3 x y=x*y:=by rw[T.NY,Ke h1 h2]
theorem l6 (x y:Int):T.jX x y=min x y:=T.NX x y
theorem ny (x y:Int):T.sM x y=max x y:=T.NW x y
end words
def runN {A E Q:Type} (g:Nat->A->Option (T.LR A E Q)):Nat->Nat->A->Option (T.LR A E Q)
 |0,_,a=>some (.ok a)
 |k+1,i,a=>match g i a with
  |none=>none
  |some (.ok a)=>runN g k (i+1) a
  |some (.ex e)=>some (.ex e)
  |some (.rt q)=>some (.rt q)
def a0F {A S E Q:Type} (h:A->S):Option (T.LR A E Q)->Option (T.LR S E Q)
 |none=>none
 |some (.ok a)=>some (.ok (h a))
 |some (.ex e)=>some (.ex e)
 |some (.rt q)=>some (.rt q)
def a7z {A E Q ρ:Type} (r:Option (T.LR A E Q)) (k:A->Option ρ) (kx:E->Option ρ) (kr:Q->Option ρ):Option ρ:=match r with
 |none=>none
 |some (.ok a)=>k a
 |some (.ex e)=>kx e
 |some (.rt q)=>kr q
theorem yS {S A E Q:Type} (f:S->Option (T.LR S E Q)) (st:Nat->A->S) (g:Nat->A->Option (T.LR A E Q)) (out:A->E) (n:Nat) (h1:∀i a,i<n->f (st i a)=a0F (st (i+1)) (g i a)) (h2:∀a,f (st n a)=some (.ex (out a))):
 ∀(k i:Nat) (a:A) (N:Nat),i+k=n->k<N->T.iter f N (st i a)=(match runN g k i a with|none=>none|some (.ok a)=>some (.ex (out a))|some (.ex e)=>some (.ex e)|some (.rt q)=>some (.rt q))
 |0,i,a,N+1,hi,_=>by
  have hi:i=n:=ade;subst hi;show Option.bind (f (st i a)) _=_;rw[h2];rfl
 |k+1,i,a,N+1,hi,hN=>by
  show Option.bind (f (st i a)) (λr=>T.LR.rec (T.iter f N) (λs=>some (.ex s)) (λq=>some (.rt q)) r)=_;rw[h1 i a ade];unfold runN;cases hg:g i a with
  |none=>rfl
  |some r=>
   cases r with
   |ok a'=>exact yS f st g out n h1 h2 k (i+1) a' N ade ade
   |ex e=>rfl
   |rt q=>rfl
 |0,_,_,0,_,h=>absurd h ade
 |_+1,_,_,0,_,h=>absurd h ade
theorem sK {S A E Q ρ:Type} {f:S->Option (T.LR S E Q)} {s:S} {kx:E->Option ρ} {kr:Q->Option ρ} (st:Nat->A->S) (g:Nat->A->Option (T.LR A E Q)) (out:A->E) (n:Nat) (a:A) (hs:s=st 0 a) (hn:n<9223372036854775808) (h1:∀i a,i<n->f (st i a)=a0F (st (i+1)) (g i a)) (h2:∀a,f (st n a)=some (.ex (out a))):
 loop S E Q f s kx kr=a7z (runN g n 0 a) (λa=>kx (out a)) kx kr:=by
 unfold loop;rw[hs,yS f st g out n h1 h2 n 0 a 9223372036854775808 ade hn];cases runN g n 0 a with
 |none=>rfl
 |some r=>cases r<;>rfl
theorem xa {E Q:Type} (p:Nat->Bool) (q:Q):∀(n i:Nat),runN (E:=E) (λi (_:Unit)=>if p i=true then some (.ok ()) else some (.rt q)) n i ()=if(List.range' i n).all p=true then some (.ok ()) else some (.rt q)
 |0,i=>by simp[runN]
 |n+1,i=>by
  unfold runN;rw[List.range'_succ,adZ];cases h:p i with
  |true=>simp only[adA,adW];exact xa p q n (i+1)
  |false=>simp
theorem bA {E Q ρ:Type} {f:Int->Option (T.LR Int E Q)} {kx:E->Option ρ} {kr:Q->Option ρ} (n:Nat) (p:Nat->Bool) (q:Q) (e:E) (hn:n<9223372036854775808) (h1:∀i:Nat,i<n->f (i:Int)=if p i=true then some (.ok ((i+1:Nat):Int)) else some (.rt q)) (h2:f (n:Int)=some (.ex e)):
 loop Int E Q f 0 kx kr=if(List.range n).all p=true then kx e else kr q:=by
 show loop Int E Q f ((0:Nat):Int) kx kr=_;rw[sK (A:=Unit) (λi _=>(i:Int)) (λi _=>if p i=true then some (.ok ()) else some (.rt q)) (λ_=>e) n () rfl hn (λi a hi=>by rw[h1 i hi];split<;>rfl) (λ_=>h2),xa,<-List.range_eq_range'];split<;>rfl
theorem zx {α:Type} (l:List α) (p:Nat->Bool) (q:α->Bool) (h:∀i (hi:i<l.length),p i=q l[i]):(List.range l.length).all p=l.all q:=by
 rw[ae8,adE,adE];constructor
 ·intro H x hx;obtain⟨i,hi,rfl⟩:=List.getElem_of_mem hx;rw[<-h i hi];exact H i (adL.2 hi)
 ·intro H i hi;have hi:=adL.1 hi;rw[h i hi];exact H _ (adT hi)
theorem Fg {l:List Nat} {i:Nat} (h:i<l.length):T.fP l i=l[i]:=by
 show l.getD i 0=l[i];rw[adG,ae2 h];rfl
theorem bz {α:Type} [Zr α] {l:List α} {i:Nat} (h:i<l.length):a8 l i=l[i]:=by
 show l.getD i Zr.z=l[i];rw[adG,ae2 h];rfl
def fN (c:Nat):Bool:=(decide (97<=c)&&decide (c<=122))||(decide (65<=c)&&decide (c<=90))
def kS (c:Nat):Bool:=decide (48<=c)&&decide (c<=57)
def named (s:List Nat):Bool:=(decide (1<=s.length)&&decide (s.length<=16))&&(fN (s.getD 0 0)&&s.all λc=>fN c||kS c)
theorem EH (c:Nat):MQ c=some (fN c):=by
 unfold MQ fN;simp only[ao,aE,aN,aG,aW,aZ,ax,bc,aA,bg,a9,au,join_some,join_none,ak,aI,aF,ay,aS,adk,adn,adj];grind
theorem Mu (s:List Nat):IY s=some (named s):=by
 unfold IY named
 by_cases h1:1<=s.length/\s.length<=16
 ·rw[bA s.length (λi=>fN (fP s i)||kS (fP s i)) false () ade ?_ ?_,zx s _ (λc=>fN c||kS c) (λi hi=>by rw[Fg hi])]
  ·simp only[ao,aE,aN,aG,aW,aZ,ax,bc,aA,bg,a9,au,join_some,join_none,ak,aI,aF,ay,aS,adk,adn,adj,EH,show fP s 0=s.getD 0 0 from rfl];grind
  ·intro i hi;have a1:ab 3 (i:Int) 1=((i+1:Nat):Int):=by rw[c8 ade ade];rfl
   simp only[ao,aE,aN,aG,aW,aZ,ax,bc,aA,bg,a9,au,join_some,join_none,ak,aI,aF,ay,aS,adk,adn,adj,a1,hi,EH,adA,kS,bh,bT];grind
  ·simp only[ao,aE,aN,aG,aW,aZ,ax,bc,aA,bg,a9,au,join_some,join_none,ak,aI,aF,ay,aS,adk,adn,adj,lex];grind
 ·simp only[ao,aE,aN,aG,aW,aZ,ax,bc,aA,bg,a9,au,join_some,join_none,ak,aI,aF,ay,aS,adk,adn,adj,EH];grind
theorem Jy:∀c:Fin 256,((decide (Nat.lor c.1 32<97)||(decide (122<Nat.lor c.1 32)||decide (Nat.land c.1 64=0)))&&(decide (c.1<48)||decide (57<c.1)))= !(fN c.1||kS c.1):=by decide+kernel
theorem Fe:∀c:Fin 256,fN c.1=true->¬c.1<=57:=by decide+kernel
theorem CS:∀c:Fin 256,(fN c.1||kS c.1)=true->¬c.1<=57->fN c.1=true:=by decide+kernel
theorem Ey (s:List Nat) (hb:∀c∈s,c<256):Ex s=some (named s):=by
 unfold Ex named
 by_cases h1:1<=s.length/\s.length<=16
 ·have hm:s.getD 0 0∈s:=by
   cases s with
   |nil=>simp at h1
   |cons a r=>simp
  have g1:=Fe ⟨s.getD 0 0,hb _ hm⟩;have g2:=CS ⟨s.getD 0 0,hb _ hm⟩;have g3:(s.all λc=>fN c||kS c)=true->(fN (s.getD 0 0)||kS (s.getD 0 0))=true:=λh=>adE.1 h _ hm
  rw[bA s.length (λi=>fN (fP s i)||kS (fP s i)) false () ade ?_ ?_,zx s _ (λc=>fN c||kS c) (λi hi=>by rw[Fg hi])]
  ·simp only[ao,aE,aN,aG,aW,aZ,ax,bc,aA,bg,a9,au,join_some,join_none,ak,aI,aF,ay,aS,adk,adn,adj,T.dZ,show fP s 0=s.getD 0 0 from rfl];dsimp only at g1 g2;generalize s.getD 0 0=c0 at*;grind
  ·intro i hi;have a1:ab 3 (i:Int) 1=((i+1:Nat):Int):=by rw[c8 ade ade];rfl
   have e1:a8 s i=fP s i:=rfl;have hm:fP s i<256:=by rw[Fg hi];exact hb _ (adT hi)
   have g:=Jy ⟨fP s i,hm⟩;simp only[ao,aE,aN,aG,aW,aZ,ax,bc,aA,bg,a9,au,join_some,join_none,ak,aI,aF,ay,aS,adk,adn,adj,a1,hi,adA,bh,bT,e1,T.qZ,T.mV] at g⊢;generalize fP s i=c0 at*;grind
  ·simp only[ao,aE,aN,aG,aW,aZ,ax,bc,aA,bg,a9,au,join_some,join_none,ak,aI,aF,ay,aS,adk,adn,adj,lex];grind
 ·simp only[ao,aE,aN,aG,aW,aZ,ax,bc,aA,bg,a9,au,join_some,join_none,ak,aI,aF,ay,aS,adk,adn,adj,T.dZ];grind
abbrev Oper:Type:=Int×(Int×(Bool×(Bool×Unit)))
def oR:Oper:=(0,15,true,false,())
def oW:Oper:=(0,15,false,true,())
def oZ:Oper:=(0,0,false,false,())
def oA:Oper:=(-9223372036854775808,9223372036854775807,false,false,())
def oB (k:Int):Oper:=(0,k,false,false,())
def oG:Oper:=(-1,15,false,true,())
def oE:Oper:=(-1,15,true,false,())
def aM:Nat->List Oper×Int
 |1=>([oW,oA,oZ],2)
 |2=>([oW,oB 31,oZ],2)
 |3=>([oW,oB 1,oZ],2)
 |4=>([oW,oZ,oZ],1)
 |5=>([oW,oR,oZ],2)
 |6=>([oW,oR,oR],3)
 |7=>([oW,oR,oR],3)
 |8=>([oW,oR,oR],3)
 |9=>([oW,oR,oR],3)
 |10=>([oW,oR,oR],3)
 |11=>([oW,oR,oR],3)
 |12=>([oW,oR,oZ],2)
 |13=>([oW,oR,oB 7],3)
 |14=>([oR,oB 7,oR],3)
 |15=>([oW,oZ,oZ],1)
 |16=>([oW,oR,oZ],2)
 |17=>([oR,oR,oZ],2)
 |18=>([oW,oR,oZ],2)
 |19=>([oW,oR,oR],3)
 |20=>([oR,oR,oR],3)
 |21=>([oW,oR,oZ],2)
 |22=>([oB 199,oZ,oZ],1)
 |23=>([oR,oB 199,oZ],2)
 |24=>([oR,oZ,oZ],1)
 |25=>([oG,oB 31,oZ],2)
 |26=>([oB 31,oZ,oZ],1)
 |27=>([oB 31,oZ,oZ],1)
 |28=>([oR,oZ,oZ],1)
 |29=>([oW,oW,oZ],2)
 |30=>([oZ,oZ,oZ],0)
 |31=>([oZ,oZ,oZ],0)
 |32=>([oR,oZ,oZ],1)
 |33=>([oW,oR,oZ],2)
 |34=>([oE,oZ,oZ],1)
 |_=>([oZ,oZ,oZ],-1)
theorem Ak {k:Int} (h:0<=k/\k<=1000):pA (k+1)=some (oB k):=by
 unfold pA oB;rw[cD ade ade,Int.add_sub_cancel]
theorem mR:(hY (.ar 3 (.pr (.i 3) (.pr (.i 3) (.pr .b (.pr .b .un))))))=[oZ,oZ,oZ]:=rfl
theorem m3:di 3 3=3/\di 3 2=2/\di 3 1=1:=⟨rfl,rfl,rfl⟩
theorem db:pA 32=some (oB 31)/\pA 2=some (oB 1)/\pA 8=some (oB 7)/\pA 200=some (oB 199):=⟨Ak (k:=31) ade,Ak (k:=1) ade,Ak (k:=7) ade,Ak (k:=199) ade⟩
theorem d9:ua=some oW:=rfl
theorem da:Wk=some oA:=rfl
theorem dc:oM=some oR:=rfl
theorem Mc:cI 0=some (aM 0):=by
 simp[cI,ao,ax,join_some,a9,d9,da,db,dc,mR,m3,aI,cd,aw,av,aH,ae,a8,aM,Zr.z,oR,oW,oZ,oG,oE,oB]
theorem Me:cI 1=some (aM 1):=by
 simp[cI,ao,ax,join_some,a9,d9,da,db,dc,mR,m3,aI,cd,aw,av,aH,ae,a8,aM,Zr.z,oR,oW,oZ,oG,oE,oB]
theorem Mf:cI 2=some (aM 2):=by
 simp[cI,ao,ax,join_some,a9,d9,da,db,dc,mR,m3,aI,cd,aw,av,aH,ae,a8,aM,Zr.z,oR,oW,oZ,oG,oE,oB]
theorem Mg:cI 3=some (aM 3):=by
 simp[cI,ao,ax,join_some,a9,d9,da,db,dc,mR,m3,aI,cd,aw,av,aH,ae,a8,aM,Zr.z,oR,oW,oZ,oG,oE,oB]
theorem Mh:cI 4=some (aM 4):=by
 simp[cI,ao,ax,join_some,a9,d9,da,db,dc,mR,m3,aI,cd,aw,av,aH,ae,a8,aM,Zr.z,oR,oW,oZ,oG,oE,oB]
theorem Mi:cI 5=some (aM 5):=by
 simp[cI,ao,ax,join_some,a9,d9,da,db,dc,mR,m3,aI,cd,aw,av,aH,ae,a8,aM,Zr.z,oR,oW,oZ,oG,oE,oB]
theorem Mj:cI 6=some (aM 6):=by
 simp[cI,ao,ax,join_some,a9,d9,da,db,dc,mR,m3,aI,cd,aw,av,aH,ae,a8,aM,Zr.z,oR,oW,oZ,oG,oE,oB]
theorem Ml:cI 7=some (aM 7):=by
 simp[cI,ao,ax,join_some,a9,d9,da,db,dc,mR,m3,aI,cd,aw,av,aH,ae,a8,aM,Zr.z,oR,oW,oZ,oG,oE,oB]
theorem Mm:cI 8=some (aM 8):=by
 simp[cI,ao,ax,join_some,a9,d9,da,db,dc,mR,m3,aI,cd,aw,av,aH,ae,a8,aM,Zr.z,oR,oW,oZ,oG,oE,oB]
theorem Mn:cI 9=some (aM 9):=by
 simp[cI,ao,ax,join_some,a9,d9,da,db,dc,mR,m3,aI,cd,aw,av,aH,ae,a8,aM,Zr.z,oR,oW,oZ,oG,oE,oB]
theorem G2:cI 10=some (aM 10):=by
 simp[cI,ao,ax,join_some,a9,d9,da,db,dc,mR,m3,aI,cd,aw,av,aH,ae,a8,aM,Zr.z,oR,oW,oZ,oG,oE,oB]
theorem G3:cI 11=some (aM 11):=by
 simp[cI,ao,ax,join_some,a9,d9,da,db,dc,mR,m3,aI,cd,aw,av,aH,ae,a8,aM,Zr.z,oR,oW,oZ,oG,oE,oB]
theorem G4:cI 12=some (aM 12):=by
 simp[cI,ao,ax,join_some,a9,d9,da,db,dc,mR,m3,aI,cd,aw,av,aH,ae,a8,aM,Zr.z,oR,oW,oZ,oG,oE,oB]
theorem G5:cI 13=some (aM 13):=by
 simp[cI,ao,ax,join_some,a9,d9,da,db,dc,mR,m3,aI,cd,aw,av,aH,ae,a8,aM,Zr.z,oR,oW,oZ,oG,oE,oB]
theorem G6:cI 14=some (aM 14):=by
 simp[cI,ao,ax,join_some,a9,d9,da,db,dc,mR,m3,aI,cd,aw,av,aH,ae,a8,aM,Zr.z,oR,oW,oZ,oG,oE,oB]
theorem G7:cI 15=some (aM 15):=by
 simp[cI,ao,ax,join_some,a9,d9,da,db,dc,mR,m3,aI,cd,aw,av,aH,ae,a8,aM,Zr.z,oR,oW,oZ,oG,oE,oB]
theorem G8:cI 16=some (aM 16):=by
 simp[cI,ao,ax,join_some,a9,d9,da,db,dc,mR,m3,aI,cd,aw,av,aH,ae,a8,aM,Zr.z,oR,oW,oZ,oG,oE,oB]
theorem G9:cI 17=some (aM 17):=by
 simp[cI,ao,ax,join_some,a9,d9,da,db,dc,mR,m3,aI,cd,aw,av,aH,ae,a8,aM,Zr.z,oR,oW,oZ,oG,oE,oB]
theorem Ga:cI 18=some (aM 18):=by
 simp[cI,ao,ax,join_some,a9,d9,da,db,dc,mR,m3,aI,cd,aw,av,aH,ae,a8,aM,Zr.z,oR,oW,oZ,oG,oE,oB]
theorem Gb:cI 19=some (aM 19):=by
 simp[cI,ao,ax,join_some,a9,d9,da,db,dc,mR,m3,aI,cd,aw,av,aH,ae,a8,aM,Zr.z,oR,oW,oZ,oG,oE,oB]
theorem Gc:cI 20=some (aM 20):=by
 simp[cI,ao,ax,join_some,a9,d9,da,db,dc,mR,m3,aI,cd,aw,av,aH,ae,a8,aM,Zr.z,oR,oW,oZ,oG,oE,oB]
theorem Gd:cI 21=some (aM 21):=by
 simp[cI,ao,ax,join_some,a9,d9,da,db,dc,mR,m3,aI,cd,aw,av,aH,ae,a8,aM,Zr.z,oR,oW,oZ,oG,oE,oB]
theorem Ge:cI 22=some (aM 22):=by
 simp[cI,ao,ax,join_some,a9,d9,da,db,dc,mR,m3,aI,cd,aw,av,aH,ae,a8,aM,Zr.z,oR,oW,oZ,oG,oE,oB]
theorem Gf:cI 23=some (aM 23):=by
 simp[cI,ao,ax,join_some,a9,d9,da,db,dc,mR,m3,aI,cd,aw,av,aH,ae,a8,aM,Zr.z,oR,oW,oZ,oG,oE,oB]
theorem Gg:cI 24=some (aM 24):=by
 simp[cI,ao,ax,join_some,a9,d9,da,db,dc,mR,m3,aI,cd,aw,av,aH,ae,a8,aM,Zr.z,oR,oW,oZ,oG,oE,oB]
theorem Gh:cI 25=some (aM 25):=by
 simp[cI,ao,ax,join_some,a9,d9,da,db,dc,mR,m3,aI,cd,aw,av,aH,ae,a8,aM,Zr.z,oR,oW,oZ,oG,oE,oB]
theorem Gi:cI 26=some (aM 26):=by
 simp[cI,ao,ax,join_some,a9,d9,da,db,dc,mR,m3,aI,cd,aw,av,aH,ae,a8,aM,Zr.z,oR,oW,oZ,oG,oE,oB]
theorem Gj:cI 27=some (aM 27):=by
 simp[cI,ao,ax,join_some,a9,d9,da,db,dc,mR,m3,aI,cd,aw,av,aH,ae,a8,aM,Zr.z,oR,oW,oZ,oG,oE,oB]
theorem Gk:cI 28=some (aM 28):=by
 simp[cI,ao,ax,join_some,a9,d9,da,db,dc,mR,m3,aI,cd,aw,av,aH,ae,a8,aM,Zr.z,oR,oW,oZ,oG,oE,oB]
theorem Gl:cI 29=some (aM 29):=by
 simp[cI,ao,ax,join_some,a9,d9,da,db,dc,mR,m3,aI,cd,aw,av,aH,ae,a8,aM,Zr.z,oR,oW,oZ,oG,oE,oB]
theorem Gm:cI 30=some (aM 30):=by
 simp[cI,ao,ax,join_some,a9,d9,da,db,dc,mR,m3,aI,cd,aw,av,aH,ae,a8,aM,Zr.z,oR,oW,oZ,oG,oE,oB]
theorem Gn:cI 31=some (aM 31):=by
 simp[cI,ao,ax,join_some,a9,d9,da,db,dc,mR,m3,aI,cd,aw,av,aH,ae,a8,aM,Zr.z,oR,oW,oZ,oG,oE,oB]
theorem Gp:cI 32=some (aM 32):=by
 simp[cI,ao,ax,join_some,a9,d9,da,db,dc,mR,m3,aI,cd,aw,av,aH,ae,a8,aM,Zr.z,oR,oW,oZ,oG,oE,oB]
theorem Gq:cI 33=some (aM 33):=by
 simp[cI,ao,ax,join_some,a9,d9,da,db,dc,mR,m3,aI,cd,aw,av,aH,ae,a8,aM,Zr.z,oR,oW,oZ,oG,oE,oB]
theorem Gr:cI 34=some (aM 34):=by
 simp[cI,ao,ax,join_some,a9,d9,da,db,dc,mR,m3,aI,cd,aw,av,aH,ae,a8,aM,Zr.z,oR,oW,oZ,oG,oE,oB]
def b9:Nat->List Nat
 |1=>[119,110,45]
 |2=>[119,116,45]
 |3=>[119,98,45]
 |4=>[119,45,45]
 |5=>[119,114,45]
 |6=>[119,114,114]
 |7=>[119,114,114]
 |8=>[119,114,114]
 |9=>[119,114,114]
 |10=>[119,114,114]
 |11=>[119,114,114]
 |12=>[119,114,45]
 |13=>[119,114,102]
 |14=>[114,102,114]
 |15=>[119,45,45]
 |16=>[119,114,45]
 |17=>[114,114,45]
 |18=>[119,114,45]
 |19=>[119,114,114]
 |20=>[114,114,114]
 |21=>[119,114,45]
 |22=>[105,45,45]
 |23=>[114,105,45]
 |24=>[114,45,45]
 |25=>[103,99,45]
 |26=>[99,45,45]
 |27=>[99,45,45]
 |28=>[114,45,45]
 |29=>[119,119,45]
 |30=>[45,45,45]
 |31=>[45,45,45]
 |32=>[114,45,45]
 |33=>[119,114,45]
 |34=>[101,45,45]
 |_=>[]
theorem Mz:cJ 0=some (b9 0):=by simp[cJ,ao,ax,join_some,a9,b9]
theorem MA:cJ 1=some (b9 1):=by simp[cJ,ao,ax,join_some,a9,b9]
theorem MB:cJ 2=some (b9 2):=by simp[cJ,ao,ax,join_some,a9,b9]
theorem MC:cJ 3=some (b9 3):=by simp[cJ,ao,ax,join_some,a9,b9]
theorem MD:cJ 4=some (b9 4):=by simp[cJ,ao,ax,join_some,a9,b9]
theorem ME:cJ 5=some (b9 5):=by simp[cJ,ao,ax,join_some,a9,b9]
theorem MF:cJ 6=some (b9 6):=by simp[cJ,ao,ax,join_some,a9,b9]
theorem MG:cJ 7=some (b9 7):=by simp[cJ,ao,ax,join_some,a9,b9]
theorem MH:cJ 8=some (b9 8):=by simp[cJ,ao,ax,join_some,a9,b9]
theorem MI:cJ 9=some (b9 9):=by simp[cJ,ao,ax,join_some,a9,b9]
theorem Gt:cJ 10=some (b9 10):=by simp[cJ,ao,ax,join_some,a9,b9]
theorem Gu:cJ 11=some (b9 11):=by simp[cJ,ao,ax,join_some,a9,b9]
theorem Gv:cJ 12=some (b9 12):=by simp[cJ,ao,ax,join_some,a9,b9]
theorem Gw:cJ 13=some (b9 13):=by simp[cJ,ao,ax,join_some,a9,b9]
theorem Gx:cJ 14=some (b9 14):=by simp[cJ,ao,ax,join_some,a9,b9]
theorem Gy:cJ 15=some (b9 15):=by simp[cJ,ao,ax,join_some,a9,b9]
theorem Gz:cJ 16=some (b9 16):=by simp[cJ,ao,ax,join_some,a9,b9]
theorem GA:cJ 17=some (b9 17):=by simp[cJ,ao,ax,join_some,a9,b9]
theorem GB:cJ 18=some (b9 18):=by simp[cJ,ao,ax,join_some,a9,b9]
theorem GC:cJ 19=some (b9 19):=by simp[cJ,ao,ax,join_some,a9,b9]
theorem GD:cJ 20=some (b9 20):=by simp[cJ,ao,ax,join_some,a9,b9]
theorem GF:cJ 21=some (b9 21):=by simp[cJ,ao,ax,join_some,a9,b9]
theorem GG:cJ 22=some (b9 22):=by simp[cJ,ao,ax,join_some,a9,b9]
theorem GH:cJ 23=some (b9 23):=by simp[cJ,ao,ax,join_some,a9,b9]
theorem GI:cJ 24=some (b9 24):=by simp[cJ,ao,ax,join_some,a9,b9]
theorem GJ:cJ 25=some (b9 25):=by simp[cJ,ao,ax,join_some,a9,b9]
theorem GK:cJ 26=some (b9 26):=by simp[cJ,ao,ax,join_some,a9,b9]
theorem GL:cJ 27=some (b9 27):=by simp[cJ,ao,ax,join_some,a9,b9]
theorem GM:cJ 28=some (b9 28):=by simp[cJ,ao,ax,join_some,a9,b9]
theorem GN:cJ 29=some (b9 29):=by simp[cJ,ao,ax,join_some,a9,b9]
theorem GO:cJ 30=some (b9 30):=by simp[cJ,ao,ax,join_some,a9,b9]
theorem GP:cJ 31=some (b9 31):=by simp[cJ,ao,ax,join_some,a9,b9]
theorem GQ:cJ 32=some (b9 32):=by simp[cJ,ao,ax,join_some,a9,b9]
theorem GR:cJ 33=some (b9 33):=by simp[cJ,ao,ax,join_some,a9,b9]
theorem GS:cJ 34=some (b9 34):=by simp[cJ,ao,ax,join_some,a9,b9]
theorem Kx {c:Nat} (h:35<=c):c≠0/\c≠1/\c≠2/\c≠3/\c≠4/\c≠5/\c≠6/\c≠7/\c≠8/\c≠9/\c≠10/\c≠11/\c≠12/\c≠13/\c≠14/\c≠15/\c≠16/\c≠17/\c≠18/\c≠19/\c≠20/\c≠21/\c≠22/\c≠23/\c≠24/\c≠25/\c≠26/\c≠27/\c≠28/\c≠29/\c≠30/\c≠31/\c≠32/\c≠33/\c≠34:=ade
theorem MJ {c:Nat} (h:35<=c):cJ c=some []:=by
 simp[cJ,ao,ax,join_some,a9,Kx h]
theorem vH {c:Nat} (h:35<=c):cI c=some ([oZ,oZ,oZ],-1):=by
 simp[cI,ao,ax,join_some,a9,Kx h,mR]
def ev (s:Nat) (v:Int):Bool:=
 if s=45 then decide (v=0) else if s=119\/s=114 then decide (0<=v)&&decide (v<16) else if s=103\/s=101 then decide (-1<=v)&&decide (v<16)
 else if s=116\/s=99 then decide (0<=v)&&decide (v<32) else if s=98 then decide (0<=v)&&decide (v<2) else if s=102 then decide (0<=v)&&decide (v<8)
 else if s=105 then decide (0<=v)&&decide (v<200) else true
theorem Wp (s:Nat) (v:Int):Rc s v=some (ev s v):=by
 unfold Rc ev;simp only[ao,aE,aN,aG,aW,aZ,ax,bc,aA,bg,a9,au,join_some,join_none,ak,aI,aF,ay,aS,adk,adn,adj];grind
def l_ (p:Oper) (v:Int):Bool:=decide (p.1<=v)&&decide (v<=p.2.1)
def opsL (x:aX):List Int:=[x.2.1,x.2.2.1,x.2.2.2.1]
theorem Ew (x:aX):Mo x=some (opsL x):=rfl
theorem Ez (x:aX):MK x=some (opsL x):=rfl
theorem nX {x:aX} {l:List Oper} {n:Int} (h:cI x.1=some (l,n)):oL x=some (if n<0 then 8 else if(List.range 3).all (λi=>l_ (a8 l i) (a8 (opsL x) i))=true then 0 else 8):=by
 unfold oL;rw[h,a9];simp only[Ew,a9];rw[bA 3 (λi=>l_ (a8 l i) (a8 (opsL x) i)) 8 () ade ?_ ?_]
 ·simp only[ao,aE,aN,aG,aW,aZ,ax,bc,aA,bg,a9,au,join_some,join_none,ak,aI,aF,ay,aS,adk,adn,adj]
 ·intro i hi;have a1:ab 3 (i:Int) 1=((i+1:Nat):Int):=by rw[c8 ade ade];rfl
  simp only[ao,aE,aN,aG,aW,aZ,ax,bc,aA,bg,a9,au,join_some,join_none,ak,aI,aF,ay,aS,adk,adn,adj,a1,hi,adA,l_,bh,bT];grind
 ·simp only[ao,aE,aN,aG,aW,aZ,ax,bc,aA,bg,a9,au,join_some,join_none,ak,aI,aF,ay,aS,adk,adn,adj,lex];grind
theorem Gs {x:aX} {s:List Nat} (h:cJ x.1=some s):Cb x=some (if s.length=3 then(if(List.range 3).all (λi=>ev (a8 s i) (a8 (opsL x) i))=true then 0 else 8) else 8):=by
 unfold Cb;rw[h,a9];simp only[Ez,a9]
 by_cases h3:s.length=3
 ·rw[bA 3 (λi=>ev (a8 s i) (a8 (opsL x) i)) 8 () ade ?_ ?_]
  ·simp only[ao,aE,aN,aG,aW,aZ,ax,bc,aA,bg,a9,au,join_some,join_none,ak,aI,aF,ay,aS,adk,adn,adj];grind
  ·intro i hi;have a1:ab 3 (i:Int) 1=((i+1:Nat):Int):=by rw[c8 ade ade];rfl
   have e1:fP s i=a8 s i:=rfl;simp only[ao,aE,aN,aG,aW,aZ,ax,bc,aA,bg,a9,au,join_some,join_none,ak,aI,aF,ay,aS,adk,adn,adj,a1,hi,adA,Wp,h3,e1,bh,bT];grind
  ·simp only[ao,aE,aN,aG,aW,aZ,ax,bc,aA,bg,a9,au,join_some,join_none,ak,aI,aF,ay,aS,adk,adn,adj,lex];grind
 ·simp only[ao,aE,aN,aG,aW,aZ,ax,bc,aA,bg,a9,au,join_some,join_none,ak,aI,aF,ay,aS,adk,adn,adj];grind
def xH (v:Int):Prop:= -9223372036854775808<=v/\v<=9223372036854775807
def kH (x:aX):Prop:=xH x.2.1/\xH x.2.2.1/\xH x.2.2.2.1
theorem JC (x:aX) (hx:kH x):oL x=Cb x:=by
 obtain⟨c,a,b,d,u⟩:=x;obtain⟨h1,h2,h3⟩:=hx
 by_cases hc:35<=c
 ·rw[nX (vH hc),Gs (MJ hc)];rfl
 ·have key:∀(l:List Oper) (n:Int) (s:List Nat),cI c=some (l,n)->cJ c=some s->(if n<0 then(8:Int) else if(List.range 3).all (λi=>l_ (a8 l i) (a8 (opsL (c,a,b,d,u)) i))=true then 0 else 8)=(if s.length=3 then(if(List.range 3).all (λi=>ev (a8 s i) (a8 (opsL (c,a,b,d,u)) i))=true then 0 else 8) else 8)->oL (c,a,b,d,u)=Cb (c,a,b,d,u):=λl n s e1 e2 e3=>by
   rw[nX e1,Gs e2,e3]
  have r3:List.range 3=[0,1,2]:=rfl;have I1:xH a:=h1;have I2:xH b:=h2;have I3:xH d:=h3;unfold xH at I1 I2 I3;have hc:c<35:=ade;clear h1 h2 h3;rcases c with _|c
  ·refine key _ _ _ Mc Mz ?_;simp[aM,b9]
  rcases c with _|c
  ·refine key _ _ _ Me MA ?_;simp only[aM,b9,r3,adZ,aea,a8,opsL,l_,ev,oR,oW,oZ,oA,oB,oG,oE,adN,adO,adB,adR];grind
  rcases c with _|c
  ·refine key _ _ _ Mf MB ?_;simp only[aM,b9,r3,adZ,aea,a8,opsL,l_,ev,oR,oW,oZ,oA,oB,oG,oE,adN,adO,adB,adR];grind
  rcases c with _|c
  ·refine key _ _ _ Mg MC ?_;simp only[aM,b9,r3,adZ,aea,a8,opsL,l_,ev,oR,oW,oZ,oA,oB,oG,oE,adN,adO,adB,adR];grind
  rcases c with _|c
  ·refine key _ _ _ Mh MD ?_;simp only[aM,b9,r3,adZ,aea,a8,opsL,l_,ev,oR,oW,oZ,oA,oB,oG,oE,adN,adO,adB,adR];grind
  rcases c with _|c
  ·refine key _ _ _ Mi ME ?_;simp only[aM,b9,r3,adZ,aea,a8,opsL,l_,ev,oR,oW,oZ,oA,oB,oG,oE,adN,adO,adB,adR];grind
  rcases c with _|c
  ·refine key _ _ _ Mj MF ?_;simp only[aM,b9,r3,adZ,aea,a8,opsL,l_,ev,oR,oW,oZ,oA,oB,oG,oE,adN,adO,adB,adR];grind
  rcases c with _|c
  ·refine key _ _ _ Ml MG ?_;simp only[aM,b9,r3,adZ,aea,a8,opsL,l_,ev,oR,oW,oZ,oA,oB,oG,oE,adN,adO,adB,adR];grind
  rcases c with _|c
  ·refine key _ _ _ Mm MH ?_;simp only[aM,b9,r3,adZ,aea,a8,opsL,l_,ev,oR,oW,oZ,oA,oB,oG,oE,adN,adO,adB,adR];grind
  rcases c with _|c
  ·refine key _ _ _ Mn MI ?_;simp only[aM,b9,r3,adZ,aea,a8,opsL,l_,ev,oR,oW,oZ,oA,oB,oG,oE,adN,adO,adB,adR];grind
  rcases c with _|c
  ·refine key _ _ _ G2 Gt ?_;simp only[aM,b9,r3,adZ,aea,a8,opsL,l_,ev,oR,oW,oZ,oA,oB,oG,oE,adN,adO,adB,adR];grind
  rcases c with _|c
  ·refine key _ _ _ G3 Gu ?_;simp only[aM,b9,r3,adZ,aea,a8,opsL,l_,ev,oR,oW,oZ,oA,oB,oG,oE,adN,adO,adB,adR];grind
  rcases c with _|c
  ·refine key _ _ _ G4 Gv ?_;simp only[aM,b9,r3,adZ,aea,a8,opsL,l_,ev,oR,oW,oZ,oA,oB,oG,oE,adN,adO,adB,adR];grind
  rcases c with _|c
  ·refine key _ _ _ G5 Gw ?_;simp only[aM,b9,r3,adZ,aea,a8,opsL,l_,ev,oR,oW,oZ,oA,oB,oG,oE,adN,adO,adB,adR];grind
  rcases c with _|c
  ·refine key _ _ _ G6 Gx ?_;simp only[aM,b9,r3,adZ,aea,a8,opsL,l_,ev,oR,oW,oZ,oA,oB,oG,oE,adN,adO,adB,adR];grind
  rcases c with _|c
  ·refine key _ _ _ G7 Gy ?_;simp only[aM,b9,r3,adZ,aea,a8,opsL,l_,ev,oR,oW,oZ,oA,oB,oG,oE,adN,adO,adB,adR];grind
  rcases c with _|c
  ·refine key _ _ _ G8 Gz ?_;simp only[aM,b9,r3,adZ,aea,a8,opsL,l_,ev,oR,oW,oZ,oA,oB,oG,oE,adN,adO,adB,adR];grind
  rcases c with _|c
  ·refine key _ _ _ G9 GA ?_;simp only[aM,b9,r3,adZ,aea,a8,opsL,l_,ev,oR,oW,oZ,oA,oB,oG,oE,adN,adO,adB,adR];grind
  rcases c with _|c
  ·refine key _ _ _ Ga GB ?_;simp only[aM,b9,r3,adZ,aea,a8,opsL,l_,ev,oR,oW,oZ,oA,oB,oG,oE,adN,adO,adB,adR];grind
  rcases c with _|c
  ·refine key _ _ _ Gb GC ?_;simp only[aM,b9,r3,adZ,aea,a8,opsL,l_,ev,oR,oW,oZ,oA,oB,oG,oE,adN,adO,adB,adR];grind
  rcases c with _|c
  ·refine key _ _ _ Gc GD ?_;simp only[aM,b9,r3,adZ,aea,a8,opsL,l_,ev,oR,oW,oZ,oA,oB,oG,oE,adN,adO,adB,adR];grind
  rcases c with _|c
  ·refine key _ _ _ Gd GF ?_;simp only[aM,b9,r3,adZ,aea,a8,opsL,l_,ev,oR,oW,oZ,oA,oB,oG,oE,adN,adO,adB,adR];grind
  rcases c with _|c
  ·refine key _ _ _ Ge GG ?_;simp only[aM,b9,r3,adZ,aea,a8,opsL,l_,ev,oR,oW,oZ,oA,oB,oG,oE,adN,adO,adB,adR];grind
  rcases c with _|c
  ·refine key _ _ _ Gf GH ?_;simp only[aM,b9,r3,adZ,aea,a8,opsL,l_,ev,oR,oW,oZ,oA,oB,oG,oE,adN,adO,adB,adR];grind
  rcases c with _|c
  ·refine key _ _ _ Gg GI ?_;simp only[aM,b9,r3,adZ,aea,a8,opsL,l_,ev,oR,oW,oZ,oA,oB,oG,oE,adN,adO,adB,adR];grind
  rcases c with _|c
  ·refine key _ _ _ Gh GJ ?_;simp only[aM,b9,r3,adZ,aea,a8,opsL,l_,ev,oR,oW,oZ,oA,oB,oG,oE,adN,adO,adB,adR];grind
  rcases c with _|c
  ·refine key _ _ _ Gi GK ?_;simp only[aM,b9,r3,adZ,aea,a8,opsL,l_,ev,oR,oW,oZ,oA,oB,oG,oE,adN,adO,adB,adR];grind
  rcases c with _|c
  ·refine key _ _ _ Gj GL ?_;simp only[aM,b9,r3,adZ,aea,a8,opsL,l_,ev,oR,oW,oZ,oA,oB,oG,oE,adN,adO,adB,adR];grind
  rcases c with _|c
  ·refine key _ _ _ Gk GM ?_;simp only[aM,b9,r3,adZ,aea,a8,opsL,l_,ev,oR,oW,oZ,oA,oB,oG,oE,adN,adO,adB,adR];grind
  rcases c with _|c
  ·refine key _ _ _ Gl GN ?_;simp only[aM,b9,r3,adZ,aea,a8,opsL,l_,ev,oR,oW,oZ,oA,oB,oG,oE,adN,adO,adB,adR];grind
  rcases c with _|c
  ·refine key _ _ _ Gm GO ?_;simp only[aM,b9,r3,adZ,aea,a8,opsL,l_,ev,oR,oW,oZ,oA,oB,oG,oE,adN,adO,adB,adR];grind
  rcases c with _|c
  ·refine key _ _ _ Gn GP ?_;simp only[aM,b9,r3,adZ,aea,a8,opsL,l_,ev,oR,oW,oZ,oA,oB,oG,oE,adN,adO,adB,adR];grind
  rcases c with _|c
  ·refine key _ _ _ Gp GQ ?_;simp only[aM,b9,r3,adZ,aea,a8,opsL,l_,ev,oR,oW,oZ,oA,oB,oG,oE,adN,adO,adB,adR];grind
  rcases c with _|c
  ·refine key _ _ _ Gq GR ?_;simp only[aM,b9,r3,adZ,aea,a8,opsL,l_,ev,oR,oW,oZ,oA,oB,oG,oE,adN,adO,adB,adR];grind
  rcases c with _|c
  ·refine key _ _ _ Gr GS ?_;simp only[aM,b9,r3,adZ,aea,a8,opsL,l_,ev,oR,oW,oZ,oA,oB,oG,oE,adN,adO,adB,adR];grind
  omega
theorem Cy {S E Q:Type} (f:S->Option (T.LR S E Q)) (st:Nat->S) (n:Nat) (e:E) (h1:∀i,i<n->f (st i)=some (.ok (st (i+1)))) (h2:f (st n)=some (.ex e)):∀(k i N:Nat),i+k=n->k<N->T.iter f N (st i)=some (.ex e)
 |0,i,N+1,hi,_=>by
  have hi:i=n:=ade;subst hi;show Option.bind (f (st i)) _=_;rw[h2];rfl
 |k+1,i,N+1,hi,hN=>by
  show Option.bind (f (st i)) _=_;rw[h1 i ade];exact Cy f st n e h1 h2 k (i+1) N ade ade
 |0,_,0,_,h=>absurd h ade
 |_+1,_,0,_,h=>absurd h ade
theorem aV {S E Q ρ:Type} {f:S->Option (T.LR S E Q)} {s:S} {kx:E->Option ρ} {kr:Q->Option ρ} (st:Nat->S) (n:Nat) (e:E) (hs:s=st 0) (hn:n<9223372036854775808) (h1:∀i,i<n->f (st i)=some (.ok (st (i+1)))) (h2:f (st n)=some (.ex e)):
 loop S E Q f s kx kr=kx e:=by
 unfold loop;rw[hs,Cy f st n e h1 h2 n 0 9223372036854775808 ade hn];rfl
def pk (p:Nat->Bool) (v:Nat->Int):Nat->List Int
 |0=>[]
 |i+1=>if p i=true/\0<=v i then pk p v i++[v i] else pk p v i
theorem pT (p:Nat->Bool) (v:Nat->Int):∀i,(pk p v i).length<=i
 |0=>adw 0
 |i+1=>by
  have:=pT p v i;unfold pk;split
  ·rw[ado];simp;omega
  ·omega
theorem wQ {p q:Nat->Bool} {v:Nat->Int}:∀(n:Nat),(∀i,i<n->p i=q i)->pk p v n=pk q v n
 |0,_=>rfl
 |n+1,h=>by
  unfold pk;rw[h n ade,wQ n λi hi=>h i ade]
def JI (l:List Oper) (i:Nat):Bool:=(a8 l i).2.2.1
def J' (l:List Oper) (i:Nat):Bool:=(a8 l i).2.2.2.1
def YA (s:List Nat) (i:Nat):Bool:=decide (fP s i=114)||decide (fP s i=101)
def YK (s:List Nat) (i:Nat):Bool:=decide (fP s i=119)||decide (fP s i=103)
theorem G1 {x:aX} {l:List Oper} {n:Int} (h:cI x.1=some (l,n)) (h0:oL x=some 0):C3 x=some (pk (JI l) (a8 (opsL x)) 3,pk (J' l) (a8 (opsL x)) 3,0):=by
 unfold C3;rw[h0,a9];rw[h];simp only[a9,Ew];rw[aV (λi=>((i:Int),pk (JI l) (a8 (opsL x)) i,pk (J' l) (a8 (opsL x)) i)) 3 (pk (JI l) (a8 (opsL x)) 3,pk (J' l) (a8 (opsL x)) 3) ?_ ade ?_ ?_]
 ·simp only[ao,aE,aN,aG,aW,aZ,ax,bc,aA,bg,a9,au,join_some,join_none,ak,aI,aF,ay,aS,adk,adn,adj];rfl
 ·rfl
 ·intro i hi;have a1:ab 3 (i:Int) 1=((i+1:Nat):Int):=by rw[c8 ade ade];rfl
  have l1:=pT (JI l) (a8 (opsL x)) i;have l2:=pT (J' l) (a8 (opsL x)) i;simp only[ao,aE,aN,aG,aW,aZ,ax,bc,aA,bg,a9,au,join_some,join_none,ak,aI,aF,ay,aS,adk,adn,adj,a1,hi,adA,bh,T.dZ,pk,aw,ad_];show _=some (T.LR.ok (_,_,_));unfold JI J' at*;grind
 ·simp only[ao,aE,aN,aG,aW,aZ,ax,bc,aA,bg,a9,au,join_some,join_none,ak,aI,aF,ay,aS,adk,adn,adj,lex];rfl
theorem QW {x:aX} {s:List Nat} (h:cJ x.1=some s) (hs:s.length=3):C7 x=some (pk (YA s) (a8 (opsL x)) 3,pk (YK s) (a8 (opsL x)) 3):=by
 unfold C7;rw[h];simp only[a9,Ez];rw[aV (λi=>((i:Int),pk (YA s) (a8 (opsL x)) i,pk (YK s) (a8 (opsL x)) i)) 3 (pk (YA s) (a8 (opsL x)) 3,pk (YK s) (a8 (opsL x)) 3) ?_ ade ?_ ?_]
 ·rfl
 ·intro i hi;have a1:ab 3 (i:Int) 1=((i+1:Nat):Int):=by rw[c8 ade ade];rfl
  have l1:=pT (YA s) (a8 (opsL x)) i;have l2:=pT (YK s) (a8 (opsL x)) i;simp only[ao,aE,aN,aG,aW,aZ,ax,bc,aA,bg,a9,au,join_some,join_none,ak,aI,aF,ay,aS,adk,adn,adj,a1,hi,hs,adA,bh,T.dZ,pk,aw,ad_];show _=some (T.LR.ok (_,_,_));unfold YA YK at*;grind
 ·simp only[ao,aE,aN,aG,aW,aZ,ax,bc,aA,bg,a9,au,join_some,join_none,ak,aI,aF,ay,aS,adk,adn,adj,lex];rfl
theorem nh:∀{c:Nat},c<35->cI c=some (aM c)
 |0,_=>Mc
 |1,_=>Me
 |2,_=>Mf
 |3,_=>Mg
 |4,_=>Mh
 |5,_=>Mi
 |6,_=>Mj
 |7,_=>Ml
 |8,_=>Mm
 |9,_=>Mn
 |10,_=>G2
 |11,_=>G3
 |12,_=>G4
 |13,_=>G5
 |14,_=>G6
 |15,_=>G7
 |16,_=>G8
 |17,_=>G9
 |18,_=>Ga
 |19,_=>Gb
 |20,_=>Gc
 |21,_=>Gd
 |22,_=>Ge
 |23,_=>Gf
 |24,_=>Gg
 |25,_=>Gh
 |26,_=>Gi
 |27,_=>Gj
 |28,_=>Gk
 |29,_=>Gl
 |30,_=>Gm
 |31,_=>Gn
 |32,_=>Gp
 |33,_=>Gq
 |34,_=>Gr
 |c+35,h=>absurd h ade
theorem Cc:∀{c:Nat},c<35->cJ c=some (b9 c)
 |0,_=>Mz
 |1,_=>MA
 |2,_=>MB
 |3,_=>MC
 |4,_=>MD
 |5,_=>ME
 |6,_=>MF
 |7,_=>MG
 |8,_=>MH
 |9,_=>MI
 |10,_=>Gt
 |11,_=>Gu
 |12,_=>Gv
 |13,_=>Gw
 |14,_=>Gx
 |15,_=>Gy
 |16,_=>Gz
 |17,_=>GA
 |18,_=>GB
 |19,_=>GC
 |20,_=>GD
 |21,_=>GF
 |22,_=>GG
 |23,_=>GH
 |24,_=>GI
 |25,_=>GJ
 |26,_=>GK
 |27,_=>GL
 |28,_=>GM
 |29,_=>GN
 |30,_=>GO
 |31,_=>GP
 |32,_=>GQ
 |33,_=>GR
 |34,_=>GS
 |c+35,h=>absurd h ade
theorem P5:∀c:Fin 35,0<=(aM c.1).2->(b9 c.1).length=3/\∀i:Fin 3,JI (aM c.1).1 i.1=YA (b9 c.1) i.1/\J' (aM c.1).1 i.1=YK (b9 c.1) i.1:=by decide+kernel
theorem sv {x:aX} (h:oL x=some 0):∃hc:x.1<35,0<=(aM x.1).2:=by
 by_cases hc:x.1<35
 ·rw[nX (l:=(aM x.1).1) (n:=(aM x.1).2) (nh hc)] at h;refine⟨hc,?_⟩
  by_cases h0:(aM x.1).2<0
  ·rw[adp h0] at h;cases h
  ·omega
 ·rw[nX (vH ade)] at h;cases h
theorem a3g {x:aX} (h:oL x=some 0):∃r w,C7 x=some (r,w)/\C3 x=some (r,w,0):=by
 obtain⟨hc,h0⟩:=sv h;obtain⟨h1,h2⟩:=P5 ⟨x.1,hc⟩ h0;refine⟨_,_,QW (Cc hc) h1,?_⟩;rw[G1 (l:=(aM x.1).1) (n:=(aM x.1).2) (nh hc) h,wQ 3 λi hi=>(h2 ⟨i,hi⟩).1,wQ 3 λi hi=>(h2 ⟨i,hi⟩).2]
def iC:Nat->Nat->List Nat
 |0,_=>[]
 |k+1,v=>if 128<=v then(v %128+128)::iC k (v/128) else[v]
theorem dL:∀k v,(iC k v).length<=k
 |0,_=>adw 0
 |k+1,v=>by
  have:=dL k (v/128);unfold iC;split
  ·rw[adB];omega
  ·simp
theorem zP {Q:Type} (f:Nat×List Nat->Option (T.LR (Nat×List Nat) (Nat×List Nat) Q)) (hf:∀v acc,acc.length<=100->f (v,acc)=if 128<=v then some (.ok (v/128,acc++[v %128+128])) else some (.ex (v,acc))):
 ∀(k v:Nat) (acc:List Nat) (N:Nat),v<128^(k+1)->k<N->acc.length+k<=100->∃v' acc',T.iter f N (v,acc)=some (.ex (v',acc'))/\v'<128/\acc'++[v']=acc++iC (k+1) v/\acc'.length<=100
 |k,v,acc,0,_,h,_=>absurd h ade
 |k,v,acc,N+1,hv,hN,hl=>by
  show∃v' acc',Option.bind (f (v,acc)) _=_/\_;rw[hf v acc ade]
  by_cases h:128<=v
  ·rw[adp h];cases k with
   |zero=>exact absurd hv ade
   |succ k=>
    obtain⟨v',acc',h1,h2,h3,h4⟩:=zP f hf k (v/128) (acc++[v %128+128]) N (by rw[Nat.pow_succ] at hv;omega) ade (by rw[ado];simp;omega);refine⟨v',acc',h1,h2,?_,h4⟩;rw[h3,adQ];show _=acc++(if 128<=v then(v %128+128)::iC (k+1) (v/128) else[v]);rw[adp h];rfl
  ·rw[adq h];refine⟨v,acc,rfl,ade,?_,ade⟩;show _=acc++(if 128<=v then(v %128+128)::iC k (v/128) else[v]);rw[adq h]
theorem zQ {ρ Q:Type} {f:Nat×List Nat->Option (T.LR (Nat×List Nat) (Nat×List Nat) Q)} {kx:Nat×List Nat->Option (List Nat)} {kr:Q->Option (List Nat)} {x:Nat} (hx:x<18446744073709551616) (hf:∀v acc,acc.length<=100->f (v,acc)=if 128<=v then some (.ok (v/128,acc++[v %128+128])) else some (.ex (v,acc)))
 (hk:∀v acc,v<128->acc.length<=100->kx (v,acc)=some (acc++[v])):loop (Nat×List Nat) (Nat×List Nat) Q f (x,[]) kx kr=some (iC 10 x):=by
 obtain⟨v',acc',h1,h2,h3,h4⟩:=zP f hf 9 x [] 9223372036854775808 ade ade (by simp);unfold loop;rw[h1];show kx (v',acc')=_;rw[hk v' acc' h2 h4,h3];rfl
theorem a31:∀c:Fin 256,Nat.lor c.1 128=c.1 %128+128:=by decide+kernel
theorem Q4 (v:Nat):m8 (lF 4 v) 128=v %128+128:=by
 rw[T.qZ,T.pt];have:=a31 ⟨v %256,ade⟩;show Nat.lor (v %256) 128=_;rw[this];show v %256 %128+128=_;omega
theorem Kz (v:Nat):cP 4 (lF 4 (eV v 128)) 128=v %128+128:=by
 rw[T.vl,T.pt,T.dR];show(v %128 %256+128) %256=_;omega
theorem zZ {v:Nat} (h:v<128):lF 4 v=v:=by
 rw[T.pt];show v %256=v;omega
theorem sq {x:Nat} (hx:x<18446744073709551616):gi x=some (iC 10 x):=by
 unfold gi;refine zQ (ρ:=Unit) hx (λv acc h=> ?_) λv acc hv h=> ?_
 ·simp only[ao,aE,aN,aG,aW,aZ,ax,bc,aA,bg,a9,au,join_some,join_none,ak,aI,aF,ay,aS,adk,adn,adj,bh,lex,T.dZ,Q4,T.ke,aw,ad_];grind
 ·simp only[ao,aE,aN,aG,aW,aZ,ax,bc,aA,bg,a9,au,join_some,join_none,ak,aI,aF,ay,aS,adk,adn,adj,T.dZ,zZ hv,aw,ad_];grind
theorem nd {x:Nat} (hx:x<18446744073709551616):vG x=some (iC 10 x):=by
 unfold vG;refine zQ (ρ:=Unit) hx (λv acc h=> ?_) λv acc hv h=> ?_
 ·simp only[ao,aE,aN,aG,aW,aZ,ax,bc,aA,bg,a9,au,join_some,join_none,ak,aI,aF,ay,aS,adk,adn,adj,bh,lex,T.dZ,Kz,T.wY,T.e9,aw,ad_];grind
 ·simp only[ao,aE,aN,aG,aW,aZ,ax,bc,aA,bg,a9,au,join_some,join_none,ak,aI,aF,ay,aS,adk,adn,adj,T.dZ,zZ hv,aw,ad_];grind
def zz (x:Int):Nat:=if 0<=x then(2*x).toNat else(2*(-x-1)+1).toNat
theorem PF {x:Int} (h:xH x):zz x<18446744073709551616:=by
 unfold xH at h;unfold zz;split<;>omega
theorem PD {a:Nat} (h:a<18446744073709551616):Nat.xor a 18446744073709551615=18446744073709551615-a:=by
 have h1:=congrArg BitVec.toNat (BitVec.xor_allOnes (x:=BitVec.ofNat 64 a));rw[BitVec.toNat_xor,BitVec.toNat_not,BitVec.toNat_ofNat,BitVec.toNat_allOnes,Nat.mod_eq_of_lt ade] at h1;exact h1
theorem lV (x:Int):(T.bF 7 x)=(x %18446744073709551616).toNat:=T.KF 7 x
theorem Lz {x:Int} (h:xH x):PA (la 7 (bF 7 x) 1) (bF 7 (JP 3 x 63))=zz x:=by
 unfold xH at h;rw[T.PC,T.pY,lV,lV,T.Fv];unfold zz
 by_cases h0:0<=x
 ·rw[adp h0];have e1:x/2^63=0:=ade;rw[e1];show(x %18446744073709551616).toNat*2^1 %18446744073709551616^^^0=_;rw[Nat.xor_zero];omega
 ·rw[adq h0];have e1:x/2^63= -1:=ade;rw[e1];show Nat.xor ((x %18446744073709551616).toNat*2^1 %18446744073709551616) 18446744073709551615=_;rw[PD ade];omega
theorem LA {x:Int} (h:xH x):Ly x=some (iC 10 (zz x)):=by
 unfold Ly;rw[Lz h,sq (PF h)];rfl
theorem LQ {x:Int} (h:xH x):LO x=some (zz x):=by
 unfold xH at h;unfold LO zz;simp only[ao,aE,aN,aG,aW,aZ,ax,bc,aA,bg,a9,au,join_some,join_none,ak,aI,aF,ay,aS,adk,adn,adj]
 by_cases h0:0<=x
 ·rw[adp h0,adp h0,T.sP,lV];show some ((x %18446744073709551616).toNat*2 %18446744073709551616)=_;congr 1;omega
 ·rw[adq h0,adq h0,T.vl,T.sP,lV,T.NZ,c8 ade ade,Ke ade ade];show some (((-(x+1) %18446744073709551616).toNat*2 %18446744073709551616+1) %18446744073709551616)=_;congr 1;omega
def oJ (sk sg:Nat->Bool) (v:Nat->Int) (c:Nat):Nat->List Nat
 |0=>[c]
 |i+1=>if sk i=true then oJ sk sg v c i else oJ sk sg v c i++(if sg i=true then iC 10 (zz (v i)) else iC 10 (v i %18446744073709551616).toNat)
theorem qv (sk sg:Nat->Bool) (v:Nat->Int) (c:Nat):∀i,(oJ sk sg v c i).length<=1+10*i
 |0=>by simp[oJ]
 |i+1=>by
  have:=qv sk sg v c i;have l1:=dL 10 (zz (v i));have l2:=dL 10 (v i %18446744073709551616).toNat;unfold oJ;split
  ·omega
  ·rw[ado];split<;>omega
theorem vC {sk sg sk' sg':Nat->Bool} {v:Nat->Int} {c:Nat}:∀(n:Nat),(∀i,i<n->sk i=sk' i/\(sk i=false->sg i=sg' i))->oJ sk sg v c n=oJ sk' sg' v c n
 |0,_=>rfl
 |n+1,h=>by
  obtain⟨h1,h2⟩:=h n ade;unfold oJ;rw[vC n λi hi=>h i ade,<-h1];split
  ·rfl
  ·rename_i h3;rw[h2 (by simpa using h3)]
def XM (n:Int) (i:Nat):Bool:=decide (n<=(i:Int))
def YE (l:List Oper) (i:Nat):Bool:=decide ((a8 l i).1<0)
def YG (s:List Nat) (i:Nat):Bool:=decide (fP s i=45)
def YF (s:List Nat) (i:Nat):Bool:=decide (fP s i=110)||(decide (fP s i=103)||decide (fP s i=101))
theorem AQ {x:aX} (hx:kH x) {i:Nat} (hi:i<3):xH (a8 (opsL x) i):=by
 obtain⟨h1,h2,h3⟩:=hx;rcases i with _|_|_|i
 ·exact h1
 ·exact h2
 ·exact h3
 ·omega
theorem si (x:Int):(x %18446744073709551616).toNat<18446744073709551616:=ade
theorem QO {x:aX} (hx:kH x) {l:List Oper} {n:Int} (h:cI x.1=some (l,n)) (h0:oL x=some 0):IN x=some (oJ (XM n) (YE l) (a8 (opsL x)) x.1 3,0):=by
 unfold IN;rw[h0,a9];rw[h];simp only[a9,Ew];rw[aV (λi=>((i:Int),oJ (XM n) (YE l) (a8 (opsL x)) x.1 i)) 3 (oJ (XM n) (YE l) (a8 (opsL x)) x.1 3) ?_ ade ?_ ?_]
 ·simp only[ao,aE,aN,aG,aW,aZ,ax,bc,aA,bg,a9,au,join_some,join_none,ak,aI,aF,ay,aS,adk,adn,adj];rfl
 ·rfl
 ·intro i hi;have a1:ab 3 (i:Int) 1=((i+1:Nat):Int):=by rw[c8 ade ade];rfl
  have l0:=qv (XM n) (YE l) (a8 (opsL x)) x.1 i;have l1:=dL 10 (zz (a8 (opsL x) i));have l2:=dL 10 (a8 (opsL x) i %18446744073709551616).toNat;simp only[ao,aE,aN,aG,aW,aZ,ax,bc,aA,bg,a9,au,join_some,join_none,ak,aI,aF,ay,aS,adk,adn,adj,a1,hi,adA,bh,T.dZ,oJ,aw,ad_,LA (AQ hx hi),lV,sq (si _)];unfold XM YE at*;grind
 ·simp only[ao,aE,aN,aG,aW,aZ,ax,bc,aA,bg,a9,au,join_some,join_none,ak,aI,aF,ay,aS,adk,adn,adj,lex];rfl
theorem Wc (c:Nat):R6 c=some (decide (c=110)||(decide (c=103)||decide (c=101))):=by
 unfold R6;simp only[ao,aE,aN,aG,aW,aZ,ax,bc,aA,bg,a9,au,join_some,join_none,ak,aI,aF,ay,aS,adk,adn,adj];grind
theorem QU {x:aX} (hx:kH x) {s:List Nat} (h:cJ x.1=some s) (hs:s.length=3):Em x=some (oJ (YG s) (YF s) (a8 (opsL x)) x.1 3):=by
 unfold Em;rw[h];simp only[a9,Ez];rw[aV (λi=>((i:Int),oJ (YG s) (YF s) (a8 (opsL x)) x.1 i)) 3 (oJ (YG s) (YF s) (a8 (opsL x)) x.1 3) ?_ ade ?_ ?_]
 ·rfl
 ·intro i hi;have a1:ab 3 (i:Int) 1=((i+1:Nat):Int):=by rw[c8 ade ade];rfl
  have l0:=qv (YG s) (YF s) (a8 (opsL x)) x.1 i;have l1:=dL 10 (zz (a8 (opsL x) i));have l2:=dL 10 (a8 (opsL x) i %18446744073709551616).toNat;simp only[ao,aE,aN,aG,aW,aZ,ax,bc,aA,bg,a9,au,join_some,join_none,ak,aI,aF,ay,aS,adk,adn,adj,a1,hi,hs,adA,bh,T.dZ,oJ,aw,ad_,Wc,LQ (AQ hx hi),nd (PF (AQ hx hi)),lV,nd (si _)];unfold YG YF at*;grind
 ·simp only[ao,aE,aN,aG,aW,aZ,ax,bc,aA,bg,a9,au,join_some,join_none,ak,aI,aF,ay,aS,adk,adn,adj,lex];rfl
theorem Sq:∀c:Fin 35,0<=(aM c.1).2->∀i:Fin 3,XM (aM c.1).2 i.1=YG (b9 c.1) i.1/\(XM (aM c.1).2 i.1=false->YE (aM c.1).1 i.1=YF (b9 c.1) i.1):=by decide+kernel
theorem JB {x:aX} (hx:kH x) (h:oL x=some 0):∃b,Em x=some b/\IN x=some (b,0)/\b.length<=31:=by
 obtain⟨hc,h0⟩:=sv h;have h1:=(P5 ⟨x.1,hc⟩ h0).1;have h2:=Sq ⟨x.1,hc⟩ h0;refine⟨_,QU hx (Cc hc) h1,?_,qv _ _ _ _ 3⟩;rw[QO hx (l:=(aM x.1).1) (n:=(aM x.1).2) (nh hc) h,vC 3 λi hi=>h2 ⟨i,hi⟩]
theorem fZ {S E Q ρ:Type} {f:S->Option (T.LR S E Q)} {s:S} {kx:E->Option ρ} {kr:Q->Option ρ} (st:Nat->S) (n:Nat) (p:Nat->Bool) (q:Q) (e:E) (hs:s=st 0) (hn:n<9223372036854775808) (h1:∀i:Nat,i<n->f (st i)=if p i=true then some (.ok (st (i+1))) else some (.rt q)) (h2:f (st n)=some (.ex e)):
 loop S E Q f s kx kr=if(List.range n).all p=true then kx e else kr q:=by
 rw[sK (A:=Unit) (λi _=>st i) (λi _=>if p i=true then some (.ok ()) else some (.rt q)) (λ_=>e) n () hs hn (λi a hi=>by rw[h1 i hi];split<;>rfl) (λ_=>h2),xa,<-List.range_eq_range'];split<;>rfl
def Um (r:dh):Prop:=xH r.1/\r.2.1<18446744073709551616
def nC (l:List dh):Prop:=l.length<4611686018427387904/\∀r∈l,Um r
theorem zj {l:List dh} (h:nC l) {i:Nat} (hi:i<l.length):Um (a8 l i):=by rw[bz hi];exact h.2 _ (adT hi)
def lU (l:List dh) (i:Nat):Bool:= !(decide ((a8 l (i+1)).1<=(a8 l i).1)||decide ((a8 l (i+1)).2.1=(a8 l i).2.1))
def jc (l:List dh) (n:Int):Bool:= !(decide (l.length=0))&&(decide ((a8 l 0).1=0)&&(!(decide (n<=(a8 l (l.length-1)).1))&&(List.range (l.length-1)).all (lU l)))
theorem UZ (x y:dh):BZ x (x.1,y.2.1,())=decide (x.2.1=y.2.1):=by
 show(bm x.1 x.1&&(aR x.2.1 y.2.1&&true))=_;rw[aG,ax];simp
theorem VL {l:List dh} {n:Int} (h:nC l):QQ l n=some (jc l n):=by
 unfold QQ jc
 by_cases h0:l.length=0
 ·simp only[ao,aE,aN,aG,aW,aZ,ax,bc,aA,bg,a9,au,join_some,join_none,ak,aI,aF,ay,aS,adk,adn,adj,h0];grind
 ·have hb:T.b_ l.length 1 (ρ:=Bool)=λk=>k 1:=by
   funext k;rw[T.d4,adh];rfl
  have s1:bq 3 l.length 1=((l.length-1:Nat):Int):=by rw[cD (by have:=h.1;omega) (by have:=h.1;omega)];omega
  have hlen:(av (l.length-1) (aH 1 l)).length=l.length-1:=by
   show(List.take (l.length-1) (List.drop 1 l)).length=_;rw[adY,ael];omega
  have eR:∀i,i<l.length-1->a8 (av (l.length-1) (aH 1 l)) i=a8 l (i+1):=λi hi=>by
   show(List.take (l.length-1) (List.drop 1 l)).getD i _=l.getD (i+1) _;rw[adG,adG,List.getElem?_take,adp hi,List.getElem?_drop,Nat.add_comm]
  have hc:∀k:Nat->Option Bool,ai l.length 0 k=k 0:=λk=>by rw[aI,adh]
  simp only[hb,hc,s1,aS,hlen];rw[fZ (λi=>((i:Int),a8 l i)) (l.length-1) (lU l) false (a8 l (l.length-1)) ?_ (by have:=h.1;omega) ?_ ?_]
  ·simp only[ao,aE,aN,aG,aW,aZ,ax,bc,aA,bg,a9,au,join_some,join_none,ak,aI,aF,ay,aS,adk,adn,adj];grind
  ·rfl
  ·intro i hi;have a1:ab 3 (i:Int) 1=((i+1:Nat):Int):=by rw[c8 (by have:=h.1;omega) (by have:=h.1;omega)];rfl
   simp only[ao,aE,aN,aG,aW,aZ,ax,bc,aA,bg,a9,au,join_some,join_none,ak,aI,aF,ay,aS,adk,adn,adj,a1,hi,adA,eR i hi,bh,bT,UZ,lU];grind
  ·simp only[ao,aE,aN,aG,aW,aZ,ax,bc,aA,bg,a9,au,join_some,join_none,ak,aI,aF,ay,aS,adk,adn,adj,lex];grind
def Ix (l:List dh) (n:Int) (i:Nat):Bool:= !(decide (n<=(a8 l i).1)||(decide (0<i)&& !lU l (i-1)))
theorem ve {l:List dh} (h:∀i,i<l.length-1->lU l i=true):∀(k i:Nat),i+k<l.length->(a8 l i).1<=(a8 l (i+k)).1
 |0,_,_=>Int.le_refl _
 |k+1,i,hk=>by
  have h1:=ve h k i ade;have h2:=h (i+k) ade;unfold lU at h2;simp only[adn,ad',adj] at h2;have h3:=h2.1;have e:i+k+1=i+(k+1):=ade;rw[e] at h3;omega
theorem N4 {l:List dh} {n:Int} (h0:¬l.length=0):(!(decide (n<=(a8 l (l.length-1)).1))&&(List.range (l.length-1)).all (lU l))=(List.range l.length).all (Ix l n):=by
 rw[ae8,adr,adE,adE];constructor
 ·rintro⟨h1,h2⟩ i hi;have hi:=adL.1 hi;have h2:∀i,i<l.length-1->lU l i=true:=λi hi=>h2 i (adL.2 hi)
  have h3:=ve h2 (l.length-1-i) i ade;rw[show i+(l.length-1-i)=l.length-1 by omega] at h3;have h1:¬n<=(a8 l (l.length-1)).1:=by simpa using h1
  unfold Ix;simp only[adn,ad',ae6,adj,Bool.not_eq_false'];refine⟨ade,?_⟩
  by_cases h4:0<i
  ·exact .inr (h2 (i-1) ade)
  ·exact .inl h4
 ·intro H;have H:∀i,i<l.length->(¬n<=(a8 l i).1)/\(0<i->lU l (i-1)=true):=λi hi=>by
   have:=H i (adL.2 hi);unfold Ix at this;simp only[adn,ad',ae6,adj,Bool.not_eq_false'] at this;exact⟨this.1,λh=>this.2.resolve_left λh'=>h' h⟩
  refine⟨by simpa using(H (l.length-1) ade).1,λi hi=> ?_⟩;have hi:=adL.1 hi;have:=(H (i+1) ade).2 ade;exact this
theorem My {l:List dh} {n:Int} (h:nC l):Mx l n=some (jc l n):=by
 unfold Mx
 by_cases h0:l.length=0
 ·unfold jc;simp only[ao,aE,aN,aG,aW,aZ,ax,bc,aA,bg,a9,au,join_some,join_none,ak,aI,aF,ay,aS,adk,adn,adj,h0];grind
 ·unfold jc;rw[N4 h0];rw[bA l.length (Ix l n) false () (by have:=h.1;omega) ?_ ?_]
  ·simp only[ao,aE,aN,aG,aW,aZ,ax,bc,aA,bg,a9,au,join_some,join_none,ak,aI,aF,ay,aS,adk,adn,adj];grind
  ·intro i hi;have a1:ab 3 (i:Int) 1=((i+1:Nat):Int):=by rw[c8 (by have:=h.1;omega) (by have:=h.1;omega)];rfl
   rcases i with _|i
   ·simp only[ao,aE,aN,aG,aW,aZ,ax,bc,aA,bg,a9,au,join_some,join_none,ak,aI,aF,ay,aS,adk,adn,adj,a1,hi,adA,bh,bT,Ix];grind
   ·have s1:bq 3 ((i+1:Nat):Int) 1=(i:Int):=by rw[cD (by have:=h.1;omega) (by have:=h.1;omega)];omega
    have hi':i<l.length:=ade;have e1:i+1-1=i:=rfl;simp only[ao,aE,aN,aG,aW,aZ,ax,bc,aA,bg,a9,au,join_some,join_none,ak,aI,aF,ay,aS,adk,adn,adj,a1,s1,hi,hi',e1,adA,bh,bT,Ix,lU];grind
  ·simp only[ao,aE,aN,aG,aW,aZ,ax,bc,aA,bg,a9,au,join_some,join_none,ak,aI,aF,ay,aS,adk,adn,adj,lex];grind
theorem LF (n:Int):LD n=some (if n<1\/200<n then 2 else 0):=by
 unfold LD;simp only[ao,aE,aN,aG,aW,aZ,ax,bc,aA,bg,a9,au,join_some,join_none,ak,aI,aF,ay,aS,adk,adn,adj];grind
def yg (l:List dh) (n:Int):Int:=if n<1\/200<n then 2 else if jc l n=true then 0 else 8
theorem Ab {l:List dh} (h:nC l) (n:Int):Ee l n=some (yg l n):=by
 unfold Ee yg;rw[LF,a9,VL h];simp only[ao,aE,aN,aG,aW,aZ,ax,bc,aA,bg,a9,au,join_some,join_none,ak,aI,aF,ay,aS,adk,adn,adj];grind
theorem vP {l:List dh} {n:Int} (h:jc l n=true):(l.length:Int)<=n/\0<l.length/\(a8 l 0).1=0/\(∀i,i<l.length-1->lU l i=true)/\(a8 l (l.length-1)).1<n:=by
 unfold jc at h;simp only[adr,adn,adj,adk,adE] at h;obtain⟨h0,h1,h2,h3⟩:=h;have h3:∀i,i<l.length-1->lU l i=true:=λi hi=>h3 i (adL.2 hi)
 have key:∀i:Nat,i<l.length->(i:Int)<=(a8 l i).1:=by
  intro i
  induction i with
  |zero=>intro _;omega
  |succ i ih=>
   intro hi;have h4:=h3 i ade;have h5:=ih ade;unfold lU at h4;simp only[adn,ad',adj] at h4;have h6:=h4.1;omega
 have:=key (l.length-1) ade;exact⟨ade,ade,h1,h3,ade⟩
def Uq (l:List dh):Nat->Int
 |0=>0
 |i+1=>(a8 l i).1
noncomputable def kq (l:List dh):Nat->List Nat
 |0=>iC 10 ((l.length:Int) %18446744073709551616).toNat
 |i+1=>(kq l i++iC 10 (bq 3 (a8 l i).1 (Uq l i) %18446744073709551616).toNat)++iC 10 (a8 l i).2.1
theorem iA (l:List dh):∀i,(kq l i).length<=10+20*i
 |0=>dL 10 _
 |i+1=>by
  have:=iA l i;have l1:=dL 10 (bq 3 (a8 l i).1 (Uq l i) %18446744073709551616).toNat;have l2:=dL 10 (a8 l i).2.1;unfold kq;rw[ado,ado];omega
theorem sr {l:List dh} {n:Int} (h:nC l) (h0:yg l n=0):QP l n=some (kq l l.length,0)/\LS l=some (kq l l.length)/\l.length<=200:=by
 have hl:l.length<=200:=by
  unfold yg at h0;split at h0
  ·cases h0
  ·split at h0
   ·rename_i hf;have:=(vP hf).1;omega
   ·cases h0
 refine⟨?_,?_,hl⟩
 ·unfold QP;rw[Ab h,h0,a9];simp only[lV,sq (si _),a9];rw[aV (λi=>(Uq l i,(i:Int),kq l i)) l.length (kq l l.length) ?_ ade ?_ ?_]
  ·simp only[ao,aE,aN,aG,aW,aZ,ax,bc,aA,bg,a9,au,join_some,join_none,ak,aI,aF,ay,aS,adk,adn,adj];rfl
  ·rfl
  ·intro i hi;have a1:ab 3 (i:Int) 1=((i+1:Nat):Int):=by rw[c8 ade ade];rfl
   have hr:=zj h hi;have l0:=iA l i;have p1:Uq l (i+1)=(a8 l i).1:=rfl;have l1:=dL 10 (bq 3 (a8 l i).1 (Uq l i) %18446744073709551616).toNat;have l2:=dL 10 (a8 l i).2.1;simp only[ao,aE,aN,aG,aW,aZ,ax,bc,aA,bg,a9,au,join_some,join_none,ak,aI,aF,ay,aS,adk,adn,adj,a1,hi,adA,bh,T.dZ,kq,p1,aw,ad_,lV,sq (si _),sq hr.2,ado];grind
  ·simp only[ao,aE,aN,aG,aW,aZ,ax,bc,aA,bg,a9,au,join_some,join_none,ak,aI,aF,ay,aS,adk,adn,adj,lex];grind
 ·unfold LS;simp only[lV,nd (si _),a9];rw[aV (λi=>(Uq l i,(i:Int),kq l i)) l.length (kq l l.length) ?_ ade ?_ ?_]
  ·rfl
  ·intro i hi;have a1:ab 3 (i:Int) 1=((i+1:Nat):Int):=by rw[c8 ade ade];rfl
   have hr:=zj h hi;have l0:=iA l i;have p1:Uq l (i+1)=(a8 l i).1:=rfl;have l1:=dL 10 (bq 3 (a8 l i).1 (Uq l i) %18446744073709551616).toNat;have l2:=dL 10 (a8 l i).2.1;simp only[ao,aE,aN,aG,aW,aZ,ax,bc,aA,bg,a9,au,join_some,join_none,ak,aI,aF,ay,aS,adk,adn,adj,a1,hi,adA,bh,T.dZ,kq,p1,aw,ad_,lV,nd (si _),nd hr.2,ado];grind
  ·simp only[ao,aE,aN,aG,aW,aZ,ax,bc,aA,bg,a9,au,join_some,join_none,ak,aI,aF,ay,aS,adk,adn,adj,lex];grind
def gX (l:List Nat):Nat->List dh
 |0=>[]
 |i+1=>if i=0\/a8 l i≠a8 l (i-1) then gX l i++[((i:Int),a8 l i,())] else gX l i
theorem lM (l:List Nat):∀i,(gX l i).length<=i
 |0=>adw 0
 |i+1=>by
  have:=lM l i;unfold gX;split
  ·rw[ado];simp;omega
  ·omega
theorem LY {l:List Nat} (h:l.length<=1000000):Ep l=some (gX l l.length):=by
 unfold Ep;rw[aV (λi=>((i:Int),gX l i)) l.length (gX l l.length) ?_ ade ?_ ?_]
 ·rfl
 ·intro i hi;have a1:ab 3 (i:Int) 1=((i+1:Nat):Int):=by rw[c8 ade ade];rfl
  have l0:=lM l i;rcases i with _|i
  ·simp only[ao,aE,aN,aG,aW,aZ,ax,bc,aA,bg,a9,au,join_some,join_none,ak,aI,aF,ay,aS,adk,adn,adj,a1,hi,adA,bh,T.dZ,gX,aw,ad_];grind
  ·have s1:bq 3 ((i+1:Nat):Int) 1=(i:Int):=by rw[cD ade ade];omega
   have hi':i<l.length:=ade;have e1:i+1-1=i:=rfl;have m1:gX l (i+1+1)=if i+1=0\/a8 l (i+1)≠a8 l (i+1-1) then gX l (i+1)++[(((i+1:Nat):Int),a8 l (i+1),())] else gX l (i+1):=rfl
   simp only[ao,aE,aN,aG,aW,aZ,ax,bc,aA,bg,a9,au,join_some,join_none,ak,aI,aF,ay,aS,adk,adn,adj,a1,s1,m1,e1,hi,hi',adA,bh,T.dZ,aw,ad_];grind
 ·simp only[ao,aE,aN,aG,aW,aZ,ax,bc,aA,bg,a9,au,join_some,join_none,ak,aI,aF,ay,aS,adk,adn,adj,lex];grind
theorem Lv (l:List Nat) (h:l.length<4611686018427387904):Lu l=some (if(l.length:Int)<1\/200<(l.length:Int) then([],2) else(gX l l.length,0)):=by
 unfold Lu;rw[LF,a9]
 by_cases hb:(l.length:Int)<1\/200<(l.length:Int)
 ·rw[adp hb,adp hb];simp only[ao,aE,aN,aG,aW,aZ,ax,bc,aA,bg,a9,au,join_some,join_none,ak,aI,aF,ay,aS,adk,adn,adj];rfl
 ·rw[adq hb,adq hb];rw[aV (λi=>((i:Int),gX l i)) l.length (gX l l.length) ?_ ade ?_ ?_]
  ·simp only[ao,aE,aN,aG,aW,aZ,ax,bc,aA,bg,a9,au,join_some,join_none,ak,aI,aF,ay,aS,adk,adn,adj];rfl
  ·rfl
  ·intro i hi;have a1:ab 3 (i:Int) 1=((i+1:Nat):Int):=by rw[c8 ade ade];rfl
   have l0:=lM l i;rcases i with _|i
   ·simp only[ao,aE,aN,aG,aW,aZ,ax,bc,aA,bg,a9,au,join_some,join_none,ak,aI,aF,ay,aS,adk,adn,adj,a1,hi,adA,bh,T.dZ,gX,aw,ad_];grind
   ·have s1:bq 3 ((i+1:Nat):Int) 1=(i:Int):=by rw[cD ade ade];omega
    have hi':i<l.length:=ade;have e1:i+1-1=i:=rfl;have m1:gX l (i+1+1)=if i+1=0\/a8 l (i+1)≠a8 l (i+1-1) then gX l (i+1)++[(((i+1:Nat):Int),a8 l (i+1),())] else gX l (i+1):=rfl
    simp only[ao,aE,aN,aG,aW,aZ,ax,bc,aA,bg,a9,au,join_some,join_none,ak,aI,aF,ay,aS,adk,adn,adj,a1,s1,m1,e1,hi,hi',adA,bh,T.dZ,aw,ad_];grind
  ·simp only[ao,aE,aN,aG,aW,aZ,ax,bc,aA,bg,a9,au,join_some,join_none,ak,aI,aF,ay,aS,adk,adn,adj,lex];grind
theorem Hb {S E Q:Type} {f:S->Option (T.LR S E Q)} (I:S->Prop) (P:E->Prop) (m:S->Nat) (h:∀s,I s->(∃s',f s=some (.ok s')/\I s'/\m s'<m s)\/(∃e,f s=some (.ex e)/\P e)):∀(N:Nat) (s:S),I s->m s<N->∃e,T.iter f N s=some (.ex e)/\P e
 |0,_,_,h=>absurd h ade
 |N+1,s,hI,hm=>by
  rcases h s hI with⟨s',h1,h2,h3⟩|⟨e,h1,h2⟩
  ·obtain⟨e,k1,k2⟩:=Hb I P m h N s' h2 ade;refine⟨e,?_,k2⟩;show Option.bind (f s) _=_;rw[h1];exact k1
  ·refine⟨e,?_,h2⟩;show Option.bind (f s) _=_;rw[h1];rfl
theorem oe {S E Q ρ:Type} {f:S->Option (T.LR S E Q)} {s:S} {kx:E->Option ρ} {kr:Q->Option ρ} (I:S->Prop) (P:E->Prop) (m:S->Nat) (hI:I s) (hm:m s<9223372036854775808) (h:∀s,I s->(∃s',f s=some (.ok s')/\I s'/\m s'<m s)\/(∃e,f s=some (.ex e)/\P e)):∃e,P e/\loop S E Q f s kx kr=kx e:=by
 obtain⟨e,h1,h2⟩:=Hb I P m h 9223372036854775808 s hI hm;refine⟨e,h2,?_⟩;unfold loop;rw[h1];rfl
def nO (l:List dh) (p:Int):Nat->Nat
 |0=>0
 |i+1=>if(a8 l i).1<=p then(a8 l i).2.1 else nO l p i
theorem ZK {l:List dh} {p:Int} (h:l.length<4611686018427387904):Yg l p=some (nO l p l.length):=by
 unfold Yg;rw[aV (λi=>(nO l p i,(i:Int))) l.length (nO l p l.length) ?_ ade ?_ ?_]
 ·rfl
 ·intro i hi;have a1:ab 3 (i:Int) 1=((i+1:Nat):Int):=by rw[c8 ade ade];rfl
  simp only[ao,aE,aN,aG,aW,aZ,ax,bc,aA,bg,a9,au,join_some,join_none,ak,aI,aF,ay,aS,adk,adn,adj,a1,hi,adA,bh,nO];grind
 ·simp only[ao,aE,aN,aG,aW,aZ,ax,bc,aA,bg,a9,au,join_some,join_none,ak,aI,aF,ay,aS,adk,adn,adj,lex];grind
theorem HZ {l:List dh} {p:Int} {k:Nat} (h1:∀i,i<k->(a8 l i).1<=p) (h2:∀i,k<=i->i<l.length->p<(a8 l i).1) (hk:0<k):∀d,k+d<=l.length->nO l p (k+d)=(a8 l (k-1)).2.1
 |0,_=>by
  obtain⟨j,rfl⟩:∃j,k=j+1:=⟨k-1,ade⟩;show(if(a8 l j).1<=p then(a8 l j).2.1 else nO l p j)=_;rw[adp (h1 j ade)];rfl
 |d+1,hd=>by
  show(if(a8 l (k+d)).1<=p then(a8 l (k+d)).2.1 else nO l p (k+d))=_;rw[adq (by have:=h2 (k+d) ade ade;omega)];exact HZ h1 h2 hk d ade
theorem half {a b:Nat} (h:a+b<9223372036854775808):dH 3 (iV (bF 7 (ab 3 (a:Int) (b:Int))) 1)=(((a+b)/2:Nat):Int):=by
 rw[c8 ade ade,T.E1,T.ke,lV];have e:(((a:Int)+(b:Int)) %18446744073709551616).toNat/2^1=(a+b)/2:=ade;rw[e,Ke ade ade]
theorem N1 {l:List dh} {n p:Int} (h:nC l) (h0:yg l n=0) (hp:0<=p/\p<n):ZX l n p=some (nO l p l.length,0)/\Yg l p=some (nO l p l.length):=by
 refine⟨?_,ZK h.1⟩;have hf:jc l n=true/\l.length<=200:=by
  unfold yg at h0;split at h0
  ·cases h0
  ·split at h0
   ·rename_i hf;have:=(vP hf).1;exact⟨hf,ade⟩
   ·cases h0
 obtain⟨g1,g2,g3,g4,g5⟩:=vP hf.1;have hl:=hf.2;unfold ZX;rw[Ab h,h0,a9]
 obtain⟨e,⟨k,rfl,k1,k2,k3⟩,he⟩:=oe (ρ:=Nat×Int) (Q:=Int) (s:=((0:Int),(l.length:Int))) (λs=>∃a b:Nat,s=((a:Int),(b:Int))/\a<=b/\b<=l.length/\(∀i,i<a->(a8 l i).1<=p)/\∀i,b<=i->i<l.length->p<(a8 l i).1)
  (λe=>∃k:Nat,e=(k:Int)/\k<=l.length/\(∀i,i<k->(a8 l i).1<=p)/\∀i,k<=i->i<l.length->p<(a8 l i).1) (λs=>(s.2-s.1).toNat) ⟨0,l.length,rfl,ade,ade,λi hi=>absurd hi ade,λi h1 h2=>absurd h1 ade⟩ (by show((l.length:Int)-0).toNat<_;omega) (f:=λv2=>(af (aO v2.1 v2.2) (λ_=>(ai l.length (dH 3 (iV (bF 7 (ab 3 v2.1 v2.2)) 1)) (λv3=>(af (an (aO p (a8 l v3).1)) (λ_=>(bh ((ab 3 (dH 3 (iV (bF 7 (ab 3 v2.1 v2.2)) 1)) 1),v2.2))) λ_=>(bh (v2.1,(dH 3 (iV (bF 7 (ab 3 v2.1 v2.2)) 1)))))))) λ_=>(lex v2.1)))
  (kx:=λv2=>(ai l.length (bq 3 v2 1) (λv3=>(some ((a8 l v3).2.1,0))))) (kr:=λv2=>none) (by
    rintro s ⟨a,b,rfl,h1,h2,h3,h4⟩
    by_cases Yk:a<b
    ·have hm:(a+b)/2<l.length:=by omega
     have a1:ab 3 (((a+b)/2:Nat):Int) 1=(((a+b)/2+1:Nat):Int):=by rw[c8 ade ade];rfl
     refine .inl ?_;simp only[half (a:=a) (b:=b) ade,a1]
     by_cases hc:p<(a8 l ((a+b)/2)).1
     ·refine⟨((a:Int),(((a+b)/2:Nat):Int)),?_,⟨a,(a+b)/2,rfl,ade,ade,h3,λi i1 i2=> ?_⟩,by show((((a+b)/2:Nat):Int)-(a:Int)).toNat<((b:Int)-(a:Int)).toNat;omega⟩
      ·simp only[ao,aE,aN,aG,aW,aZ,ax,bc,aA,bg,a9,au,join_some,join_none,ak,aI,aF,ay,aS,adk,adn,adj,bh,lex];grind
      ·have:=ve g4 (i-(a+b)/2) ((a+b)/2) ade;rw[show(a+b)/2+(i-(a+b)/2)=i by omega] at this;omega
     ·refine⟨((((a+b)/2+1:Nat):Int),(b:Int)),?_,⟨(a+b)/2+1,b,rfl,ade,ade,λi i1=> ?_,h4⟩,by show((b:Int)-(((a+b)/2+1:Nat):Int)).toNat<((b:Int)-(a:Int)).toNat;omega⟩
      ·simp only[ao,aE,aN,aG,aW,aZ,ax,bc,aA,bg,a9,au,join_some,join_none,ak,aI,aF,ay,aS,adk,adn,adj,bh,lex];grind
      ·have:=ve g4 ((a+b)/2-i) i ade;rw[show i+((a+b)/2-i)=(a+b)/2 by omega] at this;omega
    ·refine .inr ⟨(a:Int),?_,a,rfl,ade,h3,λi i1 i2=>h4 i ade i2⟩;simp only[ao,aE,aN,aG,aW,aZ,ax,bc,aA,bg,a9,au,join_some,join_none,ak,aI,aF,ay,aS,adk,adn,adj,bh,lex];grind)
 have k0:0<k:=by
  rcases Nat.eq_zero_or_pos k with hk|hk
  ·subst hk;have:=k3 0 ade g2;omega
  ·exact hk
 have v:=HZ k2 k3 k0 (l.length-k) ade;rw[show k+(l.length-k)=l.length by omega] at v;have s1:bq 3 (k:Int) 1=((k-1:Nat):Int):=by rw[cD ade ade];omega
 rw[v];rw[he];have kl:k-1<l.length:=ade;simp only[ao,aE,aN,aG,aW,aZ,ax,bc,aA,bg,a9,au,join_some,join_none,ak,aI,aF,ay,aS,adk,adn,adj,s1,kl,adA];grind
end Go.Proofs.YtbjcjppphoppfaaGreat.M
