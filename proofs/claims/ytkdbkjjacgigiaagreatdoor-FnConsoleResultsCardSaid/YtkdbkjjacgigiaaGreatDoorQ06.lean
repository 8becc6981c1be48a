/- Lemmas for CardConsoleResults. No condition. -/
import Derived.Test.YtkdbkjjacgigiaaGreatDoorQ05
set_option maxRecDepth 100000
set_option maxHeartbeats 64000000
namespace Go.Proofs.YtkdbkjjacgigiaaGreatDoor
section
open Go.RowKit Go.G5 Go.Proofs.Tryz
end
end Go.Proofs.YtkdbkjjacgigiaaGreatDoor
section
namespace Go.G5
open Go Go.RowKit
structure SliceElem (P:Program) (E:TypeId):Prop where
 info:(P.info? E).map (fun i=>(i.zero,i.size,i.bytes))=some (some (aA none 0 0),1,24)
theorem SliceElem.get{P:Program}{E:TypeId}(h:SliceElem P E):∃i,P.info? E=some i/\i.zero=some (aA none 0 0)/\i.size=1/\i.bytes=24:=by
 exact W6
theorem DE{w:World}{B B':Nat}{E F:TypeId}{s Y n S:Nat}{u v:Value}{Z ys:List Value}(h:w.ownsRow B E s u n Z)(O:w.ownsRow B' F Y v S ys)(D:E≠F):∀k,v.ownBlock=some k->u.ownBlock≠some k:=by
 intro k hk K;rcases h.2 with⟨rfl,_⟩|⟨g,cap,M,rfl,_,R,_⟩
 ·simp[Value.ownBlock]at K
 ·rcases O.2 with⟨rfl,_⟩|⟨N,I,J,rfl,_,z,_⟩
  ·simp[Value.ownBlock]at hk
  ·have e1:g=k:=by simpa[Value.ownBlock]using K
   have e2:N=k:=by simpa[Value.ownBlock]using hk
   subst e1;subst e2;rw[R]at z;injection z with z;injection z with _ ht;exact D ht
def cV(EI EO:TypeId)(B:Nat)(w:World)(v:Value)(z:List (List Int)):Prop:=
 ∃D:List Value,w.ownsRow B EO 1 v z.length D/\∀(k:Nat) (u:Value),D[k]?=some u->∃l,z[k]?=some l/\aM EI B w u l
theorem cV.len{EI EO:TypeId}{B:Nat}{w:World}{v:Value}{z:List (List Int)}(h:cV EI EO B w v z):∃a c,v=aA a z.length c/\z.length<=maxLen:=by
 obtain⟨J,h1,_⟩:=h;rcases h1.2 with⟨rfl,D⟩|⟨g,cap,F,rfl,hB,I,D,hm,_⟩
 ·exact⟨none,0,by rw[D],by omega⟩
 ·exact⟨_,cap,rfl,by omega⟩
theorem cV.shape3{EI EO:TypeId}{B:Nat}{w:World}{v:Value}{z:List (List Int)}(h:cV EI EO B w v z):∃a n c,v=aA a n c:=by
 obtain⟨a,c,h,_⟩:=h.len;exact⟨a,_,c,h⟩
theorem cV.nil(EI EO:TypeId)(B:Nat)(w:World):cV EI EO B w (aA none 0 0) []:=⟨[],World.ownsRow_nil _ _ _ _,by simp⟩
theorem cV.single{EI EO:TypeId}{B:Nat}(w:World)(hB:B<=w.heap.size):cV EI EO B (w.alloc (.cells #[()] EO)) (aA (some ⟨w,0,none⟩) 1 1) [[]]:=by
 refine⟨[aA none 0 0],World.ownsRow_lit w #[()] 1 hB aQ rfl,?_⟩;intro k u z
 cases k with
 |zero=>simp only[List.getElem?_cons_zero,Option.some.injEq]at z;subst z;exact⟨[],rfl,aM.nil _ _ _⟩
 |succ k=>simp at z
theorem cV.keep{EI EO:TypeId}{B:Nat}{w w':World}{v:Value}{I:List (List Int)}(h:cV EI EO B w v I)(hb:Below w w w'):cV EI EO B w' v I:=by
 obtain⟨M,⟨J,h1⟩,h2⟩:=h;refine⟨M,⟨J,?_⟩,fun k u K=>?_⟩
 ·rcases h1 with h1|⟨g,cap,z,rfl,D,F,r⟩
  ·exact .inl h1
  ·exact .inr ⟨g,cap,z,rfl,D,by rw[hb.block g (Array.getElem?_eq_some_iff.1 F).1];exact F,r⟩
 ·obtain⟨l,h3,h4⟩:=h2 k u K;exact⟨l,h3,h4.keep hb⟩
theorem cV.mono{EI EO:TypeId}{B B':Nat}{w:World}{v:Value}{D:List (List Int)}(h:cV EI EO B w v D)(hB:B'<=B):cV EI EO B' w v D:=by
 obtain⟨K,⟨F,h1⟩,h2⟩:=h;refine⟨K,⟨F,?_⟩,fun k u J=>?_⟩
 ·rcases h1 with h1|⟨g,cap,z,rfl,I,r⟩
  ·exact .inl h1
  ·exact .inr ⟨g,cap,z,rfl,by omega,r⟩
 ·obtain⟨l,h3,h4⟩:=h2 k u J;exact⟨l,h3,h4.mono hB⟩
theorem cV.lt{EI EO:TypeId}{B:Nat}{w:World}{v:Value}{z:List (List Int)}(h:cV EI EO B w v z):∀k,v.ownBlock=some k->B<=k/\k<w.heap.size:=by
 obtain⟨D,h1,_⟩:=h;exact h1.lt
theorem cV.grow{EI EO:TypeId}{B B' n:Nat}{w w':World}{v z:Value}{J:List (List Int)}{R:List Value}(h:cV EI EO B w v J)(K:w.ownsRow B' EO 1 z n R)(M:EI≠EO)(F:w.grownBy w' z.ownBlock)(D:∀k,z.ownBlock=some k->v.ownBlock≠some k):cV EI EO B w' v J:=by
 obtain⟨O,h1,h2⟩:=h;refine⟨O,h1.kept F ?_,fun k u I=>?_⟩
 ·cases N:z.ownBlock with
  |none=>
   cases I:v.ownBlock with
   |none=>exact .inl rfl
   |some q=>exact .inr (by simp)
  |some q=>right;intro e;exact D q N e
 ·obtain⟨l,h3,h4⟩:=h2 k u I;exact⟨l,h3,h4.grow F (DE h4.1 K M)⟩
theorem cV.growLow{EI EO:TypeId}{B g:Nat}{w w':World}{v:Value}{F:List (List Int)}(h:cV EI EO B w v F)(D:w.grownBy w' (some g))(hB:g<B):cV EI EO B w' v F:=by
 obtain⟨K,h1,h2⟩:=h;refine⟨K,h1.kept D ?_,fun k u J=>?_⟩
 ·right;intro e;have:=(h1.lt g e).1;omega
 ·obtain⟨l,h3,h4⟩:=h2 k u J;exact⟨l,h3,h4.grow D (fun q I z=>by cases I;have:=(h4.lt _ z).1;omega)⟩
theorem cV.row{EI EO:TypeId}{B:Nat}{w:World}{v:Value}{z:List (List Int)}(h:cV EI EO B w v z):∃D,w.ownsRow B EO 1 v z.length D:=⟨h.choose,h.choose_spec.1⟩
theorem aM.growL{EI EO:TypeId}{B B' n:Nat}{w w':World}{u z:Value}{l:List Int}{J:List Value}(h:aM EI B w u l)(D:w.ownsRow B' EO 1 z n J)(F:EI≠EO)(I:w.grownBy w' z.ownBlock):aM EI B w' u l:=h.grow I (DE h.1 D F)
theorem cV.view{EI EO:TypeId}{B:Nat}{w:World}{a:Option Addr}{n c:Nat}{z:List (List Int)}(h:cV EI EO B w (aA a n c) z)(P:Program)(T:TypeId)(N:P.underlying T=some (.slice EO))(Z:SliceElem P EO)(k:Nat)(hk:k<z.length):
  ∃g u,(∀(w':World),(Instr.indexAt T (aA a n c) (aG (k:Int))).run P w'=.ok (.pointer (some ⟨g,k,none⟩)) w')/\w.cell? ⟨g,k,none⟩=some u/\aM EI B w u z[k]:=by
 obtain⟨F,h1,h2⟩:=h;have M:P.elem T=EO:=by simp[Program.elem,N]
 obtain⟨i,Y,_,J,_⟩:=Z.get;have hl:=h1.1;rcases h1.2 with⟨e,O⟩|⟨g,cap,I,e,hB,S,O,hm,K,ht⟩
 ·omega
 ·simp only[Value.slice.injEq]at e;obtain⟨rfl,rfl,rfl⟩:=e;have R:k<F.length:=aD;obtain⟨l,h3,h4⟩:=h2 k F[k] (List.getElem?_eq_getElem R);rw[List.getElem?_eq_getElem hk]at h3
  cases h3
  refine⟨g,F[k],fun w'=>?_,?_,h4⟩
  ·rw[run_indexAt_slice w' T ⟨g,0,none⟩ z.length c .i64 k (by rw[M];exact N),if_pos ⟨by omega,by omega⟩,M];simp[sizeOf,typeInfo,Y,J,Addr.add];exact fun h=>h.symm
  ·have D:w.ownsRow B EO 1 (aA (some ⟨g,0,none⟩) z.length c) z.length F:=⟨h1.1,.inr ⟨g,c,I,rfl,hB,S,O,hm,K,ht⟩⟩;rw[D.cellAt k aD];exact List.getElem?_eq_getElem R
theorem xF{P:Program}{w:World}{ops:Array Oper}{rest:List Oper}{o:Oper}{a:Act}{Q:Exit->Act->World->Prop}(Y:o.guard=none)(s x:Operand)(t:TypeId)
  (ho:o.op=.call { callee:=.builtin .append,args:=#[s,x],argTypes:=#[t,t] })
  (EI EO:TypeId) (J:EI≠EO) (ht:P.underlying t=some (.slice EO)) (hE:SliceElem P EO) (B:Nat) (v:Value) (N:List (List Int)) (u:Value) (l:List Int) (b:Nat) (hs:a.eval s=v) (hx:a.eval x=aA (some ⟨b,0,none⟩) 1 1)
  (hy:w.cell? ⟨b,0,none⟩=some u) (M:cV EI EO B w v N) (hu:aM EI B w u l) (a8:N.length<5497558138879) (hB:B<=w.heap.size)
  (h:∀R w',cV EI EO B w' R (N++[l])->w.grownBy w' v.ownBlock->wpList P ops Q rest (a.put o.dst R) w'):wpList P ops Q (o::rest) a w:=by
 obtain⟨i,hi,hz,h1,h8⟩:=hE.get;obtain⟨O,D,a6⟩:=M;have K:u.oneCell'=true:=by
  obtain⟨a',n',c',rfl⟩:=hu.shape3
  rfl
 refine wpList_append_own w Y s x t ho B EO i (aA none 0 0) 1 24 ht hi hz h1 h8 rfl aQ v N.length O hs D ⟨b,0,none⟩ 1 1 [u] hx rfl ?_ ?_ ?_ ?_ hB ?_
 ·intro j q I
  match j,I with
  |0,I=>simp at I;subst I;simpa[Addr.add]using hy
  |j+1,I=>simp at I
 ·intro q z;simp at z;subst z;exact K
 ·unfold maxLen;omega
 ·omega
 ·intro R w' F S _;refine h R w' ⟨O++[u],by simpa using F,fun k q z=>?_⟩ S;have hl:=D.1;by_cases hk:k<O.length
  ·rw[List.getElem?_append_left hk]at z;obtain⟨l',h3,h4⟩:=a6 k q z;exact⟨l',by rw[List.getElem?_append_left aD];exact h3,h4.grow S (DE h4.1 D J)⟩
  ·rw[List.getElem?_append_right aD]at z
   have Z:k-O.length=0:=by
    cases a1:k-O.length with
    |zero=>rfl
    |succ m=>rw[a1]at z;simp at z
   rw[Z]at z;simp only[List.getElem?_cons_zero,Option.some.injEq]at z;subst z;refine⟨l,?_,hu.grow S (DE hu.1 D J)⟩;rw[List.getElem?_append_right aD,show k-N.length=0 by omega];rfl
end Go.G5
namespace Go.Proofs.YtkdbkjjacgigiaaGreatDoor
open Go.RowKit Go.G5 Go.Proofs.Tryz
theorem lY:SliceElem prog 25:=⟨by kernel_rfl⟩
theorem yD:(3:TypeId)≠25:=by decide
end Go.Proofs.YtkdbkjjacgigiaaGreatDoor
end
namespace Go.Proofs.YtkdbkjjacgigiaaGreatDoor
section
open Go.RowKit Go.G5 Go.Proofs.Tryz
theorem Z9{w:World}{a:Addr}{v:Value}(h:w.cell? a=some v):a.block<w.heap.size:=World.block_lt_of_cell? w a h
theorem aaP(l:List Int)(v:Value)(s:Int)(w:World)(R:aK w v l):
  Calls prog 358 #[v,s] w fun e w'=>(∃i:Int,e=.returned i/\(0<=i↔gQ l s=true)/\-1<=i/\i<=9223372036854775807)/\w=w':=by
 obtain⟨a,b,S,c,rfl,K,N,hc,hb⟩:=R.view prog 25 3 underlying25 aN;go_enter func358,ntmps358;go_wp2;go_loop [8] (fun i=>∃k:Nat,k<=l.length/\i=aG k/\∀j,(I:j<l.length)->j<k->l[j]≠s) (fun i=>l.length-(intOf i).toNat)
 case atStart=>exact⟨0,Nat.zero_le _,rfl,fun j _ h=>by omega⟩
 case round=>
  obtain⟨k,hk,rfl,z⟩:=hrel;have H:=aH z;clear z;by_cases hlt:k<l.length
  ·have M:=hc k hlt;by_cases D:s=l[k]
   ·have ht:(s==l[k])=true:=by simp[D]
    have F:gQ l s=true:=by rw[D];exact WB l k hlt
    have J:=aH F;clear D F;go_wp2;go_ret;exact⟨⟨k,rfl,by rw[J.out];simp,by omega,by omega⟩,rfl⟩
   ·have ht:(s==l[k])=false:=by simp[D]
    go_wp2;go_round
    case rel=>
     refine⟨k+1,by omega,by go_num,fun j I O=>?_⟩;by_cases h:j<k
     ·exact H.out j I h
     ·have:j=k:=aD;subst this;exact fun h=>D h.symm
    case measure=>simp[intOf];omega
  ·have F:gQ l s=false:=BR fun j I=>H.out j I aD;have J:=aH F;clear F;go_wp2;go_ret;exact⟨⟨-1,rfl,by rw[J.out];simp,by omega,by omega⟩,rfl⟩
theorem xB(l:List Int)(v:Value)(s:Int)(w:World)(I:aK w v l):
  Calls prog 318 #[v,s] w fun e w'=>e=.returned (.bool (gQ l s))/\w=w':=by
 obtain⟨a,c,rfl⟩:=I.shape;go_enter func318,ntmps318;go_wp2_with (go_at_call 358;refine(aaP l _ s _ I).mono ?_;rintro e w' ⟨⟨i,rfl,F,J,K⟩,rfl⟩;have D:=aH F;clear F);go_ret;refine⟨aW ?_,rfl⟩
 cases z:gQ l s with
 |true=>have:=D.out.2 z;simpa using this
 |false=>
  have h:¬0<=i:=fun h=>by rw[D.out.1 h]at z;cases z
  simpa using h
def bX(s e:Nat):Nat:=s ||| 2^e
def gM(l:List Int)(s e:Nat):Int:=l.getD (bX s e) 0-l.getD s 0
theorem fQ(s e:Nat)(F:s<4611686018427387904)(z:e<6):bits .or .i64 (s:Int) (2^e)=((bX s e:Nat):Int):=by
 have D:=Nat.pow_lt_pow_right (show 1<2 by decide) z;have:=M8 s (2^e) aD (by simp at D;omega);unfold bX;rw[<-this];push_cast;rfl
theorem eI(s e n:Nat)(D:s<2^n)(z:e<n):bX s e<2^n:=Nat.or_lt_two_pow D (Nat.pow_lt_pow_right aQ z)
theorem EM(n:Int)(l:List Int)(v:Value)(s e:Nat)(w:World)(hv:aK w v l)(hl:l.length<=64)(M:s<l.length)(he:e<6)(D:bX s e<l.length)(J:∀k,(hk:k<l.length)->-1000<=l[k]/\l[k]<=1000):
  Calls prog 266 #[.agg #[n,v],(s:Int),(e:Int)] w fun e' w'=>e'=.returned (gM l s e)/\Below w w w':=by
 obtain⟨a,b,b6,c,rfl,Y,I,hc,hb⟩:=hv.view prog 25 3 underlying25 aN;have F:=aR hc hb (bF w (.cells #[n,aA a l.length c] 27)) aI;have h1:=J s M;have h2:=J _ D;have N:gM l s e=l[bX s e]-l[s]:=by unfold gM;rw[List.getD_eq_getElem?_getD,List.getD_eq_getElem?_getD,List.getElem?_eq_getElem M,List.getElem?_eq_getElem D];rfl
 have S:=fQ s e aD he;have K:=F _ D;have O:=F s M;have R:=fun w'=>I w' _ D;have b1:=fun w'=>I w' s M;have z:=cJ e 6 aD;have b3:(2:Int)^e<=64:=by simpa using z.1
 have b4:=z.2;have b0:(0:Int)<=(e:Int):=Int.natCast_nonneg _;obtain⟨x,hx⟩:=aJ (l[bX s e]);obtain⟨y,hy⟩:=aJ (l[s]);obtain⟨q,Z⟩:=aJ (bX s e);rw[<-hx]at N h2 K;rw[<-hy]at N h1 O;rw[<-Z]at S R K;have hw:IntKind.i64.wrap (x-y)=x-y:=by rw[IntKind.wrap_i64];omega
 have HG:=aH N;clear N J hc hb F I hx hy Z z D M;go_enter func266,ntmps266;go_wp2;go_quiet (fail);go_wp2;go_ret;exact⟨fL (by rw[HG.out]),(bF _ _).drewN' _⟩
def sA(o:List Int):Nat->Nat
 |0=>0
 |k+1=>bX (sA o k) (o.getD k 0).toNat
def jB(l o:List Int):Nat->List Int
 |0=>List.replicate o.length 0
 |k+1=>(jB l o k).set (o.getD k 0).toNat (gM l (sA o k) (o.getD k 0).toNat)
def tA(l o:List Int):List Int:=jB l o o.length
theorem AD(l o:List Int)(k:Nat):(jB l o k).length=o.length:=by
 induction k with
 |zero=>simp[jB]
 |succ k ih=>simp[jB,ih]
theorem YA(o:List Int)(n k:Nat)(h:∀x∈o,0<=x/\x<n)(hk:k<=o.length):sA o k<2^n:=by
 induction k with
 |zero=>exact Nat.two_pow_pos n
 |succ k ih=>have hm:=h _ (List.getElem_mem (show k<o.length by omega));rw[sA,List.getD_eq_getElem?_getD,List.getElem?_eq_getElem (show k<o.length by omega),Option.getD_some];exact eI _ _ _ (ih aD) aD
theorem L0(l:List Int)(s e:Nat)(F:s<l.length)(D:bX s e<l.length)(z:∀k,(hk:k<l.length)->-1000<=l[k]/\l[k]<=1000):-2000<=gM l s e/\gM l s e<=2000:=by
 have h1:=z s F;have h2:=z _ D;unfold gM;rw[List.getD_eq_getElem?_getD,List.getD_eq_getElem?_getD,List.getElem?_eq_getElem F,List.getElem?_eq_getElem D,Option.getD_some,Option.getD_some];omega
theorem acM(g:Int)(l o:List Int)(v u:Value)(w:World)(hv:aK w v l)(hu:aK w u o)(hn:o.length<=5)(hl:l.length=2^o.length)(Y:∀k,(hk:k<l.length)->-1000<=l[k]/\l[k]<=1000)(ho:∀x∈o,0<=x/\x<o.length):
  Calls prog 264 #[.agg #[g,v],u] w fun e w'=>∃ad i c,e=.returned (aA ad i c)/\aM 3 w w' (aA ad i c) (tA l o)/\Below w w w':=by
 obtain⟨av,cv,rfl⟩:=hv.shape;obtain⟨a,b,g6,c,rfl,e8,f7,hc,hb⟩:=hu.view prog 25 3 underlying25 aN;have e7:l.length<=32:=by rw[hl];exact Nat.pow_le_pow_right aQ hn
 have X0:=Box2.new w g (aA av l.length cv) 27;have HL:=aH hl;have S:=aH Y;have HO:=aH ho;clear hl Y ho;go_enter func264,ntmps264;go_wp2_with (at_make;refine kZ rfl _ _ _ rfl 3 underlying25 aN o.length _ _ rfl rfl rfl rfl aD ?_;intro w2 J hg);have X2:=X0.grow hg (by simp);simp at J;clear X0 hg;go_loopw [6,14] (fun s i wr=>∃k:Nat,k<=o.length/\i=aG k/\s=aG (sA o k)/\aM 3 (w.heap.size+1) wr (aA (some ⟨w.heap.size+1,0,none⟩) o.length o.length) (jB l o k)/\Box2 w wr g (aA av l.length cv))
  (fun _ i _=>o.length-(intOf i).toNat)
 case atStart=>exact⟨0,Nat.zero_le _,rfl,rfl,J,X2⟩
 case round=>
  obtain⟨k,hk,rfl,rfl,ow,X⟩:=hrel;clear J X2;have HW:=aH ow;clear ow;obtain⟨d0,d1,B1,z1⟩:=X;by_cases hlt:k<o.length
  ·have b3:=aR hc hb B1 aI k hlt;have hm:=HO.out _ (List.getElem_mem hlt);obtain⟨e,he⟩:∃e:Nat,o[k]=(e:Int):=⟨o[k].toNat,by omega⟩;rw[he]at b3;have b5:e<o.length:=aD;have N:(o.getD k 0).toNat=e:=by rw[List.getD_eq_getElem?_getD,List.getElem?_eq_getElem hlt,Option.getD_some,he];omega
   have F:=YA o o.length k HO.out hk;rw[<-HL.out]at F;have R:bX (sA o k) e<l.length:=by rw[HL.out]at F ⊢;exact eI _ _ _ F b5
   have O:sA o (k+1)=bX (sA o k) e:=by rw[sA,N]
   have I:jB l o (k+1)=(jB l o k).set e (gM l (sA o k) e):=by rw[jB,N]
   have b7:=L0 l (sA o k) e F R S.out;obtain⟨p,hp⟩:=aJ (sA o k);rw[<-hp]at F R O I b7 ⊢;have f9:=fQ p e aD aD;have K:=cJ e 6 aD;have g0:(2:Int)^e<=64:=by simpa using K.1
   have g2:=K.2;have b9:=hv.below B1 aI;have a9:=aH O;have a8:=aH I;have D:o.length=(jB l o k).length:=(AD l o k).symm;have z:∃q,wr.cell? ⟨w.heap.size+1,e,none⟩=some q:=⟨_,HW.out.cellAt D e aD⟩;obtain⟨q,z⟩:=z;have b6:=HW.out.frozenAt D e;have b1:w.heap.size+1<wr.heap.size:=Z9 z;have f6:(0:Int)<=(e:Int):=Int.natCast_nonneg _;have e4:(e:Int)<(o.length:Int):=aD;clear hp he N O I hm D K;go_wp2_with (go_at_call 266;refine(EM g l _ p e _ b9 aD F aD R S.out).mono ?_;rintro e' w3 ⟨rfl,M⟩;have a7:=keep M z;have e5:w3.frozen? ⟨w.heap.size+1,e,none⟩=false:=(M.frozen (p:=⟨w.heap.size+1,e,none⟩) b1).trans b6);have Z:=(HW.out.keep M).stored (AD l o k).symm e (gM l p e) ⟨by omega,by omega⟩;have X3:=((Box2.mk d0 d1 B1 z1).after M).grow Z.2 (by simp);have b0:=aH Z.1;go_roundw
   case rel=>exact⟨k+1,by omega,by go_num,by rw[a9.out],by rw[a8.out];exact b0.out,X3⟩
   case measure=>simp[intOf];omega
  ·have b8:k=o.length:=aD;subst b8;go_wp2;go_ret;exact⟨_,_,_,rfl,HW.out.mono aD,B1⟩
theorem ac8(n e:Int)(w:World):
  Calls prog 218 #[n,e] w fun D w'=>D=.returned (.bool (decide (0<=e)&&decide (e<n)))/\w=w':=by
 by_cases z:0<=e
 ·have t:=decide_eq_true z;go_enter func218,ntmps218;go_wp2;go_ret;exact⟨aW (by first|rfl|(rw[t];rfl)),rfl⟩
 ·have t:=decide_eq_false z;go_enter func218,ntmps218;go_wp2;go_ret;exact⟨aW (by first|rfl|(rw[t];rfl)),rfl⟩
def fI(left:Int)(b s:Int):Int:=if cT (bB b left)<cT (bB s left) then s else b
def fD(l:List Int)(left:Int):Int:=l.foldl (fI left) 0
def dJ(l:List Int):Nat->Int->Option (List Int)
 |0,left=>if left=0 then some [] else none
 |n+1,left=>if left=0 then some [] else if bB (fD l left) left=0 then none else (dJ l n (cG left (fD l left))).map (fD l left::·)
def gD(g:Int)(l:List Int):Option (List Int):=if aU g l then dJ l 64 (2^g.toNat-1) else none
def dD(g:Int)(l:List Int):List Int:=(gD g l).getD []
def eV(g:Int)(l:List Int):Bool:=(gD g l).isSome
theorem DP(left:Int)(l:List Int):∀z,l.foldl (fI left) z=z∨l.foldl (fI left) z∈l:=by
 induction l with
 |nil=>intro z;exact .inl rfl
 |cons a l ih=>
  intro z;simp only[List.foldl_cons];rcases ih (fI left z a) with h|h
  ·rw[h];unfold fI;split
   ·right;simp
   ·left;rfl
  ·right;simp[h]
theorem akD(left:Int)(l:List Int):∀z,cT (bB z left)<=cT (bB (l.foldl (fI left) z) left)/\∀s∈l,cT (bB s left)<=cT (bB (l.foldl (fI left) z) left):=by
 induction l with
 |nil=>intro z;exact⟨Int.le_refl _,by simp⟩
 |cons a l ih=>
  intro z;simp only[List.foldl_cons];obtain⟨h1,h2⟩:=ih (fI left z a);have h3:cT (bB z left)<=cT (bB (fI left z a) left)/\cT (bB a left)<=cT (bB (fI left z a) left):=by unfold fI;split<;>omega
  refine⟨by omega,fun s D=>?_⟩;rcases List.mem_cons.1 D with rfl|D
  ·omega
  ·exact h2 s D
theorem JL(l:List Int)(left:Int)(h:∀s∈l,0<=s/\s<64):0<=fD l left/\fD l left<64:=by
 rcases DP left l 0 with h1|h1
 ·unfold fD;rw[h1];omega
 ·exact h _ h1
theorem ao5:∀n,n<64->0<n->0<bY n:=by decide +kernel
theorem af8{a:Int}(D:0<=a)(h1:a<64)(h:cT a<=0):a=0:=by
 by_cases z:a=0
 ·exact z
 ·have:=ao5 a.toNat aD aD;unfold cT at h;omega
theorem aj2(c:Nat)(l:List Int)(h:∀s∈l,s.toNat &&& c=0):∀z:Int,z.toNat &&& c=0->(l.foldl eH z).toNat &&& c=0:=by
 induction l with
 |nil=>intro z D;exact D
 |cons a l ih=>intro z D;simp only[List.foldl_cons];refine ih (fun s I=>h s (by simp[I])) _ ?_;have F:=h a (by simp);unfold eH;rw[Int.toNat_natCast,Nat.and_or_distrib_right,D,F];rfl
theorem aeH(g:Nat)(l:List Int)(z:Int)(R:0<z)(h1:z<2^g)(O:cX l=2^g-1):∃s∈l,bB s z≠0:=by
 refine Classical.byContradiction fun I=>?_;have D:∀s∈l,s.toNat &&& z.toNat=0:=fun s N=>by refine Classical.byContradiction fun M=>I ⟨s,N,?_⟩;unfold bB;omega
 have K:=aj2 z.toNat l D 0 (by simp);have J:(l.foldl eH 0)=2^g-1:=O;have F:((2:Int)^g-1).toNat=2^g-1:=by
  have:((2:Int)^g)=((2^g:Nat):Int):=by push_cast;rfl
  rw[this];omega
 rw[J,F,Nat.and_comm,Nat.and_two_pow_sub_one_eq_mod]at K;have hlt:z.toNat<2^g:=by
  have:((2:Int)^g)=((2^g:Nat):Int):=by push_cast;rfl
  omega
 rw[Nat.mod_eq_of_lt hlt]at K;omega
theorem acC(g:Nat)(l:List Int)(z:Int)(hl:∀s∈l,0<=s/\s<64)(K:0<z)(h1:z<2^g)(M:cX l=2^g-1):bB (fD l z) z≠0:=by
 obtain⟨s,J,I⟩:=aeH g l z K h1 M;have hm:=(akD z l 0).2 s J;intro N;have hb:cT (bB (fD l z) z)=0:=by rw[N];decide
 have F:=hl s J;have D:=kE s z 64 F.1 F.2;exact I (af8 D.1 D.2 (by unfold fD at hb;omega))
theorem abB{a b:Int}(D:0<=a)(z:bB b a≠0):cG a b<a:=by
 unfold bB at z;unfold cG cO;have hc:a.toNat &&& b.toNat=b.toNat &&& a.toNat:=Nat.and_comm _ _;have:=@Nat.and_le_left a.toNat b.toNat;omega
theorem XP:∀a,a<64->∀b,b<64->cO a b ||| b=a ||| b:=by decide +kernel
theorem TA(l:List Int)(h:∀s∈l,0<=s):∀(z:Int),(∀s∈l,s.toNat ||| (l.foldl eH z).toNat=(l.foldl eH z).toNat)/\z.toNat ||| (l.foldl eH z).toNat=(l.foldl eH z).toNat:=by
 induction l with
 |nil=>intro z;exact⟨by simp,by simp⟩
 |cons a l ih=>
  intro z;simp only[List.foldl_cons];obtain⟨h1,h2⟩:=ih (fun s D=>h s (by simp[D])) (eH z a)
  generalize (l.foldl eH (eH z a)).toNat=U at *
  have F:(eH z a).toNat=z.toNat ||| a.toNat:=by unfold eH;rw[Int.toNat_natCast]
  rw[F]at h2;refine⟨fun s D=>?_,?_⟩
  ·rcases List.mem_cons.1 D with rfl|D
   ·calc s.toNat ||| U=s.toNat ||| (z.toNat ||| s.toNat ||| U):=by rw[h2]
     _=z.toNat ||| s.toNat ||| U:=by rw[<-Nat.or_assoc,<-Nat.or_assoc,Nat.or_comm s.toNat z.toNat,Nat.or_assoc z.toNat,Nat.or_self]
     _=U:=h2
   ·exact h1 s D
  ·calc z.toNat ||| U=z.toNat ||| (z.toNat ||| a.toNat ||| U):=by rw[h2]
    _=z.toNat ||| a.toNat ||| U:=by rw[<-Nat.or_assoc,<-Nat.or_assoc,Nat.or_self]
    _=U:=h2
theorem af4(l:List Int)(hl:∀s∈l,0<=s/\s<64):∀n (z:Int) L,0<=z->z<64->dJ l n z=some L->z.toNat ||| (cX l).toNat=(cX l).toNat:=by
 intro n
 induction n with
 |zero=>
  intro z L K h1 h;simp only[dJ]at h
  split at h
  ·rename_i J;subst J;simp
  ·cases h
 |succ n ih=>
  intro z L K h1 h;simp only[dJ]at h
  split at h
  ·rename_i J;subst J;simp
  ·split at h
   ·cases h
   ·rename_i I
    cases hr:dJ l n (cG z (fD l z)) with
    |none=>rw[hr]at h;cases h
    |some L'=>
     have hb:=JL l z hl;have hd:=mY z (fD l z) 64 K h1;have M:=ih _ _ hd.1 hd.2 hr;have F:fD l z∈l:=by
      rcases DP z l 0 with h1|h1
      ·exfalso
       apply I
       have:fD l z=0:=h1;rw[this];unfold bB;simp
      ·exact h1
     have D:=(TA l (fun s R=>(hl s R).1) 0).1 _ F;have O:=XP z.toNat aD (fD l z).toNat aD;have e:(cG z (fD l z)).toNat=cO z.toNat (fD l z).toNat:=by unfold cG;rw[Int.toNat_natCast]
     rw[e]at M;have N:(cX l).toNat=(l.foldl eH 0).toNat:=rfl;rw[<-N]at D
     generalize (cX l).toNat=U at *
     calc z.toNat ||| U=z.toNat ||| ((fD l z).toNat ||| U):=by rw[D]
      _=(z.toNat ||| (fD l z).toNat) ||| U:=by rw[Nat.or_assoc]
      _=(cO z.toNat (fD l z).toNat ||| (fD l z).toNat) ||| U:=by rw[O]
      _=cO z.toNat (fD l z).toNat ||| ((fD l z).toNat ||| U):=by rw[Nat.or_assoc]
      _=U:=by rw[D,M]
theorem aiA{p:Prop}(h:p:=by
  have h2:=xD g.toNat l K 0 aD aD;have h3:=@Nat.left_le_or ((2:Int)^g.toNat-1).toNat (cX l).toNat;have h4:cX l=l.foldl eH 0:=rfl;rw[h4]at h1 h3 ⊢;omega):p:=h
theorem ZW{g:Int}{l:List Int}(z:aU g l=true)(J:cX l≠2^g.toNat-1):gD g l=none:=by
 unfold gD;rw[if_pos z];obtain⟨D,F,K,_⟩:=dB z;have hm:=dR z;have M:=lH D F;have I:=(cJ g.toNat 6 aD).2
 cases hr:dJ l 64 (2^g.toNat-1) with
 |none=>rfl
 |some L=>
  exfalso
  apply J
  have h1:=af4 l hm 64 _ L aD aD hr;exact aiA
end
end Go.Proofs.YtkdbkjjacgigiaaGreatDoor
