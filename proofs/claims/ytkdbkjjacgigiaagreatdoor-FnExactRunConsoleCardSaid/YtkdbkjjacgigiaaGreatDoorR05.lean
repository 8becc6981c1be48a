/- Lemmas for CardRunConsole. No condition. -/
import Derived.Test.YtkdbkjjacgigiaaGreatDoorR04
import Derived.Deep.RegionLaw
import Derived.StillTailTactics
set_option maxRecDepth 100000
set_option maxHeartbeats 64000000
namespace Go.Proofs.YtkdbkjjacgigiaaGreatDoor
section
open Go.RowKit Go.G5 Go.Proofs.Tryz
end
end Go.Proofs.YtkdbkjjacgigiaaGreatDoor
section
namespace Go.G5
open Go Go.RowKit
structure SliceElem (P:Program) (E:TypeId):Prop where
 info:(P.info? E).map (fun i=>(i.zero,i.size,i.bytes))=some (some (aD none 0 0),1,24)
theorem SliceElem.get{P:Program}{E:TypeId}(h:SliceElem P E):∃i,P.info? E=some i/\i.zero=some (aD none 0 0)/\i.size=1/\i.bytes=24:=by
 have h:=h.info
 cases z:P.info? E with
 |none=>rw[z]at h;simp at h
 |some i=>rw[z]at h;simp at h;exact⟨i,rfl,h.1,h.2.1,h.2.2⟩
theorem GY{w:World}{B B':Nat}{E F:TypeId}{s Y n S:Nat}{u v:Value}{Z ys:List Value}(h:w.ownsRow B E s u n Z)(O:w.ownsRow B' F Y v S ys)(D:E≠F):∀k,v.ownBlock=some k->u.ownBlock≠some k:=by
 intro k hk K;rcases h.2 with⟨rfl,_⟩|⟨g,cap,M,rfl,_,R,_⟩
 .simp[Value.ownBlock]at K
 .rcases O.2 with⟨rfl,_⟩|⟨N,I,J,rfl,_,z,_⟩
  .simp[Value.ownBlock]at hk
  .have e1:g=k:=by simpa[Value.ownBlock]using K
   have e2:N=k:=by simpa[Value.ownBlock]using hk
   subst e1;subst e2;rw[R]at z;injection z with z;injection z with _ ht;exact D ht
def eR(EI EO:TypeId)(B:Nat)(w:World)(v:Value)(z:List (List Int)):Prop:=
 ∃D:List Value,w.ownsRow B EO 1 v z.length D/\∀(k:Nat) (u:Value),D[k]?=some u->∃l,z[k]?=some l/\bB EI B w u l
theorem eR.len{EI EO:TypeId}{B:Nat}{w:World}{v:Value}{z:List aI}(h:eR EI EO B w v z):∃a c,v=aD a z c/\z.length<=maxLen:=by
 obtain⟨J,h1,_⟩:=h;rcases h1.2 with⟨rfl,D⟩|⟨g,cap,F,rfl,hB,I,D,hm,_⟩
 .exact⟨none,0,by rw[D],aA⟩
 .exact⟨_,cap,rfl,aA⟩
theorem eR.shape3{EI EO:TypeId}{B:Nat}{w:World}{v:Value}{z:List aI}(h:eR EI EO B w v z):∃a n c,v=aD a n c:=by
 obtain⟨a,c,h,_⟩:=h.len;exact⟨a,_,c,h⟩
theorem eR.nil(EI EO:TypeId)(B:Nat)(w:World):eR EI EO B w (aD none 0 0) []:=⟨[],World.ownsRow_nil _ _ _ _,bF⟩
theorem eR.single{EI EO:TypeId}{B:Nat}(w:World)(hB:B<=w.heap.size):eR EI EO B (w.alloc (.cells #[()] EO)) (aD (some ⟨w,0,none⟩) 1 1) [[]]:=by
 refine⟨[aD none 0 0],World.ownsRow_lit w #[()] 1 hB bZ rfl,?_⟩;intro k u z
 cases k with
 |zero=>simp only[List.getElem?_cons_zero,Option.some.injEq]at z;subst z;exact⟨[],rfl,bB.nil _ _ _⟩
 |succ k=>simp at z
theorem eR.keep{EI EO:TypeId}{B:Nat}{w w':World}{v:Value}{I:List aI}(h:eR EI EO B w v I)(hb:Below w w w'):eR EI EO B w' v I:=by
 obtain⟨M,⟨J,h1⟩,h2⟩:=h;refine⟨M,⟨J,?_⟩,fun k u K=>?_⟩
 .rcases h1 with h1|⟨g,cap,z,rfl,D,F,r⟩
  .exact .inl h1
  .exact .inr ⟨g,cap,z,rfl,D,by rw[hb.block g (dU.1 F).1];exact F,r⟩
 .obtain⟨l,h3,h4⟩:=h2 k u K;exact⟨l,h3,h4.keep hb⟩
theorem eR.mono{EI EO:TypeId}{B B':Nat}{w:World}{v:Value}{D:List aI}(h:eR EI EO B w v D)(hB:B'<=B):eR EI EO B' w v D:=by
 obtain⟨K,⟨F,h1⟩,h2⟩:=h;refine⟨K,⟨F,?_⟩,fun k u J=>?_⟩
 .rcases h1 with h1|⟨g,cap,z,rfl,I,r⟩
  .exact .inl h1
  .exact .inr ⟨g,cap,z,rfl,aA,r⟩
 .obtain⟨l,h3,h4⟩:=h2 k u J;exact⟨l,h3,h4.mono hB⟩
theorem eR.lt{EI EO:TypeId}{B:Nat}{w:World}{v:Value}{z:List aI}(h:eR EI EO B w v z):∀k,v.ownBlock=some k->B<=k/\k<w.heap.size:=by
 obtain⟨D,h1,_⟩:=h;exact h1.lt
theorem eR.grow{EI EO:TypeId}{B B' n:Nat}{w w':World}{v z:Value}{J:List aI}{R:List Value}(h:eR EI EO B w v J)(K:w.ownsRow B' EO 1 z n R)(M:EI≠EO)(F:w.grownBy w' z.ownBlock)(D:∀k,z.ownBlock=some k->v.ownBlock≠some k):eR EI EO B w' v J:=by
 obtain⟨O,h1,h2⟩:=h;refine⟨O,h1.kept F ?_,fun k u I=>?_⟩
 .cases N:z.ownBlock with
  |none=>
   cases I:v.ownBlock with
   |none=>exact .inl rfl
   |some q=>exact .inr bF
  |some q=>right;intro e;exact D q N e
 .obtain⟨l,h3,h4⟩:=h2 k u I;exact⟨l,h3,h4.grow F (GY h4.1 K M)⟩
theorem eR.growLow{EI EO:TypeId}{B g:Nat}{w w':World}{v:Value}{F:List aI}(h:eR EI EO B w v F)(D:w.grownBy w' (some g))(hB:g<B):eR EI EO B w' v F:=by
 obtain⟨K,h1,h2⟩:=h;refine⟨K,h1.kept D ?_,fun k u J=>?_⟩
 .right;intro e;have:=(h1.lt g e).1;omega
 .obtain⟨l,h3,h4⟩:=h2 k u J;exact⟨l,h3,h4.grow D (fun q I z=>by cases I;have:=(h4.lt _ z).1;omega)⟩
theorem eR.row{EI EO:TypeId}{B:Nat}{w:World}{v:Value}{z:List aI}(h:eR EI EO B w v z):∃D,w.ownsRow B EO 1 v z.length D:=⟨h.choose,h.choose_spec.1⟩
theorem bB.growL{EI EO:TypeId}{B B' n:Nat}{w w':World}{u z:Value}{l:aI}{J:List Value}(h:bB EI B w u l)(D:w.ownsRow B' EO 1 z n J)(F:EI≠EO)(I:w.grownBy w' z.ownBlock):bB EI B w' u l:=h.grow I (GY h.1 D F)
theorem eR.view{EI EO:TypeId}{B:Nat}{w:World}{a:Option Addr}{n c:Nat}{z:List aI}(h:eR EI EO B w (aD a n c) z)(P:Program)(T:TypeId)(N:P.underlying T=some (.slice EO))(Z:SliceElem P EO)(k:Nat)(hk:k<z):
  ∃g u,(∀(w':World),(Instr.indexAt T (aD a n c) (aO (k:Int))).run P w'=.ok (aP (some ⟨g,k,none⟩)) w')/\w.cell? ⟨g,k,none⟩=some u/\bB EI B w u z[k]:=by
 obtain⟨F,h1,h2⟩:=h;have M:P.elem T=EO:=by simp[Program.elem,N]
 obtain⟨i,Y,_,J,_⟩:=Z.get;have hl:=h1.1;rcases h1.2 with⟨e,O⟩|⟨g,cap,I,e,hB,S,O,hm,K,ht⟩
 .omega
 .simp only[Value.slice.injEq]at e;obtain⟨rfl,rfl,rfl⟩:=e;have R:k<F:=aA;obtain⟨l,h3,h4⟩:=h2 k F[k] (cG R);rw[cG hk]at h3
  cases h3
  refine⟨g,F[k],fun w'=>?_,?_,h4⟩
  .rw[run_indexAt_slice w' T ⟨g,0,none⟩ z.length c .i64 k (by rw[M];exact N),if_pos ⟨aA,aA⟩,M];simp[sizeOf,typeInfo,Y,J,Addr.add];exact fun h=>h.symm
  .have D:w.ownsRow B EO 1 (aD (some ⟨g,0,none⟩) z c) z.length F:=⟨h1.1,.inr ⟨g,c,I,rfl,hB,S,O,hm,K,ht⟩⟩;rw[D.cellAt k aA];exact cG R
theorem AF{P:Program}{w:World}{ops:Array Oper}{rest:List Oper}{o:Oper}{a:Act}{Q:Exit->Act->World->Prop}(Y:o.guard=none)(s x:Operand)(t:TypeId)
  (ho:o.op=.call { callee:=.builtin .append,args:=#[s,x],argTypes:=#[t,t] })
  (EI EO:TypeId) (J:EI≠EO) (ht:P.underlying t=some (.slice EO)) (hE:SliceElem P EO) (B:Nat) (v:Value) (N:List aI) (u:Value) (l:aI) (b:Nat) (hs:a.eval s=v) (hx:a.eval x=aD (some ⟨b,0,none⟩) 1 1)
  (hy:w.cell? ⟨b,0,none⟩=some u) (M:eR EI EO B w v N) (hu:bB EI B w u l) (a8:N.length<5497558138879) (hB:B<=w.heap.size)
  (h:∀R w',eR EI EO B w' R (N++[l])->w.grownBy w' v.ownBlock->wpList P ops Q rest (a.put o.dst R) w'):wpList P ops Q (o::rest) a w:=by
 obtain⟨i,hi,hz,h1,h8⟩:=hE.get;obtain⟨O,D,a6⟩:=M;have K:u.oneCell'=true:=by
  obtain⟨a',n',c',rfl⟩:=hu.shape3
  rfl
 refine wpList_append_own w Y s x t ho B EO i (aD none 0 0) 1 24 ht hi hz h1 h8 rfl bZ v N.length O hs D ⟨b,0,none⟩ 1 1 [u] hx rfl ?_ ?_ ?_ ?_ hB ?_
 .intro j q I
  match j,I with
  |0,I=>simp at I;subst I;simpa[Addr.add]using hy
  |j+1,I=>simp at I
 .intro q z;simp at z;subst z;exact K
 .unfold maxLen;omega
 .omega
 .intro R w' F S _;refine h R w' ⟨O++[u],by simpa using F,fun k q z=>?_⟩ S;have hl:=D.1;by_cases hk:k<O.length
  .rw[List.getElem?_append_left hk]at z;obtain⟨l',h3,h4⟩:=a6 k q z;exact⟨l',by rw[List.getElem?_append_left aA];exact h3,h4.grow S (GY h4.1 D J)⟩
  .rw[List.getElem?_append_right aA]at z
   have Z:k-O.length=0:=by
    cases a1:k-O.length with
    |zero=>rfl
    |succ m=>rw[a1]at z;simp at z
   rw[Z]at z;simp only[List.getElem?_cons_zero,Option.some.injEq]at z;subst z;refine⟨l,?_,hu.grow S (GY hu.1 D J)⟩;rw[List.getElem?_append_right aA,show k-N.length=0 from aA];rfl
end Go.G5
namespace Go.Proofs.YtkdbkjjacgigiaaGreatDoor
open Go.RowKit Go.G5 Go.Proofs.Tryz
theorem pU:SliceElem prog 25:=⟨by kernel_rfl⟩
theorem BG:(3:TypeId)≠25:=bZ
end Go.Proofs.YtkdbkjjacgigiaaGreatDoor
end
namespace Go.Proofs.YtkdbkjjacgigiaaGreatDoor
section
open Go.RowKit Go.G5 Go.Proofs.Tryz
variable(w:World)(n:Int)(v:Value)(l:aI)
theorem acL{w:World}{a:Addr}{v:Value}(h:w.cell? a=some v):a.block<w.heap.size:=World.block_lt_of_cell? w a h
theorem ac2(v:Value)(s:Int)(w:World)(R:Ints w v l):
  Calls prog 358 #[v,s] w fun e w'=>(∃i:Int,e=aQ i/\(0<=i↔jI l s=true)/\-1<=i/\i<=9223372036854775807)/\w=w':=by
 obtain⟨a,b,S,c,rfl,K,N,hc,hb⟩:=R.vw;go_enter func358,ntmps358;go_wp2;go_loop [8] (fun i=>∃k:Nat,k<=l/\i=aO k/\∀j,(I:j<l.length)->j<k->l[j]≠s) (fun i=>l.length-(intOf i).toNat)
 .exact⟨0,aZ _,rfl,fun j _ h=>aA⟩
 obtain⟨k,hk,rfl,z⟩:=hrel;have H:=aT z;clear z;by_cases hlt:k<l
 .have M:=hc k hlt;by_cases D:s=l[k]
  .have ht:(s==l[k])=true:=by simp[D]
   have F:jI l s=true:=by rw[D];exact Y7 l k hlt
   have J:=aT F;clear D F;go_wp2;go_ret;exact⟨⟨k,rfl,by rw[J.out];simp,aA,aA⟩,rfl⟩
  .have ht:(s==l[k])=false:=by simp[D]
   go_wp2;go_round
   .refine⟨k+1,aA,cD,fun j I O=>?_⟩;by_cases h:j<k
    .exact H.out j I h
    .have:j=k:=aA;subst this;exact fun h=>D h.symm
   exact aY
 .have F:jI l s=false:=EB fun j I=>H.out j I aA;have J:=aT F;clear F;go_wp2;go_ret;exact⟨⟨-1,rfl,by rw[J.out];simp,aA,aA⟩,rfl⟩
theorem AB(v:Value)(s:Int)(w:World)(I:Ints w v l):
  Calls prog 318 #[v,s] w fun e w'=>e=aQ (aG (jI l s))/\w=w':=by
 obtain⟨a,c,rfl⟩:=I.shape;go_enter func318,ntmps318;go_wp2_with (go_at_call 358;refine(ac2 l _ s _ I).mono ?_;rintro e w' ⟨⟨i,rfl,F,J,K⟩,rfl⟩;have D:=aT F;clear F);go_ret;refine⟨cP ?_,rfl⟩
 cases z:jI l s with
 |true=>have:=D.out.2 z;simpa using this
 |false=>
  have h:¬0<=i:=fun h=>by rw[D.out.1 h]at z;cases z
  simpa using h
def dF(s e:Nat):Nat:=s ||| 2^e
def fW(l:List Int)(s e:Nat):Int:=l.getD (dF s e) 0-l.getD s 0
theorem iU(s e:Nat)(F:s<4611686018427387904)(z:e<6):bits .or .i64 (s:Int) (2^e)=((dF s e:Nat):Int):=by
 have D:=Nat.pow_lt_pow_right (show 1<2 from bZ) z;have:=PT s (2^e) aA (by simp at D;omega);unfold dF;rw[<-this];push_cast;rfl
theorem gI(s e n:Nat)(D:s<2^n)(z:e<n):dF s e<2^n:=Nat.or_lt_two_pow D (Nat.pow_lt_pow_right bZ z)
theorem IX(v:Value)(s e:Nat)(w:World)(hv:Ints w v l)(hl:l.length<=64)(M:s<l)(he:e<6)(D:dF s e<l.length)(J:∀k,(hk:k<l.length)->-1000<=l[k]/\l[k]<=1000):
  Calls prog 266 #[aM #[n,v],(s:Int),(e:Int)] w fun e' w'=>e'=aQ (fW l s e)/\Below w w w':=by
 obtain⟨a,b,b6,c,rfl,Y,I,hc,hb⟩:=hv.vw;have F:=bY hc hb (cQ w (.cells #[n,aD a l c] 27)) aU;have h1:=J s M;have h2:=J _ D;have N:fW l s e=l[dF s e]-l[s]:=by unfold fW;rw[bR,bR,cG M,cG D];rfl
 have S:=iU s e aA he;have K:=F _ D;have O:=F s M;have R:=fun w'=>I w' _ D;have b1:=fun w'=>I w' s M;have z:=dW e 6 aA;have b3:(2:Int)^e<=64:=by simpa using z.1
 have b4:=z.2;have b0:(0:Int)<=(e:Int):=Int.natCast_nonneg _;obtain⟨x,hx⟩:=aW (l[dF s e]);obtain⟨y,hy⟩:=aW (l[s]);obtain⟨q,Z⟩:=aW (dF s e);rw[<-hx]at N h2 K;rw[<-hy]at N h1 O;rw[<-Z]at S R K;have hw:IntKind.i64.wrap (x-y)=x-y:=dV;have HG:=aT N;clear N J hc hb F I hx hy Z z D M;go_enter func266,ntmps266;go_wp2;go_quiet (fail);go_wp2;go_ret;exact⟨jK (by rw[HG.out]),(cQ _ _).drewN' _⟩
def uX(o:List Int):Nat->Nat
 |0=>0
 |k+1=>dF (uX o k) (o.getD k 0).toNat
def lJ(l o:List Int):Nat->List Int
 |0=>List.replicate o.length 0
 |k+1=>(lJ l o k).set (o.getD k 0).toNat (fW l (uX o k) (o.getD k 0).toNat)
def vU(l o:List Int):List Int:=lJ l o o.length
theorem C0(l o:aI)(k:Nat):(lJ l o k).length=o.length:=by
 induction k with
 |zero=>simp[lJ]
 |succ k ih=>simp[lJ,ih]
theorem aaP(o:aI)(n k:Nat)(h:∀x∈o,0<=x/\x<n)(hk:k<=o):uX o k<2^n:=by
 induction k with
 |zero=>exact dJ n
 |succ k ih=>have hm:=h _ (aX (show k<o.length from aA));rw[uX,bR,cG (show k<o.length from aA),Option.getD_some];exact gI _ _ _ (ih aA) aA
theorem OX(s e:Nat)(F:s<l)(D:dF s e<l.length)(z:∀k,(hk:k<l.length)->-1000<=l[k]/\l[k]<=1000):-2000<=fW l s e/\fW l s e<=2000:=by
 have h1:=z s F;have h2:=z _ D;unfold fW;rw[bR,bR,cG F,cG D,Option.getD_some,Option.getD_some];omega
theorem aeW(g:Int)(l o:aI)(v u:Value)(w:World)(hv:Ints w v l)(hu:Ints w u o)(hn:o.length<=5)(hl:l.length=2^o.length)(Y:∀k,(hk:k<l.length)->-1000<=l[k]/\l[k]<=1000)(ho:∀x∈o,0<=x/\x<o.length):
  Calls prog 264 #[aM #[g,v],u] w fun e w'=>∃ad i c,e=aQ (aD ad i c)/\bB 3 w w' (aD ad i c) (vU l o)/\Below w w w':=by
 obtain⟨av,cv,rfl⟩:=hv.shape;obtain⟨a,b,g5,c,rfl,e8,f7,hc,hb⟩:=hu.vw;have e7:l.length<=32:=by rw[hl];exact bQ bZ hn
 have X0:=Box2.new w g (aD av l cv) 27;have HL:=aT hl;have S:=aT Y;have HO:=aT ho;clear hl Y ho;go_enter func264,ntmps264;go_wp2_with (at_make;refine nP rfl _ _ _ rfl 3 underlying25 intElem o.length _ _ rfl rfl rfl rfl aA ?_;intro w2 J hg);have X2:=X0.grow hg bF;simp at J;clear X0 hg;go_loopw [6,14] (fun s i wr=>∃k:Nat,k<=o.length/\i=aO k/\s=aO (uX o k)/\bB 3 (w.heap.size+1) wr (aD (some ⟨w+1,0,none⟩) o o.length) (lJ l o k)/\Box2 w wr g (aD av l cv))
  (fun _ i _=>o.length-(intOf i).toNat)
 .exact⟨0,aZ _,rfl,rfl,J,X2⟩
 obtain⟨k,hk,rfl,rfl,ow,X⟩:=hrel;clear J X2;have HW:=aT ow;clear ow;obtain⟨d0,d1,B1,z1⟩:=X;by_cases hlt:k<o.length
 .have b3:=bY hc hb B1 aU k hlt;have hm:=HO.out _ (aX hlt);obtain⟨e,he⟩:∃e:Nat,o[k]=(e:Int):=⟨o[k].toNat,aA⟩;rw[he]at b3;have b5:e<o.length:=aA;have N:(o.getD k 0).toNat=e:=by rw[bR,cG hlt,Option.getD_some,he];omega
  have F:=aaP o o.length k HO.out hk;rw[<-HL.out]at F;have R:dF (uX o k) e<l.length:=by rw[HL.out]at F |-;exact gI _ _ _ F b5
  have O:uX o (k+1)=dF (uX o k) e:=by rw[uX,N]
  have I:lJ l o (k+1)=(lJ l o k).set e (fW l (uX o k) e):=by rw[lJ,N]
  have b7:=OX l (uX o k) e F R S.out;obtain⟨p,hp⟩:=aW (uX o k);rw[<-hp]at F R O I b7 |-;have f9:=iU p e aA aA;have K:=dW e 6 aA;have g0:(2:Int)^e<=64:=by simpa using K.1
  have g2:=K.2;have b9:=hv.below B1 aU;have a9:=aT O;have a8:=aT I;have D:o.length=(lJ l o k).length:=(C0 l o k).symm;have z:∃q,wr.cell? ⟨w+1,e,none⟩=some q:=⟨_,HW.out.cellAt D e aA⟩;obtain⟨q,z⟩:=z;have b6:=HW.out.frozenAt D e;have b1:w.heap.size+1<wr.heap.size:=acL z;have f6:(0:Int)<=(e:Int):=Int.natCast_nonneg _;have e4:(e:Int)<(o.length:Int):=aA;clear hp he N O I hm D K;go_wp2_with (go_at_call 266;refine(IX g l _ p e _ b9 aA F aA R S.out).mono ?_;rintro e' w3 ⟨rfl,M⟩;have a7:=keep M z;have e5:w3.frozen? ⟨w+1,e,none⟩=false:=(M.frozen (p:=⟨w+1,e,none⟩) b1).trans b6);have Z:=(HW.out.keep M).stored (C0 l o k).symm e (fW l p e) ⟨aA,aA⟩;have X3:=((Box2.mk d0 d1 B1 z1).after M).grow Z.2 bF;have b0:=aT Z.1;go_roundw
  .exact⟨k+1,aA,cD,by rw[a9.out],by rw[a8.out];exact b0.out,X3⟩
  exact aY
 .have b8:k=o.length:=aA;subst b8;go_wp2;go_ret;exact⟨_,_,_,rfl,HW.out.mono aA,B1⟩
theorem afF(n e:Int)(w:World):
  Calls prog 218 #[n,e] w fun D w'=>D=aQ (aG (decide (0<=e)&&decide (e<n)))/\w=w':=by
 by_cases z:0<=e
 .have t:=bH z;go_enter func218,ntmps218;go_wp2;go_ret;exact⟨cP (by first|rfl|(rw[t];rfl)),rfl⟩
 .have t:=bG z;go_enter func218,ntmps218;go_wp2;go_ret;exact⟨cP (by first|rfl|(rw[t];rfl)),rfl⟩
def jG(left:Int)(b s:Int):Int:=if eO (cU b left)<eO (cU s left) then s else b
def jB(l:List Int)(left:Int):Int:=l.foldl (jG left) 0
def fL(l:List Int):Nat->Int->Option (List Int)
 |0,left=>if left=0 then some [] else none
 |n+1,left=>if left=0 then some [] else if cU (jB l left) left=0 then none else (fL l n (dQ left (jB l left))).map (jB l left::·)
def kB(g:Int)(l:List Int):Option (List Int):=if cO g l then fL l 64 (2^g.toNat-1) else none
def fC(g:Int)(l:List Int):List Int:=(kB g l).getD []
def iH(g:Int)(l:List Int):Bool:=(kB g l).isSome
theorem IC(left:Int)(l:aI):∀z,l.foldl (jG left) z=z\/l.foldl (jG left) z∈l:=by
 induction l with
 |nil=>intro z;exact .inl rfl
 |cons a l ih=>
  intro z;simp only[List.foldl_cons];rcases ih (jG left z a) with h|h
  .rw[h];unfold jG;split
   .right;simp
   .left;rfl
  .right;simp[h]
theorem amS(left:Int)(l:aI):∀z,eO (cU z left)<=eO (cU (l.foldl (jG left) z) left)/\∀s∈l,eO (cU s left)<=eO (cU (l.foldl (jG left) z) left):=by
 induction l with
 |nil=>intro z;exact⟨Int.le_refl _,bF⟩
 |cons a l ih=>
  intro z;simp only[List.foldl_cons];obtain⟨h1,h2⟩:=ih (jG left z a);have h3:eO (cU z left)<=eO (cU (jG left z a) left)/\eO (cU a left)<=eO (cU (jG left z a) left):=by unfold jG;split<;>omega
  refine⟨aA,fun s D=>?_⟩;rcases fK.1 D with rfl|D
  .omega
  .exact h2 s D
theorem MS(left:Int)(h:∀s∈l,0<=s/\s<64):0<=jB l left/\jB l left<64:=by
 rcases IC left l 0 with h1|h1
 .unfold jB;rw[h1];omega
 .exact h _ h1
theorem arM:∀n,n<64->0<n->0<dG n:=dS
theorem aiH{a:Int}(D:0<=a)(h1:a<64)(h:eO a<=0):a=0:=by
 by_cases z:a=0
 .exact z
 .have:=arM a.toNat aA aA;unfold eO at h;omega
theorem amH(c:Nat)(l:aI)(h:∀s∈l,s.toNat &&& c=0):∀z:Int,z.toNat &&& c=0->(l.foldl gO z).toNat &&& c=0:=by
 induction l with
 |nil=>intro z D;exact D
 |cons a l ih=>intro z D;simp only[List.foldl_cons];refine ih (fun s I=>h s (by simp[I])) _ ?_;have F:=h a bF;unfold gO;rw[cA,Nat.and_or_distrib_right,D,F];rfl
theorem agL(g:Nat)(l:aI)(z:Int)(R:0<z)(h1:z<2^g)(O:eU l=2^g-1):∃s∈l,cU s z≠0:=by
 refine Classical.byContradiction fun I=>?_;have D:∀s∈l,s.toNat &&& z.toNat=0:=fun s N=>by refine Classical.byContradiction fun M=>I ⟨s,N,?_⟩;unfold cU;omega
 have K:=amH z.toNat l D 0 bF;have J:(l.foldl gO 0)=2^g-1:=O;have F:((2:Int)^g-1).toNat=2^g-1:=by
  have:((2:Int)^g)=((2^g:Nat):Int):=by push_cast;rfl
  rw[this];omega
 rw[J,F,Nat.and_comm,Nat.and_two_pow_sub_one_eq_mod]at K;have hlt:z.toNat<2^g:=by
  have:((2:Int)^g)=((2^g:Nat):Int):=by push_cast;rfl
  omega
 rw[Nat.mod_eq_of_lt hlt]at K;omega
theorem aeN(g:Nat)(l:aI)(z:Int)(hl:∀s∈l,0<=s/\s<64)(K:0<z)(h1:z<2^g)(M:eU l=2^g-1):cU (jB l z) z≠0:=by
 obtain⟨s,J,I⟩:=agL g l z K h1 M;have hm:=(amS z l 0).2 s J;intro N;have hb:eO (cU (jB l z) z)=0:=by rw[N];decide
 have F:=hl s J;have D:=mW s z 64 F.1 F.2;exact I (aiH D.1 D.2 (by unfold jB at hb;omega))
theorem adQ{a b:Int}(D:0<=a)(z:cU b a≠0):dQ a b<a:=by
 unfold cU at z;unfold dQ dY;have hc:a.toNat &&& b.toNat=b.toNat &&& a.toNat:=Nat.and_comm _ _;have:=@Nat.and_le_left a.toNat b.toNat;omega
theorem aaA:∀a,a<64->∀b,b<64->dY a b ||| b=a ||| b:=dS
theorem V8(h:∀s∈l,0<=s):∀(z:Int),(∀s∈l,s.toNat ||| (l.foldl gO z).toNat=(l.foldl gO z).toNat)/\z.toNat ||| (l.foldl gO z).toNat=(l.foldl gO z).toNat:=by
 induction l with
 |nil=>intro z;exact⟨bF,bF⟩
 |cons a l ih=>
  intro z;simp only[List.foldl_cons];obtain⟨h1,h2⟩:=ih (fun s D=>h s (by simp[D])) (gO z a)
  generalize (l.foldl gO (gO z a)).toNat=U at *
  have F:(gO z a).toNat=z.toNat ||| a.toNat:=by unfold gO;rw[cA]
  rw[F]at h2;refine⟨fun s D=>?_,?_⟩
  .rcases fK.1 D with rfl|D
   .calc s.toNat ||| U=s.toNat ||| (z.toNat ||| s.toNat ||| U):=by rw[h2]
     _=z.toNat ||| s.toNat ||| U:=by rw[<-Nat.or_assoc,<-Nat.or_assoc,Nat.or_comm s.toNat z.toNat,Nat.or_assoc z.toNat,Nat.or_self]
     _=U:=h2
   .exact h1 s D
  .calc z.toNat ||| U=z.toNat ||| (z.toNat ||| a.toNat ||| U):=by rw[h2]
    _=z.toNat ||| a.toNat ||| U:=by rw[<-Nat.or_assoc,<-Nat.or_assoc,Nat.or_self]
    _=U:=h2
theorem aiD(hl:∀s∈l,0<=s/\s<64):∀n (z:Int) L,0<=z->z<64->fL l n z=some L->z.toNat ||| (eU l).toNat=(eU l).toNat:=by
 intro n
 induction n with
 |zero=>
  intro z L K h1 h;simp only[fL]at h
  split at h
  .rename_i J;subst J;simp
  .cases h
 |succ n ih=>
  intro z L K h1 h;simp only[fL]at h
  split at h
  .rename_i J;subst J;simp
  .split at h
   .cases h
   .rename_i I
    cases hr:fL l n (dQ z (jB l z)) with
    |none=>rw[hr]at h;cases h
    |some L'=>
     have hb:=MS l z hl;have hd:=rK z (jB l z) 64 K h1;have M:=ih _ _ hd.1 hd.2 hr;have F:jB l z∈l:=by
      rcases IC z l 0 with h1|h1
      .exfalso
       apply I
       have:jB l z=0:=h1;rw[this];unfold cU;simp
      .exact h1
     have D:=(V8 l (fun s R=>(hl s R).1) 0).1 _ F;have O:=aaA z.toNat aA (jB l z).toNat aA;have e:(dQ z (jB l z)).toNat=dY z.toNat (jB l z).toNat:=by unfold dQ;rw[cA]
     rw[e]at M;have N:(eU l).toNat=(l.foldl gO 0).toNat:=rfl;rw[<-N]at D
     generalize (eU l).toNat=U at *
     calc z.toNat ||| U=z.toNat ||| ((jB l z).toNat ||| U):=by rw[D]
      _=(z.toNat ||| (jB l z).toNat) ||| U:=by rw[Nat.or_assoc]
      _=(dY z.toNat (jB l z).toNat ||| (jB l z).toNat) ||| U:=by rw[O]
      _=dY z.toNat (jB l z).toNat ||| ((jB l z).toNat ||| U):=by rw[Nat.or_assoc]
      _=U:=by rw[D,M]
theorem ak0{p:Prop}(h:p:=by
  have h2:=AD g.toNat l K 0 aA aA;have h3:=@Nat.left_le_or ((2:Int)^g.toNat-1).toNat (eU l).toNat;have h4:eU l=l.foldl gO 0:=rfl;rw[h4]at h1 h3 |-;omega):p:=h
theorem ab6{g:Int}{l:aI}(z:cO g l=true)(J:eU l≠2^g.toNat-1):kB g l=none:=by
 unfold kB;rw[if_pos z];obtain⟨D,F,K,_⟩:=fF z;have hm:=fS z;have M:=nY D F;have I:=(dW g.toNat 6 aA).2
 cases hr:fL l 64 (2^g.toNat-1) with
 |none=>rfl
 |some L=>
  exfalso
  apply J
  have h1:=aiD l hm 64 _ L aA aA hr;exact ak0
theorem LD(g:Int)(v:Value)(l:aI)(hv:Ints w v l)(j6:l.length<=1048576):
  Calls prog 234 #[aM #[g,v]] w fun e w'=>∃ad i cp,e=aQ (aS #[aD ad i cp,aG (iH g l)])/\bB 3 w w' (aD ad i cp) (fC g l)/\Below w w w':=by
 obtain⟨a,b,j8,c,rfl,g5,j5,hc,hb⟩:=hv.vw;obtain⟨Y,d1,B1,z1⟩:=Box2.new w g (aD a l c) 29;obtain⟨W0,K⟩:=aW (w.alloc (.cells #[g,aD a l c] 29));rw[<-K]at Y d1 B1 z1
 cases hf:cO g l with
 |false=>
  have hx:kB g l=none:=by unfold kB;rw[hf];rfl
  have F:iH g l=false:=by unfold iH;rw[hx];rfl
  have I:fC g l=[]:=by unfold fC;rw[hx];rfl
  have HB:=aT F;have HL:=aT I;clear hx F I hc;go_enter func234,ntmps234;go_wp2;rw[<-K];clear K;have e0:∀x:Ext W0,x.w.cell? ⟨w,0,none⟩=some (aO g):=fun x=>x.cell Y;have e1:∀x:Ext W0,x.w.cell? ⟨w,1,none⟩=some (aD a l c):=fun x=>x.cell d1;have D:=hv.below B1 aU;refine cW _ bM bM ?_
  repeat(first|go_big_quiet_skip|(go_big_quiet_want;go_big_quiet_op;first|go_big_quiet_on|(apply Exists.intro;refine⟨fun _=>?_,?_⟩;(go_at_call 146;exact zN (eP g l _ _ (Ext.ints _ D)) hf);go_big_quiet_on)))
  refine wpQuiet_nil ?_;rintro w3 ⟨⟨w3,M⟩,rfl⟩
  try dsimp only
  clear e0 e1;have B3:=B1.after M B1.size;go_wp2;go_ret2;exact⟨none,0,0,by rw[HB.out];rfl,by rw[HL.out];exact bB.nil _ _ _,rB⟩
 |true=>
  obtain⟨h0,h6,hs,_⟩:=fF hf;have hm:=fS hf;have hp:=nY h0 h6;have j7:=(dW g.toNat 6 aA).2;have D:=hv.below B1 aU;have e0:∀x:Ext W0,x.w.cell? ⟨w,0,none⟩=some (aO g):=fun x=>x.cell Y;have e1:∀x:Ext W0,x.w.cell? ⟨w,1,none⟩=some (aD a l c):=fun x=>x.cell d1;have HM:=aT hm;have HS:=aT hs;clear hm hs;by_cases hu:eU l=2^g.toNat-1
  .have f8:(eU l != 2^g.toNat-1)=false:=by simp[hu]
   have HU:=aT hu;clear hu;go_enter func234,ntmps234;go_wp2;rw[<-K];clear K;refine cW _ bM bM ?_
   repeat(first|go_big_quiet_skip|(go_big_quiet_want;go_big_quiet_op;first|go_big_quiet_on|(apply Exists.intro;refine⟨fun _=>?_,?_⟩;(first|(go_at_call 146;exact zN (eP g l _ _ (Ext.ints _ D)) hf)|(go_at_call 314;exact fA (pW l _ _ (Ext.ints _ D) HM.out))|(go_at_call 302;exact dI (lC g _ l _ (Ext.ints _ D) h0 aA)));go_big_quiet_on)))
   refine wpQuiet_nil ?_;rintro w3 ⟨⟨w3,M⟩,rfl⟩
   try dsimp only
   clear e0 e1;have X3:=(Box2.mk Y d1 B1 z1).after M;obtain⟨c0,c1,B3,z3⟩:=X3;clear Y d1 M z1;go_wp2_with fail;refine aV (lC g _ l _ (hv.below B3 aU) h0 aA) ?_;intro w4 c7;have X4:=(Box2.mk c0 c1 B3 z3).after c7;clear c7 c0 c1 B3 z3;obtain⟨Y,d1,B4,z4⟩:=X4;go_wp2_with fail;go_loopw [4,5] (fun out lf wr=>∃(ad:Option Addr) (nn cp:Nat) (J:aI) (z:Int) (n:Nat),out=aD ad nn cp/\lf=aO z/\0<=z/\z<2^g.toNat/\z<=n/\J.length<=64-n/\n<=64 /\
     fL l 64 (2^g.toNat-1)=(fL l n z).map (J++·)/\bB 3 (w.heap.size+1) wr (aD ad nn cp) J/\Box2 w wr g (aD a l c))
    (fun _ lf _=>(intOf lf).toNat)
   .exact⟨none,0,0,[],_,64,rfl,rfl,aA,aA,aA,bF,aA,bF,bB.nil _ _ _,⟨Y,d1,B4,z4⟩⟩
   obtain⟨ad,nn,cp,J,z,n,rfl,rfl,Z,f7,j2,j0,g6,a8,ho,X⟩:=hrel;have HR:=aT a8;have HO:=aT ho;clear a8 ho Y d1;obtain⟨Y,d1,B5,z5⟩:=X;by_cases O:z=0
   .have ht:(z != 0)=false:=by simp[O]
    have S:kB g l=some J:=by
     unfold kB;rw[if_pos hf,HR.out,O]
     cases n<;>simp[fL]
    have F:iH g l=true:=by unfold iH;rw[S];rfl
    have I:fC g l=J:=by unfold fC;rw[S];rfl
    have HB:=aT F;have HL:=aT I;clear O S F I;go_wp2;go_ret2;exact⟨ad,nn,cp,by rw[HB.out];rfl,by rw[HL.out];exact HO.out.mono (Nat.le_succ _),B5⟩
   .have ht:(z != 0)=true:=by simp[O]
    have c9:=bY hc hb B5 aU;have c8:=aeN g.toNat l z HM.out aA f7 HU.out;have j1:=MS l z HM.out;have b9:=aT c8;clear c8;go_wp2_with fail;go_loop [6,27] (fun m i=>∃k:Nat,k<=l.length/\i=aO k/\m=aO ((l.take k).foldl (jG z) 0)) (fun _ i=>l.length-(intOf i).toNat)
    .exact⟨0,aZ _,rfl,rfl⟩
    obtain⟨k,hk,rfl,rfl⟩:=hrel;have N:0<=(l.take k).foldl (jG z) 0/\(l.take k).foldl (jG z) 0<64:=by
     rcases IC z (l.take k) 0 with h1|h1
     .rw[h1];omega
     .exact HM.out _ (List.mem_of_mem_take h1)
    obtain⟨m,b3⟩:=aW ((l.take k).foldl (jG z) 0);rw[<-b3]at N |-;have a9:=aT b3;clear b3;by_cases hlt:k<l.length
    .have b1:=HM.out _ (aX hlt);have i7:=fV b1.1 (show l[k]<4611686018427387904 from aA) Z aA;have i8:=fV N.1 (show m<4611686018427387904 from aA) Z aA;have j3:=mW l[k] z 64 b1.1 b1.2;have j4:=mW m z 64 N.1 N.2;by_cases f6:eO (cU m z)<eO (cU l[k] z)
     .go_wp2_with (go_at_call 214;refine aV (vN _ _ aA aA) ?_;rintro w' rfl)
      go_round
      .exact⟨k+1,aA,cD,by rw[A0 _ _ _ _ hlt,<-a9.out,jG,if_pos f6]⟩
      exact aY
     .go_wp2_with (go_at_call 214;refine aV (vN _ _ aA aA) ?_;rintro w' rfl)
      go_round
      .exact⟨k+1,aA,cD,by rw[A0 _ _ _ _ hlt,<-a9.out,jG,if_neg aA]⟩
      exact aY
    .have a7:m=jB l z:=by rw[a9.out];unfold jB;rw[OU _ _ _ _ aA]
     have c6:=aT a7;have hN:=nR Z aA N.1 N.2;clear a7 c9;go_wp2_with (at_builtin;refine eF rfl _ _ _ rfl 3 underlying25 intElem (w.heap.size+1) _ _ m wr.heap.size rfl rfl bF (HO.out.alloc _) ⟨aA,aA⟩ aA bO ?_;intro v' w6 R e4;obtain⟨av,nv,cv,rfl⟩:=R.shape3);have X6:=((Box2.mk Y d1 B5 z5).after (cQ _ (.cells #[m] 3))).grow e4 (fun k hk=>by have:=(HO.out.lt k hk).1;omega);have HW:=aT R;have g4:dQ z m<z:=by rw[c6.out];exact adQ Z b9.out
     have e5:0<=dQ z m:=by unfold dQ;omega
     clear R e4;go_wp2;go_roundw
     .obtain⟨n',rfl⟩:∃n',n=n'+1:=⟨n-1,aA⟩;refine⟨_,_,_,J++[m],dQ z m,n',rfl,rfl,e5,aA,aA,bO,aA,?_,HW.out,X6⟩;rw[HR.out,fL,if_neg O,if_neg b9.out,<-c6.out]
      cases fL l n' (dQ z m)<;>simp
     exact aY
  .have f8:(eU l != 2^g.toNat-1)=true:=by simp[hu]
   have hx:=ab6 hf hu;have F:iH g l=false:=by unfold iH;rw[hx];rfl
   have I:fC g l=[]:=by unfold fC;rw[hx];rfl
   have HB:=aT F;have HL:=aT I;clear hx F I hu hc;go_enter func234,ntmps234;go_wp2;rw[<-K];clear K;refine cW _ bM bM ?_
   repeat(first|go_big_quiet_skip|(go_big_quiet_want;go_big_quiet_op;first|go_big_quiet_on|(apply Exists.intro;refine⟨fun _=>?_,?_⟩;(first|(go_at_call 146;exact zN (eP g l _ _ (Ext.ints _ D)) hf)|(go_at_call 314;exact fA (pW l _ _ (Ext.ints _ D) HM.out))|(go_at_call 302;exact dI (lC g _ l _ (Ext.ints _ D) h0 aA)));go_big_quiet_on)))
   refine wpQuiet_nil ?_;rintro w3 ⟨⟨w3,M⟩,rfl⟩
   try dsimp only
   clear e0 e1;have B3:=B1.after M B1.size;go_wp2;go_ret2;exact⟨none,0,0,by rw[HB.out];rfl,by rw[HL.out];exact bB.nil _ _ _,B3⟩
theorem O3{a b:Int}(z:0<=a):a-cU a b=dQ a b:=by
 have:=@Nat.and_le_left a.toNat b.toNat;unfold cU dQ dY;omega
theorem A7(a b:Int):cU a b=cU b a:=by unfold cU;rw[Nat.and_comm]
theorem U2(g:Int)(v:Value)(l:aI)(hv:Ints w v l)(i8:l.length<=1048576):
  Calls prog 67 #[aM #[g,v]] w fun e w'=>∃ad i cp,e=aQ (aS #[aD ad i cp,aG (iH g l)])/\bB 3 w w' (aD ad i cp) (fC g l)/\Below w w w':=by
 obtain⟨a,b,j2,c,rfl,f4,i7,hc,hb⟩:=hv.vw;have o0:bB 3 (w.heap.size+1) ((w.alloc (.cells #[g,aD a l c] 29)).alloc (.cells #[] 3)) (aD (some ⟨w+1,0,none⟩) 0 0) []:=by have:=bB.lit0 (E:=3) (B:=w.heap.size+1) (w.alloc (.cells #[g,aD a l c] 29)) bF;simpa using this
 have X0:=(Box2.new w g (aD a l c) 29).after (cQ _ (.cells #[] 3));go_enter func67,ntmps67;go_wp2_with fail;refine aV (eA g l _ _ (hv.below X0.B aU)) ?_;intro w1 a9;have X1:=X0.after a9;have o1:=o0.keep a9;clear X0 o0 a9;obtain⟨d0,d1,B1,z1⟩:=X1
 cases hf:cO g l with
 |false=>
  have hx:kB g l=none:=by unfold kB;rw[hf];rfl
  have F:iH g l=false:=by unfold iH;rw[hx];rfl
  have I:fC g l=[]:=by unfold fC;rw[hx];rfl
  have HB:=aT F;have HL:=aT I;clear hx F I hc;go_wp2;go_ret2;exact⟨_,_,_,by rw[HB.out];rfl,by rw[HL.out];exact o1.mono (Nat.le_succ _),B1⟩
 |true=>
  obtain⟨h0,h6,_,_⟩:=fF hf;have hm:=fS hf;have hp:=nY h0 h6;have j0:=(dW g.toNat 6 aA).2;have HM:=aT hm;clear hm;go_wp2_with (go_at_call 78;refine aV (I6 g _ h0 aA) ?_;rintro w' rfl);go_loopw [4,5] (fun out lf wr=>∃(ad:Option Addr) (nn cp:Nat) (J:aI) (z:Int) (n:Nat),out=aD ad nn cp/\lf=aO z/\0<=z/\z<2^g.toNat/\z<=n/\J.length<=64-n/\n<=64 /\
    fL l 64 (2^g.toNat-1)=(fL l n z).map (J++·)/\bB 3 (w.heap.size+1) wr (aD ad nn cp) J/\Box2 w wr g (aD a l c))
   (fun _ lf _=>(intOf lf).toNat)
  .exact⟨_,_,_,[],_,64,rfl,rfl,aA,aA,aA,bF,aA,bF,o1,⟨d0,d1,B1,z1⟩⟩
  obtain⟨ad,nn,cp,J,z,n,rfl,rfl,K,h5,h7,g8,f5,a6,ho,X⟩:=hrel;have HR:=aT a6;have HO:=aT ho;clear a6 ho d0 d1 o1;obtain⟨d0,d1,B5,z5⟩:=X;by_cases h8:0<z
  .have b7:=bY hc hb B5 aU;have g9:=MS l z HM.out;go_wp2_with fail;go_loop [6,7] (fun m i=>∃k:Nat,k<=l.length/\i=aO k/\m=aO ((l.take k).foldl (jG z) 0)) (fun _ i=>l.length-(intOf i).toNat)
   .exact⟨0,aZ _,rfl,rfl⟩
   obtain⟨k,hk,rfl,rfl⟩:=hrel;have R:0<=(l.take k).foldl (jG z) 0/\(l.take k).foldl (jG z) 0<64:=by
    rcases IC z (l.take k) 0 with h1|h1
    .rw[h1];omega
    .exact HM.out _ (List.mem_of_mem_take h1)
   obtain⟨m,b1⟩:=aW ((l.take k).foldl (jG z) 0);rw[<-b1]at R |-;have a7:=aT b1;clear b1;have g6:=fV R.1 (show m<4611686018427387904 from aA) K aA;have g7:=fV K (show z<4611686018427387904 from aA) R.1 aA;have i1:=mW m z 64 R.1 R.2;by_cases hlt:k<l.length
   .have b0:=HM.out _ (aX hlt);have g5:=fV b0.1 (show l[k]<4611686018427387904 from aA) K aA;have h9:=mW l[k] z 64 b0.1 b0.2;by_cases e6:eO (cU m z)<eO (cU l[k] z)
    .go_wp2_with (go_at_call 84;refine aV (tT _ _ aA aA) ?_;rintro w' rfl)
     go_round
     .exact⟨k+1,aA,cD,by rw[A0 _ _ _ _ hlt,<-a7.out,jG,if_pos e6]⟩
     exact aY
    .go_wp2_with (go_at_call 84;refine aV (tT _ _ aA aA) ?_;rintro w' rfl)
     go_round
     .exact⟨k+1,aA,cD,by rw[A0 _ _ _ _ hlt,<-a7.out,jG,if_neg aA]⟩
     exact aY
   .have a1:m=jB l z:=by rw[a7.out];unfold jB;rw[OU _ _ _ _ aA]
    have O:=aT a1;have i6:=mW z m 64 K aA;clear a1 b7;by_cases M:cU m z=0
    .have ht:(cU m z==0)=true:=by simp[M]
     have D:kB g l=none:=by
      unfold kB;rw[if_pos hf,HR.out]
      cases n with
      |zero=>omega
      |succ n=>rw[fL,if_neg aA,if_pos (by rw[<-O.out];exact M)];rfl
     have F:iH g l=false:=by unfold iH;rw[D];rfl
     have I:fC g l=[]:=by unfold fC;rw[D];rfl
     have HB:=aT F;have HL:=aT I;have o9:=bB.lit0 (E:=3) (B:=wr.heap.size) wr aU;clear D F I M;go_wp2;go_ret2;exact⟨_,_,_,by rw[HB.out];rfl,by rw[HL.out];exact o9.mono B5.size,B5.alloc B5.size _⟩
    .have ht:(cU m z==0)=false:=by simp[M]
     have b6:=aT M;clear M;go_wp2_with (at_builtin;refine eF rfl _ _ _ rfl 3 underlying25 intElem (w.heap.size+1) _ _ m wr.heap.size rfl rfl bF (HO.out.alloc _) ⟨aA,aA⟩ aA bO ?_;intro v' w6 S b9;obtain⟨av,nv,cv,rfl⟩:=S.shape3);have X6:=((Box2.mk d0 d1 B5 z5).after (cQ _ (.cells #[m] 3))).grow b9 (fun k hk=>by have:=(HO.out.lt k hk).1;omega);have HW:=aT S;have Z:z-cU z m=dQ z m:=O3 K;have N:=aT Z;have f3:dQ z m<z:=by rw[O.out];exact adQ K (by rw[<-O.out];exact b6.out)
     have c5:0<=dQ z m:=by unfold dQ;omega
     clear S b9 Z;go_wp2;go_roundw
     .obtain⟨n',rfl⟩:∃n',n=n'+1:=⟨n-1,aA⟩;refine⟨_,_,_,J++[m],z-cU z m,n',rfl,rfl,by rw[N.out];exact c5,by rw[N.out];omega,by rw[N.out];omega,bO,aA,?_,HW.out,X6⟩;rw[HR.out,fL,if_neg aA,if_neg (by rw[<-O.out];exact b6.out),<-O.out,N.out]
      cases fL l n' (dQ z m)<;>simp
     have:=N.out;simp only[intOf];omega
  .have Y:z=0:=aA
   have D:kB g l=some J:=by
    unfold kB;rw[if_pos hf,HR.out,Y]
    cases n<;>simp[fL]
   have F:iH g l=true:=by unfold iH;rw[D];rfl
   have I:fC g l=J:=by unfold fC;rw[D];rfl
   have HB:=aT F;have HL:=aT I;clear Y D F I;go_wp2;go_ret2;exact⟨ad,nn,cp,by rw[HB.out];rfl,by rw[HL.out];exact HO.out.mono (Nat.le_succ _),B5⟩
theorem arT:∀n z L,fL l n z=some L->L.length<=n:=by
 intro n
 induction n with
 |zero=>
  intro z L h;simp only[fL]at h
  split at h
  .simp at h;subst h;simp
  .cases h
 |succ n ih=>
  intro z L h;simp only[fL]at h
  split at h
  .simp at h;subst h;simp
  .split at h
   .cases h
   .cases hr:fL l n (dQ z (jB l z)) with
    |none=>rw[hr]at h;cases h
    |some L'=>rw[hr]at h;simp at h;subst h;have:=ih _ _ hr;simp;omega
def iT(F:Nat->Int)(k:Nat):List Int:=(List.range k).map F
theorem I9(F:Nat->Int)(k:Nat):iT F (k+1)=iT F k++[F k]:=by unfold iT;rw[List.range_succ,List.map_append];rfl
theorem apM{p:Prop}(h:p:=by
  have b7:(2:Nat)^n<=32:=bQ bZ hn;have b6:=dJ n;have S:((2^n:Nat):Int)=(2:Int)^n:=bF;obtain⟨N,hN⟩:∃N:Nat,N=2^n:=⟨_,rfl⟩;rw[<-hN]at hw hF b7 b6 S |-;clear hN;have r0:=(BoxAt.new w (aO 0) (aD none 0 0) 27);have r1:=r0.keep (cQ _ (.cells #[n,()] 27));have b1:=BoxAt.new (w.alloc (.cells #[aK,()] 27)) (aO n) (aD none 0 0) 27;go_enter func337,ntmps337;go_wp2_with fail;go_loopw [13] (fun i wr=>∃(k:Nat) (ad:Option Addr) (nn D:Nat),k<=N/\i=aO k/\bB 3 (w.heap.size+1+1) wr (aD ad nn D) (iT F k)/\Below w w wr /\
    BoxAt wr w.heap.size (aO 0) (aD none 0 0)/\BoxAt wr (w.heap.size+1) (aO n) (aD ad nn D))
   (fun i _=>N-(intOf i).toNat)
  .exact⟨0,none,0,0,aZ _,rfl,bB.nil _ _ _,rB,r1,by simpa using b1⟩
  obtain⟨k,ad,nn,D,hk,rfl,Y,B,R,X⟩:=hrel;clear r0 r1 b1;by_cases hlt:k<N
  .have Z:(k:Int)<2^n:=by rw[<-S];exact_mod_cast hlt
   have zr:=R.lt;have zx:=X.lt;have b4:=hF k hlt;have e5:(iT F k).length=k:=by simp[iT]
   have g5:(iT F k).length<=64:=aA;have I:=Y.lt;have HO:=aT Y;have HR:=aT R;have M:=aT X;obtain⟨e0,e1,g0,g1⟩:=X;clear Y R;have hcl:=hw k wr.drew hlt B.drew;clear hw;go_wp2;go_region_law
     (first
      |(go_simp;go_at_fn c;refine aV hcl ?_;intro J z;have X2:=M.out.keep ((bJ _ _).drew.after z aU);have X3:=X2.keep (cQ J (.cells #[(F k)] 3));have g9:=X2.lt;have x1:=X2.d1;have x2:=X2.f1;have x3:=X3.d1;have x4:=X3.f1)
      |(refine MG rfl _ _ _ rfl 3 underlying25 intElem (w.heap.size+1+1) _ _ (F k) J.heap.size rfl rfl (cR J #[(F k)] 3 0 _ rfl) ((HO.out.keep ((bJ _ _).drew.after z aU)).alloc (.cells #[(F k)] 3)) b4 aA bO ?_;intro v' w6 K O;obtain⟨av,nv,cv,rfl⟩:=K.shape3;have X6:=X3.grow O (fun e=>by have:=(I _ e).1;omega);obtain⟨i0,i1,j0,j1⟩:=X6))
   all_goals
    have B6:Below w w w6:=(((B.drew).after z B.size).alloc (B.drew.after z B.size).size (.cells #[(F k)] 3)).grown O bO (fun q hq=>by have:=(I q hq).1;omega);have R6:=((HR.out.keep ((bJ _ _).drew.after z aU)).keep (cQ J (.cells #[(F k)] 3))).grow O (fun e=>by have:=(I _ e).1;omega);go_wp2;go_roundw
    .exact⟨k+1,av,nv,cv,aA,cD,by rw[I9];exact K.setBelow cK _,B6.setCell cK _,R6.other aA _,(BoxAt.mk i0 i1 j0 j1).set1 _⟩
    exact aY
  .have Z:¬(k:Int)<2^n:=by rw[<-S];exact_mod_cast hlt
   have b5:k=N:=aA;subst b5;have HO:=aT Y;have HR:=aT R;have M:=aT X;obtain⟨e0,e1,g0,g1⟩:=X;have hi:=Y.ints;clear Y hw R;go_wp2_with fail;refine aV (fO n _ _ _ hi) ?_;intro J z;have B2:=B.after z B.size;have o2:=HO.out.keep z;have a8:=aT o2;obtain⟨f0,f1,j0,j1⟩:=HR.out.keep z;obtain⟨i0,i1,q0,q1⟩:=M.out.keep z;clear e0 e1 g0 g1 z B o2 hi
   cases hf:cS n (iT F k) with
   |false=>
     have HF:=aT hf;go_wp2
     all_goals refine bW (v:=aS #[aM #[aK,()],aG false]) (by simp[results,results337,go_sem,f0,f1]) rfl ⟨none,0,0,rfl,bB.nil _ _ _,bX (bX B2 aU _) aU _⟩
   |true=>
     have HF:=aT hf;go_wp2;refine bW (v:=aS #[aM #[n,aD ad nn D],aG true]) (by simp[results,results337,go_sem,f0,f1]) rfl ⟨ad,nn,D,rfl,?_,?_⟩
     .exact((a8.out.setBelow cK _).setBelow cK _).mono cK
     .exact bX (bX B2 aU _) aU _):p:=h
theorem O8(n:Nat)(hn:n<=5)(c:FuncId)(he:∀args w,(callFunc c args).run prog w=.ok (.enter c args) w)(g:Nat)(F:Nat->Int)(hF:∀s,s<2^n->fM (F s))
  (hw:∀(s:Nat) W',s<2^n->Below w w W'->Calls prog c #[(s:Int),aP (some ⟨g,0,none⟩)] W' fun e J=>e=aQ (F s)/\Below W' W' J):
  Calls prog 337 #[(n:Int),.func (.func c) #[] #[aP (some ⟨g,0,none⟩)]] w fun e w'=>
   ∃ad i D,e=aQ (aS #[aM #[aO (if cS n (iT F (2^n)) then (n:Int) else 0),aD ad i D],aG (cS n (iT F (2^n)))])/\bB 3 w w' (aD ad i D) (if cS n (iT F (2^n)) then iT F (2^n) else [])/\Below w w w':=by
 exact apM
end
section
open Go.RowKit Go.G5 Go.Proofs.Tryz
end
section
open Go.RowKit Go.G5 Go.Proofs.Tryz
variable(w:World)(n:Int)(v:Value)(l:aI)
def kQ(l:List Int)(s:Nat):Nat->Int
 |0=>0
 |k+1=>if dY k s=0 then (if dG (dY s k)%2=1 then kQ l s k-l.getD k 0 else kQ l s k+l.getD k 0) else kQ l s k
def lN(l:List Int):List Int:=(List.range l.length).map fun s=>kQ l s (s+1)
def iN(n:Int)(l:List Int):List Int:=if cS n l then lN l else []
theorem VC(s:Nat)(h:∀k,(hk:k<l.length)->-1000<=l[k]/\l[k]<=1000)(k:Nat)(hk:k<=l.length):-1000*(k:Int)<=kQ l s k/\kQ l s k<=1000*(k:Int):=by
 induction k with
 |zero=>simp[kQ]
 |succ k ih=>
  have h1:=ih aA;have h2:=h k aA;rw[kQ,bR,cG (show k<l.length from aA),Option.getD_some]
  split
  .split<;>omega
  .omega
theorem oW:(lN l).length=l.length:=by simp[lN]
theorem Q9(s:Nat)(h:s<(lN l).length):(lN l)[s]=kQ l s (s+1):=by simp[lN]
theorem ao4(s n:Nat)(h:s<n)(hl:s<=l):(l.take s++List.replicate (n-s) (0:Int)).set s 0=l.take s++List.replicate (n-s) 0:=by
 rw[show n-s=(n-s-1)+1 from aA,List.replicate_succ];have e:(l.take s).length=s:=bO;rw[List.set_append_right _ _ aA,e];simp
theorem ak7(s:Nat)(h:s<l):((lN l).take s++List.replicate (l.length-s) (0:Int)).set s (kQ l s (s+1))=(lN l).take (s+1)++List.replicate (l.length-(s+1)) 0:=by
 have:=UY (lN l) s (by rw[oW];exact h);simp only[Q9,oW]at this;exact this
theorem VD(hv:Ints w v l)(_:l.length<=1048576):
  Calls prog 181 #[aM #[n,v]] w fun e w'=>∃ad i cp,e=aQ (aD ad i cp)/\bB 3 w w' (aD ad i cp) (iN n l)/\Below w w w':=by
 obtain⟨a,b,g5,c,rfl,e6,f8,hc,hb⟩:=hv.vw;go_enter func181,ntmps181;go_wp2_with fail;refine aV (fO n l _ _ (hv.alloc _)) ?_;intro w1 a6;have X1:=(Box2.new w n (aD a l c) 27).after a6;clear a6
 cases hf:cS n l with
 |false=>
  have hx:iN n l=[]:=by unfold iN;rw[hf];rfl
  have HX:=aT hx;obtain⟨N,d1,B1,z1⟩:=X1;clear hx;go_wp2;go_ret;exact⟨none,0,0,rfl,by rw[HX.out];exact bB.nil _ _ _,B1⟩
 |true=>
  obtain⟨h0,h5,hl,a7⟩:=nE hf;have hp:=nX h0 h5;have e5:l.length<=32:=aA;have hx:iN n l=lN l:=by unfold iN;rw[hf];rfl
  have HX:=aT hx;have a1:=aT a7;clear hx hl a7 hp;have g4:=X1.z;obtain⟨N,d1,B1,z1⟩:=X1;go_wp2_with (at_make;refine nP rfl _ _ _ rfl 3 underlying25 intElem l.length _ _ rfl rfl rfl rfl aA ?_;intro w2 R hg);have X2:=(Box2.mk N d1 B1 z1).grow hg bF;have f7:=hg.size;clear hg N d1;go_loopw [15] (fun i wr=>∃s:Nat,s<=l/\i=aO s/\bB 3 w1 wr (aD (some ⟨w1,0,none⟩) l l.length) ((lN l).take s++List.replicate (l.length-s) 0)/\Box2 w wr n (aD a l c))
   (fun i _=>l.length-(intOf i).toNat)
  .exact⟨0,aZ _,rfl,by simpa using R,X2⟩
  obtain⟨s,hs,rfl,I,X⟩:=hrel;clear R X2;by_cases hlt:s<l
  .go_wp2_with fail
   go_loopw [20] (fun i b1=>∃k:Nat,k<=s+1/\i=aO k/\bB 3 w1 b1 (aD (some ⟨w1,0,none⟩) l l.length) (((lN l).take s++List.replicate (l.length-s) 0).set s (kQ l s k))/\Box2 w b1 n (aD a l c))
    (fun i _=>s+1-(intOf i).toNat)
   .exact⟨0,aZ _,rfl,by rw[kQ,ao4 _ _ _ hlt (by rw[oW];omega)];exact I,X⟩
   obtain⟨k,hk,rfl,I,X⟩:=hrel;have S:=X.B;have Y:=bY hc hb S aU;obtain⟨N,d1,_,z2⟩:=X;have b9:=VC l s a1.out k aA;obtain⟨m,hm⟩:=aW (kQ l s k);rw[<-hm]at b9 I;have F:l.length=(((lN l).take s++List.replicate (l.length-s) 0).set s m).length:=by simp[oW];omega
   have HM:=aT hm;clear hm;by_cases f9:k<s+1
   .have Z:k<l:=aA;have g0:=a1.out k Z;have e4:=Y k Z;have f3:=AK k s aA aA;have f4:=AK s k aA aA;have hd:=zS s k 64 aA;have e7:=xC (dY s k) aA;have M:kQ l s (k+1)=if dY k s=0 then (if dG (dY s k)%2=1 then m-l[k] else m+l[k]) else m:=by rw[kQ,<-HM.out,bR,cG Z,Option.getD_some]
    have HS:=aT M;have f5:wr.cell? ⟨w1,s,none⟩=some (aO m):=by have:=I.cellAt F s aA;rw[this];simp
    have f6:=I.frozenAt F s;clear Y M;by_cases hz:dY k s=0
    .have ht:(((dY k s:Nat):Int) != 0)=false:=by simp[hz]
     have HZ:=aT hz;clear hz;by_cases J:dG (dY s k)%2=1
     .have c7:(((dG (dY s k):Nat):Int)%2==1)=true:=bO;have D:=I.stored F s (m-l[k]) ⟨aA,aA⟩;rw[List.set_set]at D;have K:=aT D;have HD:=aT J;clear D I F J;go_wp2_with (go_at_call 214;refine aV (jF _ _ aA) ?_;rintro w' rfl);go_still_tail 11,bM;go_wp2;go_roundw
      .exact⟨k+1,aA,cD,by rw[HS.out,if_pos HZ.out,if_pos HD.out];exact K.out.1.drewN 1,((Box2.mk N d1 S z2).grow K.out.2 bO).drewN 1⟩
      exact aY
     .have c7:(((dG (dY s k):Nat):Int)%2==1)=false:=bO;have D:=I.stored F s (m+l[k]) ⟨aA,aA⟩;rw[List.set_set]at D;have K:=aT D;have HD:=aT J;clear D I F J;go_wp2_with (go_at_call 214;refine aV (jF _ _ aA) ?_;rintro w' rfl);go_still_tail 11,bM;go_wp2;go_roundw
      .exact⟨k+1,aA,cD,by rw[HS.out,if_pos HZ.out,if_neg HD.out];exact K.out.1.drewN 1,((Box2.mk N d1 S z2).grow K.out.2 bO).drewN 1⟩
      exact aY
    .have ht:(((dY k s:Nat):Int) != 0)=true:=bO;have HZ:=aT hz;have K:=aT I;clear hz I F;go_wp2;go_roundw
     .exact⟨k+1,aA,cD,by rw[HS.out,if_neg HZ.out];exact K.out,⟨N,d1,S,z2⟩⟩
     exact aY
   .have O:k=s+1:=aA;have D:bB 3 w1 wr (aD (some ⟨w1,0,none⟩) l l.length) ((lN l).take (s+1)++List.replicate (l.length-(s+1)) 0):=by rw[<-ak7 l s hlt,<-O,<-HM.out];exact I
    have K:=aT D;clear D I F Y O;go_wp2;go_roundw
    .exact⟨s+1,aA,cD,K.out,⟨N,d1,S,z2⟩⟩
    exact aY
  .have a8:s=l.length:=aA;have D:bB 3 w1 wr (aD (some ⟨w1,0,none⟩) l l.length) (lN l):=by have:=I;rw[a8,List.take_of_length_le (by rw[oW];exact aU)]at this;simpa using this
   obtain⟨N,d1,S,z2⟩:=X;have K:=aT D;clear D I a8;go_wp2;go_ret;exact⟨_,_,_,rfl,by rw[HX.out];exact K.out.mono B1.size,S⟩
theorem RD(a b:Nat):dY a b=0↔a &&& b=a:=by
 have:=@Nat.and_le_left a b;unfold dY;omega
theorem alF(a b:Nat)(h:b &&& a=b):dY a b=a-b:=by unfold dY;rw[Nat.and_comm,h]
theorem acM(s:Nat)(h:s<l):(lN l).take (s+1)=(lN l).take s++[kQ l s (s+1)]:=by
 rw[cH (by rw[oW];exact h),Q9]
theorem ak8(hv:Ints w v l)(_:l.length<=1048576):
  Calls prog 40 #[aM #[n,v]] w fun e w'=>∃ad i O,e=aQ (aD ad i O)/\bB 3 w w' (aD ad i O) (iN n l)/\Below w w w':=by
 obtain⟨a,b,i8,c,rfl,f8,h9,hc,hb⟩:=hv.vw;have X0:=Box2.new w n (aD a l c) 27;have o0:bB 3 (w.heap.size+1) ((w.alloc (.cells #[n,aD a l c] 27)).alloc (.cells #[] 3)) (aD (some ⟨w+1,0,none⟩) 0 0) []:=by have:=bB.lit0 (E:=3) (B:=w.heap.size+1) (w.alloc (.cells #[n,aD a l c] 27)) bF;simpa using this
 have X1:=X0.after (cQ _ (.cells #[] 3));have c8:=aT o0;have e6:=aT X1;clear o0 X0 X1;go_enter func40,ntmps40;go_wp2;go_loopw [3,4] (fun out i wr=>∃(s:Nat) (ad:Option Addr) (nn O:Nat),s<=l/\i=aO s/\out=aD ad nn O/\(0<s->cS n l=true)/\bB 3 (w.heap.size+1) wr (aD ad nn O) ((lN l).take s)/\Box2 w wr n (aD a l c))
  (fun _ i _=>l.length-(intOf i).toNat)
 .exact⟨0,_,_,_,aZ _,rfl,rfl,fun h=>aA,c8.out,e6.out⟩
 obtain⟨s,ad,nn,O,hs,rfl,rfl,M,ho,X⟩:=hrel;have HF:=aT M;clear M;have HO:=aT ho;clear ho;obtain⟨d0,d1,K,z1⟩:=X;go_wp2_with fail;refine aV (fD n l _ _ (hv.below K aU)) ?_;intro w2 R;have X2:=(Box2.mk d0 d1 K z1).after R;have b3:=HO.out.keep R;have J:=aT b3;clear R d0 d1 K z1 HO b3;obtain⟨d0,d1,K,z1⟩:=X2
 cases hf:cS n l with
 |false=>
  have e8:s=0:=by
   by_cases h:0<s
   .have:=HF.out h;rw[hf]at this;cases this
   .omega
  have hx:iN n l=[]:=by unfold iN;rw[hf];rfl
  have HX:=aT hx;clear hx;go_wp2;go_ret;exact⟨_,_,_,rfl,by rw[HX.out];have:=J.out;rw[e8]at this;exact(by simpa using this:bB _ _ _ _ []).mono (Nat.le_succ _),K⟩
 |true=>
  obtain⟨h0,h5,hl,a9⟩:=nE hf;have hp:=nX h0 h5;have f7:l.length<=32:=aA;have hx:iN n l=lN l:=by unfold iN;rw[hf];rfl
  have HX:=aT hx;have a1:=aT a9;have a6:=bY hc hb K aU;clear hx hl a9 hp;by_cases hlt:s<l
  .go_wp2_with fail
   go_loop [5,6] (fun m t=>∃k:Nat,k<=s+1/\t=aO k/\m=aO (kQ l s k)) (fun _ t=>s+1-(intOf t).toNat)
   .exact⟨0,aZ _,rfl,rfl⟩
   obtain⟨k,hk,rfl,rfl⟩:=hrel;have e7:=VC l s a1.out k aA;obtain⟨m,hm⟩:=aW (kQ l s k);rw[<-hm]at e7 |-;have HM:=aT hm;clear hm;by_cases i1:k<s+1
   .have S:k<l.length:=aA;have i6:=a1.out k S;have f6:=a6 k S;have I:kQ l s (k+1)=if dY k s=0 then (if dG (dY s k)%2=1 then m-l[k] else m+l[k]) else m:=by rw[kQ,<-HM.out,bR,cG S,Option.getD_some]
    have HS:=aT I;have hA:=PS k s aA aA;clear I;by_cases Z:k &&& s=k
    .have ht:(((k &&& s:Nat):Int) != (k:Int))=false:=by simp[Z]
     have F:dY k s=0:=(RD k s).2 Z;have b1:dY s k=s-k:=alF s k Z;have g2:=zP ((s:Int)-k) aA;have b5:eO ((s:Int)-k)=(dG (dY s k):Int):=by rw[b1];unfold eO;rw[show((s:Int)-k).toNat=s-k from aA]
     have HZ:=aT F;have HP:=aT b5;clear Z F b1 b5;by_cases z:dG (dY s k)%2=1
     .have e9:(eO ((s:Int)-k)%2==1)=true:=by rw[HP.out];simp;omega
      have HD:=aT z;clear z;go_wp2_with (go_at_call 84;refine aV (tT _ _ aA aA) ?_;rintro w' rfl);go_round
      .exact⟨k+1,aA,cD,by rw[HS.out,if_pos HZ.out,if_pos HD.out]⟩
      exact aY
     .have e9:(eO ((s:Int)-k)%2==1)=false:=by rw[HP.out];simp;omega
      have HD:=aT z;clear z;go_wp2_with (go_at_call 84;refine aV (tT _ _ aA aA) ?_;rintro w' rfl);go_round
      .exact⟨k+1,aA,cD,by rw[HS.out,if_pos HZ.out,if_neg HD.out]⟩
      exact aY
    .have ht:(((k &&& s:Nat):Int) != (k:Int))=true:=bO;have F:¬dY k s=0:=fun h=>Z ((RD k s).1 h);have HZ:=aT F;clear Z F;go_wp2;go_round
     .exact⟨k+1,aA,cD,by rw[HS.out,if_neg HZ.out]⟩
     exact aY
   .have N:k=s+1:=aA;have b0:m=kQ l s (s+1):=by rw[HM.out,N]
    have c7:=aT b0;clear N b0 a6;have Y:(kQ l s (s+1))=m:=c7.out.symm;have e4:=aT Y;clear Y;go_wp2_with (at_builtin;refine eF rfl _ _ _ rfl 3 underlying25 intElem (w.heap.size+1) _ _ m w2.heap.size rfl rfl bF (J.out.alloc _) ⟨aA,aA⟩ (by simp[oW];omega) bO ?_;intro v' w3 D a8;obtain⟨av,nv,cv,rfl⟩:=D.shape3);have f9:l.length<=1048576:=aA;have X3:=((Box2.mk d0 d1 K z1).after (cQ _ (.cells #[m] 3))).grow a8 (fun k hk=>by have:=(J.out.lt k hk).1;omega);rw[<-e4.out,<-acM l s hlt]at D;have HW:=aT D;clear D a8;go_wp2;go_roundw
    .exact⟨s+1,_,_,_,aA,cD,rfl,fun _=>hf,HW.out,X3⟩
    exact aY
  .have Y:s=l.length:=aA;have b4:bB 3 (w.heap.size+1) w2 (aD ad nn O) (lN l):=by have:=J.out;rw[List.take_of_length_le (by rw[oW];omega)]at this;exact this
   have c9:=aT b4;clear b4;go_wp2;go_ret;exact⟨_,_,_,rfl,by rw[HX.out];exact c9.out.mono (Nat.le_succ _),K⟩
