/- Lemmas for CardConsoleResults. No condition. -/
import Derived.Test.YtkdbkjjacgigiaaGreatDoorQ12
import Derived.Test.YtkdbkjjacgigiaaGreatDoorQ13
import Derived.Test.YtkdbkjjacgigiaaGreatDoorQ28
set_option maxRecDepth 100000
set_option maxHeartbeats 64000000
section
namespace Go.G5
open Go Go.RowKit
theorem QU{P:Program}{w:World}{t u z e D:TypeId}(ht:P.underlying t=some (.slice e))(F:P.underlying u=some (.slice D))(s x:Value):
  (Builtin.append_ #[t,u] z #[s,x]).run P w=(Builtin.append_ #[t,t] z #[s,x]).run P w:=by
 unfold Builtin.append_
 cases s with
 |slice b n c=>simp[run_underlying ht,run_underlying F]
 |_=>simp[run_underlying ht]
theorem PD{P:Program}{w:World}{ops:Array Oper}{rest:List Oper}{o:Oper}{a:Act}{Q:Exit->Act->World->Prop}(I:o.guard=none)(s x:Operand)(t u:TypeId)
  (ho:o.op=.call { callee:=.builtin .append,args:=#[s,x],argTypes:=#[t,u] })
  (E E':TypeId) (ht:P.underlying t=some (.slice E)) (Y:P.underlying u=some (.slice E')) (hE:StrElem P E) (B:Nat) (v:Value) (l z:List ByteArray) (b m c:Nat) (hs:a.eval s=v) (hx:a.eval x=aA (some ⟨b,0,none⟩) m c) (hm:m=z.length)
  (hy:∀(j:Nat) y,z[j]?=some y->w.cell? ⟨b,0+j,none⟩=some (.string y))
  (D:dK E B w v l) (R:l.length+z.length<1000000) (hB:B<=w.heap.size)
  (h:∀F w',dK E B w' F (l++z)->w.grownBy w' v.ownBlock->(F.ownBlock=v.ownBlock∨F.ownBlock=some w.heap.size)->wpList P ops Q rest (a.put o.dst F) w'):wpList P ops Q (o::rest) a w:=by
 obtain⟨i,hi,hz,h1,Z⟩:=hE.get;subst hm;have M:∀j u,(z.map Value.string)[j]?=some u->w.cell? ((⟨b,0,none⟩:Addr).add j)=some u:=by intro j u J;rw[List.getElem?_map]at J;exact ahN
 have S:∀u∈z.map Value.string,u.oneCell'=true:=by
  intro u Y;obtain⟨y,_,rfl⟩:=List.mem_map.1 Y
  rfl
 obtain⟨F,w',hr,h2,h3,_,h5⟩:=run_append_own_at (P:=P) w B t o.type E i (.string ByteArray.empty) 1 16 ht hi hz h1 Z rfl aQ v l.length (l.map Value.string) D ⟨b,0,none⟩ z.length c (z.map Value.string) (by simp) M S (by unfold maxLen;omega) aD hB;refine wpList_plain I fun K hK=>?_;unfold Oper.wp execOp;simp only[ho,resolve,invoke,builtin,Sem.run_bind,Sem.run_pure,Result.andThen_ok,List.map_toArray,List.map_cons,List.map_nil,hs,hx,QU ht Y,hr];exact hK _ _ (h F w' (by simpa[dK]using h2) h3 h5)
end Go.G5
namespace Go.Proofs.YtkdbkjjacgigiaaGreatDoor
open Go.RowKit Go.G5 Go.Proofs.Tryz
def gI(z:Nat)(w:World)(D:List ByteArray):Prop:=∃v,aP w z 143 #[v]/\dK 9 (z+1) w v D
theorem gI.keep{z:Nat}{w w':World}{D:List ByteArray}(h:gI z w D)(hb:Below w w w'):gI z w' D:=by
 obtain⟨v,k,o⟩:=h;exact⟨v,k.keep hb,o.keep hb⟩
theorem gI.lt{z:Nat}{w:World}{D:List ByteArray}(h:gI z w D):z<w.heap.size:=by
 obtain⟨v,k,o⟩:=h;exact k.lt
theorem gI.new(w:World):gI w.heap.size (w.alloc (.cells #[()] 143)) []:=⟨_,aP.new _ _ _,dK.nil _ _ _⟩
theorem cB{z g:Nat}{w w':World}{t:TypeId}{cs:Array Value}(h:aP w g t cs)(hb:Below z w w')(D:g<z):aP w' g t cs:=(hb.block g D).trans h
theorem dK.growIn{w w':World}{P:Nat->Prop}{E:TypeId}{B:Nat}{v:Value}{l:List ByteArray}(h:dK E B w v l)(J:GrownIn w w' P)(K:∀k,v.ownBlock=some k->¬P k):dK E B w' v l:=by
 obtain⟨I,h1⟩:=h;refine⟨I,?_⟩;rcases h1 with h1|⟨g,cap,D,rfl,F,z,r⟩
 ·exact .inl h1
 ·exact .inr ⟨g,cap,D,rfl,F,by rw[J.block g (by have:=(Array.getElem?_eq_some_iff.1 z).1;omega) (K g rfl)];exact z,r⟩
theorem SF(z:Nat)(v:Value)(M I:List ByteArray)(b m c:Nat)(w:World)(K:aP w z 143 #[v])(Y:dK 9 (z+1) w v M)(hm:m=I.length)
  (hy:∀(j:Nat) y,I[j]?=some y->w.cell? ⟨b,0+j,none⟩=some (.string y)) (J:M.length+I.length<1000000):
  Calls prog 177 #[.pointer (some ⟨z,0,none⟩),aA (some ⟨b,0,none⟩) m c] w fun e w'=>e=.returned (.tuple #[])/\∃v',aP w' z 143 #[v']/\dK 9 (z+1) w' v' (M++I) /\
   (∀k,v'.ownBlock=some k->v.ownBlock=some k∨w.heap.size<=k)/\GrownIn w w' (fun k=>k=z∨v.ownBlock=some k):=by
 obtain⟨a,n,cp,rfl⟩:=Y.shape3;have zo:=K.lt;have hlt:=Y.lt;have G:=K.cell;have F:=K.frozen;go_enter func177,ntmps177;go_wp2_with (at_builtin;refine PD rfl _ _ _ _ rfl 9 9 underlying143 underlying52 zZ (z+1) (aA a n cp) M I b m c rfl rfl hm hy Y J aD ?_;intro v7 w7 Z g7 h7;obtain⟨O,N,R,rfl⟩:=Z.shape3;have S:=K.grow g7 (by intro e;have:=(hlt _ e).1;omega);have G7:=S.cell;have F7:=S.frozen);refine bN ?_;intro Wf D;have KF:aP Wf z 143 #[aA O N R]:=by rw[D];have:=S.set 0 (aA O N R);simpa using this
 have gF:w7.grownBy Wf (some z):=by rw[D];exact bQ (World.grownBy.refl _ _) 0 _
 have lt7:=Z.lt;have oF:dK 9 (z+1) Wf (aA O N R) (M++I):=Z.grown gF (by
  by_cases h:(Value.slice O N R).ownBlock=some z
  ·have:=(lt7 _ h).1;omega
  ·exact .inr h)
 have hG:GrownIn w Wf (fun k=>k=z∨(Value.slice a n cp).ownBlock=some k):=(GrownIn.of_row g7 (fun k hk=>.inr hk)).trans (GrownIn.of_row gF (fun k hk=>.inl (Option.some.inj hk).symm));clear D G7 F7 G F;exact bodyPost_end (v:=.tuple #[]) (results_none rfl _ _ _) rfl ⟨rfl,_,KF,oF,fun k hk=>by
  rcases h7 with h|h
  ·exact .inl (h▸hk)
  ·rw[h]at hk;exact .inr (by have:=Option.some.inj hk;omega),hG⟩
theorem SG{z:Nat}{v:Value}{F I:List ByteArray}{w w':World}(K:aP w z 143 #[v])(J:dK 9 (z+1) w v F)
  (h:∃D,aP w' z 143 #[D]/\dK 9 (z+1) w' D (F++I)/\(∀k,D.ownBlock=some k->v.ownBlock=some k∨w.heap.size<=k)/\GrownIn w w' (fun k=>k=z∨v.ownBlock=some k)):gI z w' (F++I)/\Below z w w':=by
 obtain⟨D,k,o,_,g⟩:=h;have M:=K.lt;exact⟨⟨D,k,o⟩,Below.growIn (Below.refl z w) g aD (by
  rintro q (h|h)
  ·omega
  ·have:=(J.lt q h).1;omega)⟩
theorem dF(z:Nat)(I F:List ByteArray)(b m c:Nat)(w:World)(L:gI z w I)(hm:m=F.length)
  (N:∀(j:Nat) y,F[j]?=some y->w.cell? ⟨b,0+j,none⟩=some (.string y)) (D:I.length+F.length<1000000):
  Calls prog 177 #[.pointer (some ⟨z,0,none⟩),aA (some ⟨b,0,none⟩) m c] w fun e w'=>e=.returned (.tuple #[])/\gI z w' (I++F)/\Below z w w':=by
 obtain⟨v,K,J⟩:=L;exact(SF z v I F b m c w K J hm N D).mono fun e w' ⟨M,h⟩=>⟨M,SG K J h⟩
theorem fF{w:World}{b:Nat}{x y:ByteArray}(F:w.cell? ⟨b,0,none⟩=some (.string x))(h1:w.cell? ⟨b,1,none⟩=some (.string y)):∀(j:Nat) z,[x,y][j]?=some z->w.cell? ⟨b,0+j,none⟩=some (.string z):=by
 intro j z D
 match j,D with
 |0,D=>cases D;exact F
 |1,D=>cases D;exact h1
theorem BJ{w:World}{b:Nat}{x:ByteArray}(F:w.cell? ⟨b,0,none⟩=some (.string x)):∀(j:Nat) z,[x][j]?=some z->w.cell? ⟨b,0+j,none⟩=some (.string z):=by
 intro j z D
 match j,D with
 |0,D=>cases D;exact F
theorem lV{B B':Nat}{w w1 z:World}(h:Below B' w w1)(k:Below B w1 z)(hB:B<=B'):Below B w z:=(h.mono hB).trans k
theorem eQ(z:Nat)(D:List ByteArray)(I:ByteArray)(n:Int)(N:dL n)(w:World)(L:gI z w D)(O:iY w)(J:D.length<1000):
  Calls prog 179 #[.pointer (some ⟨z,0,none⟩),.string I,n] w fun e w'=>e=.returned (.tuple #[])/\gI z w' (D++[I,aX n])/\Below z w w':=by
 have Y:=L.lt;go_enter func179,ntmps179;go_wp2_with fail;refine(AI n N w O).mono ?_;rintro e w1 ⟨rfl,F⟩;have K:=L.keep F;go_wp2_with fail;refine(dF z D [I,aX n] w1.heap.size 2 2 _ (K.keep (bF _ _)) rfl (fF (aZ _ _ _ _ _ rfl) (aZ _ _ _ _ _ rfl)) aT).mono ?_;rintro e R ⟨rfl,M,b2⟩;have S:=F.size;go_wp2;exact bodyPost_end (v:=.tuple #[]) (results_none rfl _ _ _) rfl ⟨rfl,M,lV F (lV (bF w1 _) b2 aD) aD⟩
theorem kV(z:Nat)(I:List ByteArray)(J:ByteArray)(Y:Value)(l:List Int)(w:World)(S:aK w Y l)(hl:l.length<=1000)(L:gI z w I)(hp:iY w)(R:I.length<1000):
  Calls prog 180 #[.pointer (some ⟨z,0,none⟩),.string J,Y] w fun e w'=>e=.returned (.tuple #[])/\gI z w' (I++[J,eR l])/\Below z w w':=by
 have zo:=L.lt;have O:=S;obtain⟨a,c,rfl⟩:=S.shape;by_cases D:l=[]
 ·have F:eR l=eF:=by unfold eR;rw[if_pos D]
  have K:=aH F;have hz:¬(0:Int)<(l.length:Int):=by subst D;simp
  clear F D;go_enter func180,ntmps180;go_wp2_with fail;refine(dF z I [J,eF] w.heap.size 2 2 _ (L.keep (bF _ _)) rfl (fF (aZ _ _ _ _ _ rfl) (aZ _ _ _ _ _ rfl)) aT).mono ?_;rintro e w2 ⟨rfl,M,b2⟩;go_wp2;exact bodyPost_end (v:=.tuple #[]) (results_none rfl _ _ _) rfl ⟨rfl,by rw[K.out];exact M,lV (bF w _) b2 aD⟩
 ·have F:eR l=bR eS (l.map aX):=by unfold eR;rw[if_neg D]
  have K:=aH F;have hz:(0:Int)<(l.length:Int):=by have:l.length≠0:=fun e=>D (List.eq_nil_of_length_eq_zero e);omega
  clear F D;go_enter func180,ntmps180;go_wp2_with fail;refine(uN l _ w O hl hp).mono ?_;rintro e w1 ⟨rfl,N⟩;rw[<-K.out];have Z:=L.keep N;have z1:=N.size;go_wp2_with fail;refine(dF z I [J,eR l] w1.heap.size 2 2 _ (Z.keep (bF _ _)) rfl (fF (aZ _ _ _ _ _ rfl) (aZ _ _ _ _ _ rfl)) aT).mono ?_;rintro e w2 ⟨rfl,M,b2⟩;go_wp2;exact bodyPost_end (v:=.tuple #[]) (results_none rfl _ _ _) rfl ⟨rfl,M,lV N (lV (bF w1 _) b2 aD) aD⟩
def yes(b:Bool)(x:ByteArray):List ByteArray:=if b then [x] else []
theorem fK(z:Nat)(D:List ByteArray)(F:ByteArray)(h:Bool)(w:World)(L:gI z w D)(I:D.length<1000):
  Calls prog 183 #[.pointer (some ⟨z,0,none⟩),.string F,.bool h] w fun e w'=>e=.returned (.tuple #[])/\gI z w' (D++yes h F)/\Below z w w':=by
 have M:=L.lt
 cases h with
 |false=>go_enter func183,ntmps183;go_wp2;exact bodyPost_end (v:=.tuple #[]) (results_none rfl _ _ _) rfl ⟨rfl,by show gI z w (D++[]);rw[List.append_nil];exact L,Below.refl _ _⟩
 |true=>go_enter func183,ntmps183;go_wp2_with fail;refine(dF z D [F] w.heap.size 1 1 _ (L.keep (bF _ _)) rfl (BJ (aZ _ _ _ _ _ rfl)) aT).mono ?_;rintro e K ⟨rfl,J,b2⟩;go_wp2;exact bodyPost_end (v:=.tuple #[]) (results_none rfl _ _ _) rfl ⟨rfl,J,lV (bF w _) b2 aD⟩
def dW:ByteArray:=⟨#[32]⟩
theorem dE(B:Nat)(v:Value)(D:List ByteArray)(w:World)(F:dK 9 B w v D)(z:(bR dW D).size<=100000000)(K:D.length<=1000000):
  Calls prog 191 #[v] w fun e w'=>e=.returned (.string (bR dW D))/\Below w w w':=by
 obtain⟨a,n,c,rfl⟩:=F.shape3;have I:=aH (ES B w (aA a n c) D dW F z K);go_enter func191,ntmps191;go_wp2_with fail;refine I.out.mono ?_;rintro e w1 ⟨rfl,J⟩;go_wp2;go_ret;exact⟨rfl,J⟩
def uL(z:Nat)(u:Value)(w:World)(D:List ByteArray):Prop:=∃v,aP w z 143 #[v]/\dK 9 (z+1) w v D/\∀k,v.ownBlock=some k->u.ownBlock≠some k
theorem uL.line{z:Nat}{u:Value}{w:World}{D:List ByteArray}(h:uL z u w D):gI z w D:=by
 obtain⟨v,k,o,_⟩:=h;exact⟨v,k,o⟩
theorem uL.keep{z:Nat}{u:Value}{w w':World}{D:List ByteArray}(h:uL z u w D)(hb:Below w w w'):uL z u w' D:=by
 obtain⟨v,k,o,a⟩:=h;exact⟨v,k.keep hb,o.keep hb,a⟩
theorem gI.far{z:Nat}{u:Value}{w w':World}{D:List ByteArray}(h:gI z w D)(hb:Below w w w')(J:∀k,u.ownBlock=some k->w.heap.size<=k):uL z u w' D:=by
 obtain⟨v,k,o⟩:=h;exact⟨v,k.keep hb,o.keep hb,fun q I F=>by have:=(o.lt q I).2;have:=J q F;omega⟩
theorem agL(D:Nat)(u:Value)(N M:List ByteArray)(b m c:Nat)(w:World)(L:uL D u w N)(O:∀k,u.ownBlock=some k->D<k/\k<w.heap.size)(hm:m=M.length)
  (hy:∀(j:Nat) y,M[j]?=some y->w.cell? ⟨b,0+j,none⟩=some (.string y)) (F:N.length+M.length<1000000):
  Calls prog 177 #[.pointer (some ⟨D,0,none⟩),aA (some ⟨b,0,none⟩) m c] w fun e w'=>e=.returned (.tuple #[])/\uL D u w' (N++M)/\Below D w w'/\∀k,u.ownBlock=some k->w'.heap[k]?=w.heap[k]?:=by
 obtain⟨v,K,S,R⟩:=L;refine(SF D v N M b m c w K S hm hy F).mono fun e w' ⟨Z,Y,k,o,z,g⟩=>⟨Z,⟨Y,k,o,fun q I J=>?_⟩,(SG K S ⟨Y,k,o,z,g⟩).2,fun q I=>?_⟩
 ·rcases z q I with h|h
  ·exact R q h J
  ·have:=(O q J).2;omega
 ·refine g.block q (O q I).2 ?_;rintro(h|h)
  ·have:=(O q I).1;omega
  ·exact R q h I
theorem BY(z:Nat)(u:Value)(F:List ByteArray)(J:ByteArray)(n:Int)(R:dL n)(w:World)(L:uL z u w F)(M:∀k,u.ownBlock=some k->z<k/\k<w.heap.size)(S:iY w)(K:F.length<1000):
  Calls prog 179 #[.pointer (some ⟨z,0,none⟩),.string J,n] w fun e w'=>e=.returned (.tuple #[])/\uL z u w' (F++[J,aX n])/\Below z w w'/\∀k,u.ownBlock=some k->w'.heap[k]?=w.heap[k]?:=by
 have zo:=L.line.lt;have I:=aH M;clear M;go_enter func179,ntmps179;go_wp2_with fail;refine(AI n R w S).mono ?_;rintro e w1 ⟨rfl,D⟩;have N:=L.keep D;have z1:=D.size;go_wp2_with fail;refine(agL z u F [J,aX n] w1.heap.size 2 2 _ (N.keep (bF _ _)) (fun k hk=>⟨(I.out k hk).1,by have:=(I.out k hk).2;simp;omega⟩) rfl (fF (aZ _ _ _ _ _ rfl) (aZ _ _ _ _ _ rfl)) aT).mono ?_;rintro e Z ⟨rfl,O,b2,Y⟩;go_wp2;refine bodyPost_end (v:=.tuple #[]) (results_none rfl _ _ _) rfl ⟨rfl,O,lV D (lV (bF w1 _) b2 aD) aD,fun k hk=>?_⟩;have h1:=(I.out k hk).2;rw[Y k hk,(bF w1 _).block k aD,D.block k h1]
theorem BW{w w':World}{v:Value}{l:List Int}(h:aK w v l)(I:w.heap.size<=w'.heap.size)(F:∀k,v.ownBlock=some k->w'.heap[k]?=w.heap[k]?):aK w' v l:=by
 obtain⟨a,c,rfl,h1,h2,h3,h4⟩:=h;refine⟨a,c,rfl,h1,h2,h3,?_⟩;rcases h4 with h4|⟨b,D,rfl,hb,hc⟩
 ·exact .inl h4
 ·refine .inr ⟨b,D,rfl,Nat.lt_of_lt_of_le hb I,fun k hk=>?_⟩;have z:=hc k hk;have e:=F b rfl;unfold World.cell? at z ⊢;simp only at z ⊢;rw[e];exact z
end Go.Proofs.YtkdbkjjacgigiaaGreatDoor
end
namespace Go.Proofs.YtkdbkjjacgigiaaGreatDoor
section
open Go.RowKit Go.G5 Go.Proofs.Tryz
def iV(b:Bool)(x:ByteArray):ByteArray:=if b then x else ByteArray.empty
theorem kG(z:List ByteArray)(h:z≠[])(b:Bool)(x y:ByteArray)(D:y=cU++x):bR cU (z++yes b x)=bR cU z++iV b y:=by
 subst D
 cases b with
 |false=>show bR cU (z++[])=bR cU z++ByteArray.empty;rw[List.append_nil];exact dO (by rw[jL];simp)
 |true=>show bR cU (z++[x])=bR cU z++(cU++x);rw[zM _ _ _ h];refine dO ?_;simp only[jL,List.append_assoc]
theorem sY(z:List ByteArray)(h:z≠[])(b:Bool)(x:ByteArray):z++yes b x≠[]:=fun e=>h (List.append_eq_nil_iff.1 e).1
def H8(F G M S:ByteArray):List ByteArray:=[⟨#[102,117,110,99,116,105,111,110]⟩,F,⟨#[103,97,112]⟩,G,⟨#[109,97,115,115,101,115]⟩,M,⟨#[115,104,97,112,108,101,121]⟩,S]
def zW(F G M S:ByteArray):ByteArray:=⟨#[102,117,110,99,116,105,111,110,32]⟩++F++⟨#[32,103,97,112,32]⟩++G++⟨#[32,109,97,115,115,101,115,32]⟩++M++⟨#[32,115,104,97,112,108,101,121,32]⟩++S
theorem afZ(F G M S:ByteArray):bR cU (H8 F G M S)=zW F G M S:=by
 unfold H8 zW;simp only[iU,jD];refine dO ?_;simp[cU]
def NU(F G M S:ByteArray)(z D b2 I J K N:Bool):List ByteArray:=H8 F G M S++yes z ⟨#[115,117,98,109,111,100,117,108,97,114]⟩++yes D ⟨#[115,117,112,101,114,109,111,100,117,108,97,114]⟩++yes b2 ⟨#[105,110,99,114,101,97,115,105,110,103]⟩++yes I ⟨#[103,114,111,117,110,100,101,100]⟩++yes J ⟨#[115,121,109,109,101,116,114,105,99]⟩++yes K ⟨#[112,111,108,121,109,97,116,114,111,105,100]⟩++yes N ⟨#[109,97,116,114,111,105,100]⟩
def JR(F G M S:ByteArray)(z D b2 I J K N:Bool):ByteArray:=zW F G M S++iV z ⟨#[32,115,117,98,109,111,100,117,108,97,114]⟩++iV D ⟨#[32,115,117,112,101,114,109,111,100,117,108,97,114]⟩++iV b2 ⟨#[32,105,110,99,114,101,97,115,105,110,103]⟩++iV I ⟨#[32,103,114,111,117,110,100,101,100]⟩++iV J ⟨#[32,115,121,109,109,101,116,114,105,99]⟩++iV K ⟨#[32,112,111,108,121,109,97,116,114,111,105,100]⟩++iV N ⟨#[32,109,97,116,114,111,105,100]⟩
theorem RY(F G M S:ByteArray)(z D b2 I J K N:Bool):bR cU (NU F G M S z D b2 I J K N)=JR F G M S z D b2 I J K N:=by
 have O:H8 F G M S≠[]:=by simp[H8]
 have h1:=sY _ O z ⟨#[115,117,98,109,111,100,117,108,97,114]⟩;have h2:=sY _ h1 D ⟨#[115,117,112,101,114,109,111,100,117,108,97,114]⟩;have h3:=sY _ h2 b2 ⟨#[105,110,99,114,101,97,115,105,110,103]⟩;have h4:=sY _ h3 I ⟨#[103,114,111,117,110,100,101,100]⟩;have R:=sY _ h4 J ⟨#[115,121,109,109,101,116,114,105,99]⟩;have Y:=sY _ R K ⟨#[112,111,108,121,109,97,116,114,111,105,100]⟩;unfold NU JR;rw[kG _ Y N _ ⟨#[32,109,97,116,114,111,105,100]⟩ rfl,kG _ R K _ ⟨#[32,112,111,108,121,109,97,116,114,111,105,100]⟩ rfl,kG _ h4 J _ ⟨#[32,115,121,109,109,101,116,114,105,99]⟩ rfl,kG _ h3 I _ ⟨#[32,103,114,111,117,110,100,101,100]⟩ rfl,kG _ h2 b2 _ ⟨#[32,105,110,99,114,101,97,115,105,110,103]⟩ rfl,kG _ h1 D _ ⟨#[32,115,117,112,101,114,109,111,100,117,108,97,114]⟩ rfl,kG _ O z _ ⟨#[32,115,117,98,109,111,100,117,108,97,114]⟩ rfl,afZ]
theorem cN(b:Bool)(x:ByteArray):(yes b x).length<=1:=by cases b<;>simp[yes]
theorem dP(b:Bool)(x:ByteArray):(iV b x).size<=x.size:=by cases b<;>simp[iV]
theorem lW(l:List Int)(h:∀x∈l,dL x):(eR l).size<=22*l.length+4:=by
 unfold eR
 split
 ·show 4<=_;omega
 ·have:=nF l h;omega
theorem H9(F G M S:ByteArray)(D:F.size<=1000)(I:G.size<=1000)(J:M.size<=1000)(K:S.size<=1000):(zW F G M S).size<=4100:=by
 unfold zW;simp only[ByteArray.size_append];have e1:(⟨#[102,117,110,99,116,105,111,110,32]⟩:ByteArray).size=9:=rfl;have e2:(⟨#[32,103,97,112,32]⟩:ByteArray).size=5:=rfl;have e3:(⟨#[32,109,97,115,115,101,115,32]⟩:ByteArray).size=8:=rfl;have z:(⟨#[32,115,104,97,112,108,101,121,32]⟩:ByteArray).size=9:=rfl;omega
theorem AO{n:Int}{l:List Int}(D:aY n l=true):(eX n l).length<=32:=by
 obtain⟨N,_,_,_,z,_⟩:=cS D;unfold eX;rw[if_pos D,lR];exact z
theorem FH{n:Int}{l:List Int}(z:aY n l=true):(gX n l).length<=5:=by
 obtain⟨N,rfl,D,_⟩:=cS z;unfold gX;rw[if_pos z];simp[nR];omega
def mL(n:Int)(l:List Int):ByteArray:=if aY n l then bR dW (NU (dC n l) (aX (mF n l)) (eR (eX n l)) (eR (gX n l)) (fO n l) (tX n l) (mU n l) (eD n l) (sW n l) (eZ n l) (dQ n l)) else ByteArray.empty
theorem NV{n:Int}{l:List Int}(z:aY n l=true):mL n l=bR dW (NU (dC n l) (aX (mF n l)) (eR (eX n l)) (eR (gX n l)) (fO n l) (tX n l) (mU n l) (eD n l) (sW n l) (eZ n l) (dQ n l)):=by unfold mL;rw[if_pos z]
theorem VY(F G M S:ByteArray)(z D b2 I J K N:Bool)(O:F.size<=1000)(R:G.size<=1000)(Y:M.size<=1000)(Z:S.size<=1000):(JR F G M S z D b2 I J K N).size<=5000:=by
 have h0:=H9 F G M S O R Y Z;unfold JR;simp only[ByteArray.size_append];have s0:=dP z (⟨#[32,115,117,98,109,111,100,117,108,97,114]⟩:ByteArray);have t0:(⟨#[32,115,117,98,109,111,100,117,108,97,114]⟩:ByteArray).size=11:=rfl;have s1:=dP D (⟨#[32,115,117,112,101,114,109,111,100,117,108,97,114]⟩:ByteArray);have t1:(⟨#[32,115,117,112,101,114,109,111,100,117,108,97,114]⟩:ByteArray).size=13:=rfl;have s2:=dP b2 (⟨#[32,105,110,99,114,101,97,115,105,110,103]⟩:ByteArray);have t2:(⟨#[32,105,110,99,114,101,97,115,105,110,103]⟩:ByteArray).size=11:=rfl;have s3:=dP I (⟨#[32,103,114,111,117,110,100,101,100]⟩:ByteArray);have t3:(⟨#[32,103,114,111,117,110,100,101,100]⟩:ByteArray).size=9:=rfl;have s4:=dP J (⟨#[32,115,121,109,109,101,116,114,105,99]⟩:ByteArray);have t4:(⟨#[32,115,121,109,109,101,116,114,105,99]⟩:ByteArray).size=10:=rfl;have s5:=dP K (⟨#[32,112,111,108,121,109,97,116,114,111,105,100]⟩:ByteArray);have t5:(⟨#[32,112,111,108,121,109,97,116,114,111,105,100]⟩:ByteArray).size=12:=rfl;have s6:=dP N (⟨#[32,109,97,116,114,111,105,100]⟩:ByteArray);have t6:(⟨#[32,109,97,116,114,111,105,100]⟩:ByteArray).size=8:=rfl;omega
theorem NW(n:Int)(l:List Int)(hm:∀x∈eX n l,dL x)(D:∀x∈gX n l,dL x):(mL n l).size<=5000:=by
 unfold mL
 split
 ·rename_i z;have h1:=AO z;have h2:=FH z;have h3:=lW _ hm;have h4:=lW _ D;have F:=tD n l;have I:=P2 n l;have J:=cM (mF n l) ⟨by omega,by omega⟩;rw[show dW=cU from rfl,RY];exact VY _ _ _ _ _ _ _ _ _ _ _ aD aD aD aD
 ·simp
def mO:List ByteArray->ByteArray
 |[]=>ByteArray.empty
 |y::r=>cU++y++mO r
theorem O8:∀r:List ByteArray,(mO r).data.toList=Lib.joinTail [32] (r.map (·.data.toList))
 |[]=>rfl
 |y::r=>by rw[mO,jL,jL,O8 r];simp[Lib.joinTail,d1]
theorem qE(z D:List ByteArray)(h:z≠[]):bR cU (z++D)=bR cU z++mO D:=by
 cases z with
 |nil=>exact absurd rfl h
 |cons x r=>refine dO ?_;rw[jL,O8];show Lib.join ((x::(r++D)).map (·.data.toList)) cU.data.toList=Lib.join ((x::r).map (·.data.toList)) cU.data.toList++_;rw[List.map_cons,List.map_cons,Lib.join_cons,Lib.join_cons,List.map_append,IN,d1];simp[List.append_assoc]
def U6(N A:ByteArray):List ByteArray:=[(⟨#[99,111,118,101,114]⟩:ByteArray),(⟨#[112,97,99,107,105,110,103]⟩:ByteArray),N,(⟨#[111,102]⟩:ByteArray),A]
def JN(N A:ByteArray):ByteArray:=(⟨#[99,111,118,101,114,32,112,97,99,107,105,110,103,32]⟩:ByteArray)++N++(⟨#[32,111,102,32]⟩:ByteArray)++A
theorem an2(N A:ByteArray):bR cU (U6 N A)=JN N A:=by
 unfold U6 JN;simp only[iU,jD];refine dO ?_;simp[cU]
def akO(b:Bool)(N S:ByteArray):List ByteArray:=if b then [(⟨#[116,114,97,110,115,118,101,114,115,97,108]⟩:ByteArray),N,(⟨#[98,121]⟩:ByteArray),S] else []
def JO(b:Bool)(X N S:ByteArray):ByteArray:=if b then X++(⟨#[32,116,114,97,110,115,118,101,114,115,97,108,32]⟩:ByteArray)++N++(⟨#[32,98,121,32]⟩:ByteArray)++S else X
theorem an3(b:Bool)(X N S:ByteArray):X++mO (akO b N S)=JO b X N S:=by
 cases b with
 |false=>exact dO (by rw[jL];show X.data.toList++[]=X.data.toList;simp)
 |true=>refine dO ?_;simp[akO,JO,mO,cU]
def akP(b:Bool)(N M P:ByteArray):List ByteArray:=if b then [(⟨#[115,109,97,108,108,101,115,116]⟩:ByteArray),N,(⟨#[103,114,101,101,100,121]⟩:ByteArray),M,(⟨#[112,114,105,99,101,115]⟩:ByteArray),P] else []
def JP(b:Bool)(X N M P:ByteArray):ByteArray:=if b then X++(⟨#[32,115,109,97,108,108,101,115,116,32]⟩:ByteArray)++N++(⟨#[32,103,114,101,101,100,121,32]⟩:ByteArray)++M++(⟨#[32,112,114,105,99,101,115,32]⟩:ByteArray)++P else X
theorem an4(b:Bool)(X N M P:ByteArray):X++mO (akP b N M P)=JP b X N M P:=by
 cases b with
 |false=>exact dO (by rw[jL];show X.data.toList++[]=X.data.toList;simp)
 |true=>refine dO ?_;simp[akP,JP,mO,cU]
def acP(g:Int)(l:List Int):List ByteArray:=(U6 (aX ((lL g l).length:Int)) (bZ g (lL g l))++akO (kY g l) (aX (uJ g l)) (bG g (mQ g l)))++akP (jU g l) (aX ((fB g l).length:Int)) (aX ((dD g l).length:Int)) (eR (eG g l))
def GX(g:Int)(l:List Int):ByteArray:=JP (jU g l) (JO (kY g l) (JN (aX ((lL g l).length:Int)) (bZ g (lL g l))) (aX (uJ g l)) (bG g (mQ g l))) (aX ((fB g l).length:Int)) (aX ((dD g l).length:Int)) (eR (eG g l))
theorem ap8(g:Int)(l:List Int):bR cU (acP g l)=GX g l:=by
 unfold acP GX;rw[qE _ _ (by simp[U6]),qE _ _ (by simp[U6]),an2,an3,an4]
def pU(g:Int)(l:List Int):ByteArray:=if aU g l then GX g l else ByteArray.empty
theorem BL{g:Int}{l:List Int}(h:aU g l=true):pU g l=GX g l:=by unfold pU;rw[if_pos h]
theorem LQ{g:Int}{l:List Int}(h:aU g l=false):pU g l=ByteArray.empty:=by unfold pU;rw[h];rfl
theorem IZ(g:Int)(l:List Int):(eG g l).length<=6:=by
 unfold eG
 split
 ·rename_i h;rw[MS];unfold eV gD at h
  split at h
  ·rename_i z;obtain⟨D,F,_⟩:=dB z;omega
  ·simp at h
 ·simp
theorem NI(N A:ByteArray)(D:N.size<=21)(z:A.size<=10000):(JN N A).size<=10100:=by
 unfold JN;simp only[ByteArray.size_append];have e1:(⟨#[99,111,118,101,114,32,112,97,99,107,105,110,103,32]⟩:ByteArray).size=14:=rfl;have e2:(⟨#[32,111,102,32]⟩:ByteArray).size=4:=rfl;omega
theorem NJ(b:Bool)(X N S:ByteArray)(F:X.size<=10100)(z:N.size<=21)(D:S.size<=132):(JO b X N S).size<=10300:=by
 cases b with
 |false=>show X.size<=_;omega
 |true=>unfold JO;rw[if_pos rfl];simp only[ByteArray.size_append];have e1:(⟨#[32,116,114,97,110,115,118,101,114,115,97,108,32]⟩:ByteArray).size=13:=rfl;have e2:(⟨#[32,98,121,32]⟩:ByteArray).size=4:=rfl;omega
theorem acN(b:Bool)(X N M P:ByteArray)(I:X.size<=10300)(D:N.size<=21)(z:M.size<=21)(F:P.size<=200):(JP b X N M P).size<=11000:=by
 cases b with
 |false=>show X.size<=_;omega
 |true=>unfold JP;rw[if_pos rfl];simp only[ByteArray.size_append];have e1:(⟨#[32,115,109,97,108,108,101,115,116,32]⟩:ByteArray).size=10:=rfl;have e2:(⟨#[32,103,114,101,101,100,121,32]⟩:ByteArray).size=8:=rfl;have e3:(⟨#[32,112,114,105,99,101,115,32]⟩:ByteArray).size=8:=rfl;omega
theorem XU(g:Int)(l:List Int):(lL g l).length<=64:=by
 unfold lL
 split
 ·rename_i z;exact vH 64 l 0 [] [] (by simpa using iL z) (by simp)
 ·simp
theorem RN(g:Int)(l:List Int)(h:jU g l=true->∀x∈eG g l,dL x):(GX g l).size<=11000:=by
 have h1:=XU g l;have h2:=cM ((lL g l).length:Int) ⟨by omega,by omega⟩;have h3:=fG g (lL g l);have h4:=YU g l;have D:=cM (uJ g l) ⟨by omega,by omega⟩;have F:=fA g (mQ g l);have I:=NI _ _ h2 h3;have z:=NJ (kY g l) _ _ _ I D F;unfold GX
 cases hb:jU g l with
 |false=>exact Nat.le_trans z aQ
 |true=>have J:=FI g l;have K:=vP g l;have hc:=lW _ (h hb);have hd:=IZ g l;exact acN _ _ _ _ _ z (cM _ ⟨by omega,by omega⟩) (cM _ ⟨by omega,by omega⟩) aD
theorem amP(B:Nat)(v:Value)(l:List Int)(w:World)(h:aM 3 B w v l)(hl:l.length<=1048576):
  Calls prog 324 #[v] w fun e w'=>e=.returned (.tuple #[])/\aM 3 B w' v (l.mergeSort fun x y=>decide (x<=y))/\w.grownBy w' v.ownBlock:=by
 have hr:∀x∈(l.mergeSort fun x y=>decide (x<=y)),dL x:=fun x F=>h.2 x (List.mem_mergeSort.1 F);rcases h.cases with⟨rfl,rfl⟩|⟨g,cap,rfl,hB,D⟩
 ·refine(BC none 0 w).mono ?_;rintro e w' ⟨z,rfl⟩;exact⟨z,by simpa using h,World.grownBy.refl _ _⟩
 ·refine(I9 g 0 cap l w (h.holds rfl) D aD).mono ?_;rintro e w' ⟨z,n,os,rfl⟩;have:=h.put (l.mergeSort fun x y=>decide (x<=y)) (List.length_mergeSort _) hr n os;exact⟨z,this.1,this.2⟩
theorem ZO(B:Nat)(v:Value)(l:List Int)(w:World)(h:aM 3 B w v l)(hl:l.length<=1048576):
  Calls prog 326 #[v] w fun e w'=>∃ad i c,e=.returned (aA ad i c)/\aM 3 B w' (aA ad i c) (Lib.compact l)/\w.grownBy w' v.ownBlock:=by
 rcases h.cases with⟨rfl,rfl⟩|⟨g,cap,rfl,hB,N⟩
 ·refine(yH none 0 w).mono ?_;rintro e w' ⟨I,rfl⟩;exact⟨none,0,0,I,h,World.grownBy.refl _ _⟩
 ·have D:=h.ints.capLe
  have hcl:(Lib.compact l).length<=l.length:=KQ l.toArray l.length;refine(DH g 0 cap l w (h.holds rfl) aD D.2.1).mono ?_;rintro e w' ⟨I,q,rfl⟩;have F:∀x∈Lib.compact l++List.replicate (l.length-(Lib.compact l).length) 0,dL x:=by
   intro x z;rcases List.mem_append.1 z with z|z
   ·unfold Lib.compact Lib.compactUpTo at z;obtain⟨j,M,rfl⟩:=List.mem_map.1 z;have J:=List.mem_range.1 (List.mem_filter.1 M).1;rw[getElem!_pos l.toArray j (by simpa using J)];exact h.2 _ (by simp)
   ·have:=List.eq_of_mem_replicate z;subst this;exact⟨by omega,by omega⟩
  have K:=h.put (Lib.compact l++List.replicate (l.length-(Lib.compact l).length) 0) aT F q #[];rw[Go.Sort.grow_empty]at K;have hc:=K.1;have hcut:=aM.cut (n:=l.length) hc (Lib.compact l).length (by simp);rw[List.take_left]at hcut;exact⟨_,_,_,I,hcut,K.2⟩
theorem akM(B:Nat)(v:Value)(l:List Int)(w:World)(h:aM 3 B w v l)(hl:l.length<=1048576):
  Calls prog 325 #[v] w fun e w'=>∃ad i c,e=.returned (aA ad i c)/\bK 3 B w' (aA ad i c) l/\w=w':=by
 have I:=h.toW;rcases h.cases with⟨rfl,rfl⟩|⟨g,cap,rfl,hB,Y⟩
 ·go_enter func325,ntmps325;go_wp2;go_ret;exact⟨none,0,0,rfl,I,rfl⟩
 ·have z:=h.ints.capLe;have N:=z.2.1;have J:=z.2.2;unfold maxLen at J;clear z;go_enter func325,ntmps325;go_wp2;go_ret;refine⟨some ⟨g,0,none⟩,l.length,l.length,?_,?_,rfl⟩
  ·rfl
  ·refine⟨I.1,?_⟩;rcases I.2 with⟨e,_⟩|⟨S,M,D,e,F,K,R,O,hm,ht⟩
   ·simp at e
   ·simp only[Value.slice.injEq,Option.some.injEq,Addr.mk.injEq,and_true]at e;obtain⟨rfl,_,rfl⟩:=e;exact .inr ⟨g,l.length,D,rfl,F,K,aI,by omega,by omega,ht⟩
theorem zJ(n:Int)(v:Value)(l:List Int)(w:World)(hv:aK w v l)(hl:l.length<=1048576):
  Calls prog 242 #[n,v] w fun e w'=>∃ad i c,e=.returned (.agg #[n,aA ad i c])/\bK 3 w.heap.size w' (aA ad i c) (dT l)/\Below w w w':=by
 obtain⟨a,c,rfl⟩:=hv.shape;have O:(l.mergeSort fun x y=>decide (x<=y)).length<=1048576:=by rw[List.length_mergeSort];exact hl
 have b6:=KS l;go_enter func242,ntmps242;go_wp2_with fail;refine(kR _ l _ (hv.alloc _) hl).mono ?_;rintro e w1 ⟨p1,i1,q1,rfl,o1,D⟩;have Y:=aP.new w 29 #[aB,()];have Z:=Y.keep D;have R:Below w w w1:=(bF _ _).after D (by simp);have J:=o1.mono (B':=w.heap.size+1) (by simp);have N:=J.lt;clear Y o1 D;go_wp2_with fail;refine(amP _ _ l _ J hl).mono ?_;rintro e w2 ⟨rfl,o2,F⟩;have K2:=Z.grow F (by intro hk;have:=(N _ hk).1;omega);have S:=R.grown F R.size (fun k hk=>by have:=(N k hk).1;omega);clear F Z J;go_wp2_with fail;refine(ZO _ _ _ _ o2 O).mono ?_;rintro e w3 ⟨p3,i3,q3,rfl,o3,I⟩;have K:=K2.grow I (by intro hk;have:=(N _ hk).1;omega);have B3:=S.grown I S.size (fun k hk=>by have:=(N k hk).1;omega);clear I K2 o2;go_wp2_with fail;refine(akM _ _ _ _ o3 (by have e:Lib.compact (l.mergeSort fun x y=>decide (x<=y))=dT l:=rfl;rw[e];omega)).mono ?_;rintro e w4 ⟨p4,i4,M,rfl,o4,rfl⟩;have G3:=K.cell;have F3:=K.frozen;have z3:=K.lt;go_wp2;refine bN ?_;intro Wf z;have Kf:aP Wf w 29 #[n,aA p4 i4 M]:=by
  rw[z];have:=(K.set 0 (aG n)).set 1 (aA p4 i4 M);simpa using this
 have Bf:Below w w Wf:=by rw[z];exact Below.setCell (Below.setCell B3 (by first|omega|(simp;done)|(simp;omega)) _) (by first|omega|(simp;done)|(simp;omega)) _
 have of:bK 3 w.heap.size Wf (aA p4 i4 M) (dT l):=by rw[z];exact((o4.setBelow (by first|omega|(simp;done)|(simp;omega)) _).setBelow (by first|omega|(simp;done)|(simp;omega)) _).mono (by first|omega|(simp;done)|(simp;omega))
 have Gf:=Kf.cell;clear z G3 F3;exact bodyPost_ret (v:=.agg #[n,aA p4 i4 M]) (by simp[results,results242,go_sem,Gf]) rfl ⟨_,_,_,rfl,of,Bf⟩
end
section
open Go.RowKit Go.G5 Go.Proofs.Tryz
end
section
open Go.RowKit Go.G5 Go.Proofs.Tryz
end
section
open Go.RowKit Go.G5 Go.Proofs.Tryz
theorem abP(e:Int)(h:0<=e/\e<6):0<(2:Int)^e.toNat/\(2:Int)^e.toNat<64:=by
 rcases(show e=0∨e=1∨e=2∨e=3∨e=4∨e=5 by omega) with rfl|rfl|rfl|rfl|rfl|rfl<;>decide
theorem ZE:∀(l:List Int) (z n:Int),l.Pairwise (· < ·)->(∀x∈l,z<=x/\x<n)->z<=n->(l.length:Int)<=n-z:=by
 intro l
 induction l with
 |nil=>intro z n _ _ h;simp;omega
 |cons x l ih=>intro z n D hb I;have J:=hb x (by simp);rw[List.pairwise_cons]at D;have:=ih (x+1) n D.2 (fun y F=>⟨by have:=D.1 y F;omega,(hb y (by simp[F])).2⟩) aD;rw[List.length_cons];omega
theorem aaY(l:List Int)(n:Nat)(z:l.Pairwise (· < ·))(hb:∀x∈l,0<=x/\x<(n:Int)):l.length<=n:=by
 have:=ZE l 0 n z hb aD;omega
theorem V7(l:List Int)(h:∀x∈l,0<=x/\x<64):(∀x∈dT l,0<=x/\x<64)/\(dT l).length<=64:=by
 have h1:∀x∈dT l,0<=x/\x<64:=fun x z=>h x ((nI l x).1 z);exact⟨h1,aaY _ 64 (uE l) (fun x z=>h1 x z)⟩
def yW(l:List Int)(s:Int):List Int:=dT (l.map fun t=>bB s t)
def yG(l:List Int)(s:Nat):Bool:=(yW l s).length==2^bY s
def nL(g:Int)(l:List Int):List Int:=if aU g l then cD (yG l) (2^g.toNat) else []
def sN(b:Int)(l:List Int):Nat->Int
 |0=>b
 |k+1=>max (sN b l k) (cT (l.getD k 0))
def tT(g:Int)(l:List Int):Int:=if aU g l then sN (-1) (nL g l) (nL g l).length else -2
def jG(l:List Int)(g:Nat):Nat->List Int
 |0=>List.replicate (g+1) 0
 |s+1=>(jG l g s).set (bY s) (max ((jG l g s).getD (bY s) 0) ((yW l s).length:Int))
def nK(g:Int)(l:List Int):List Int:=if aU g l then jG l g.toNat (2^g.toNat) else []
theorem BS(s t:Int)(z:0<=s)(h1:s<64):0<=bB s t/\bB s t<64:=kE s t 64 z h1
theorem RA(l:List Int)(s:Int)(z:0<=s)(h1:s<64):(yW l s).length<=64:=by
 refine(V7 _ ?_).2;intro x D;obtain⟨t,_,rfl⟩:=List.mem_map.1 D;exact BS s t z h1
theorem QC(b:Int)(l:List Int)(h:∀x∈l,x<64)(hb:-1<=b/\b<=8):∀k,-1<=sN b l k/\sN b l k<=8:=by
 intro k
 induction k with
 |zero=>exact hb
 |succ k ih=>
  rw[sN];have h2:cT (l.getD k 0)<=8:=by
   have z:(l.getD k 0).toNat<256:=by
    rw[List.getD_eq_getElem?_getD]
    cases hk:l[k]? with
    |none=>simp
    |some x=>have:=h x (List.mem_of_getElem? hk);simp;omega
   have:=vY _ z;unfold cT;omega
  omega
theorem MZ(g:Int)(l:List Int):∀x∈nL g l,0<=x/\x<64:=by
 unfold nL
 split
 ·rename_i h;intro x z;obtain⟨D,F,_,_⟩:=dB h;have h1:=vL _ _ x z;have h2:(2:Nat)^g.toNat<=2^6:=Nat.pow_le_pow_right aQ aD;omega
 ·intro x z;simp at z
theorem PT(g:Int)(l:List Int):-2<=tT g l/\tT g l<=8:=by
 unfold tT
 split
 ·have:=QC (-1) (nL g l) (fun x z=>(MZ g l x z).2) aD (nL g l).length;omega
 ·omega
theorem BQ(l:List Int)(g:Nat):∀s,(jG l g s).length=g+1:=by
 intro s
 induction s with
 |zero=>simp[jG]
 |succ s ih=>rw[jG,List.length_set,ih]
theorem MB(l:List Int)(g:Nat):∀s,s<=64->∀x∈jG l g s,0<=x/\x<=64:=by
 intro s
 induction s with
 |zero=>intro _ x z;have:=List.eq_of_mem_replicate z;omega
 |succ s ih=>
  intro F x z;have ih:=ih aD;have ht:=RA l (s:Int) aD aD;rw[jG]at z;rcases List.mem_or_eq_of_mem_set z with h|h
  ·exact ih x h
  ·have D:0<=(jG l g s).getD (bY s) 0/\(jG l g s).getD (bY s) 0<=64:=by
    rw[List.getD_eq_getElem?_getD]
    cases hk:(jG l g s)[bY s]? with
    |none=>simp
    |some y=>exact ih y (List.mem_of_getElem? hk)
   omega
theorem UA:∀g:Nat,g<7->∀s:Nat,s<2^g->bY s<=g:=by decide +kernel
theorem ajH(l:List Int)(s:Int)(k:Nat)(h:k<l.length):E7 (dT ((l.take k).map fun t=>bB s t)) (bB s l[k])=dT ((l.take (k+1)).map fun t=>bB s t):=by
 rw[aaG,List.take_succ_eq_append_getElem h,List.map_append];rfl
def jX(n:Nat):Nat->Nat
 |0=>1
 |i+1=>jX n i*(n-i)/(i+1)
def uQ(n k:Nat):Nat->Nat
 |0=>1
 |i+1=>uQ n k i*(n-k+(i+1))/(i+1)
theorem akF:∀n:Nat,n<7->∀k:Nat,k<7->k<=n->uQ n k k=jX n k:=by decide +kernel
theorem aaZ:∀n:Nat,n<7->∀k:Nat,k<7->k<=n->0<jX n k/\jX n k<=20:=by decide +kernel
theorem anZ:∀n:Nat,n<7->∀k:Nat,k<7->k<=n->∀i:Nat,i<7->i<=k->uQ n k i<=20:=by decide +kernel
theorem aq7:∀g:Nat,g<7->∀s:Nat,s<2^g->bY s<=g:=by decide +kernel
def rP(g:Nat)(l:List Int):Nat->Int
 |0=>0
 |k+1=>rP g l k+((60/jX g (bY (l.getD k 0).toNat):Nat):Int)
def tU(g:Int)(l:List Int):Int:=if aU g l then rP g.toNat l l.length else -1
theorem P9(g:Nat)(l:List Int):∀k,0<=rP g l k/\rP g l k<=60*k:=by
 intro k
 induction k with
 |zero=>simp[rP]
 |succ k ih=>rw[rP];have:=Nat.div_le_self 60 (jX g (bY (l.getD k 0).toNat));obtain⟨D,z⟩:=aJ (60/jX g (bY (l.getD k 0).toNat));rw[<-z]at this ⊢;omega
theorem QA(g:Int)(l:List Int):-1<=tU g l/\tU g l<=3840:=by
 unfold tU
 split
 ·rename_i h;have h1:=P9 g.toNat l l.length;have h2:=iL h;omega
 ·omega
def lK(s e:Int):Int:=cG s (2^e.toNat)
def DL(s:Int):List Int:=(eK s).map (lK s)
def lB(l:List Int):List Int:=l.flatMap DL
def shN(g:Int)(l:List Int):Int:=if aU g l then g else 0
def I7(g:Int)(l:List Int):List Int:=if aU g l then dT (lB l) else []
def mB(l:List Int)(s:Int):Bool:=(eK s).all fun e=>gQ l (s-2^e.toNat)
def pW(g:Int)(l:List Int):Bool:=aU g l&&l.all (mB l)
theorem adJ:∀s:Nat,s<64->∀e∈eK (s:Int),lK s e=(s:Int)-2^e.toNat:=by decide +kernel
theorem SC(s e:Int)(z:0<=s)(h1:s<64)(D:e∈eK s):lK s e=s-2^e.toNat:=by
 obtain⟨n,rfl⟩:=Int.eq_ofNat_of_zero_le z;exact adJ n aD e D
theorem agI(s e:Int)(z:0<=s/\s<64):0<=lK s e/\lK s e<64:=mY s _ 64 z.1 z.2
theorem aaN(s:Int):(DL s).length<=6:=by unfold DL;rw[List.length_map];exact uS s
theorem JA(l:List Int):(lB l).length<=6*l.length:=by
 unfold lB
 induction l with
 |nil=>simp
 |cons t m ih=>rw[List.flatMap_cons,List.length_append,List.length_cons];have:=aaN t;omega
theorem aeE(l:List Int)(k:Nat)(h:k<l.length):lB (l.take (k+1))=lB (l.take k)++DL l[k]:=by
 unfold lB;rw[List.take_succ_eq_append_getElem h,List.flatMap_append,List.flatMap_cons,List.flatMap_nil,List.append_nil]
theorem H0{g:Int}{l:List Int}(h:aU g l=true):l.length<=64:=by
 obtain⟨z,D,hm,F⟩:=dB h;have:=lH z D;exact aaY l 64 F (fun x I=>by have:=hm x I;omega)
theorem apC(g:Int)(l:List Int):(I7 g l).length<=384:=by
 unfold I7
 split
 ·rename_i h;have:=H0 h;have:=JA l;have:=KS (lB l);omega
 ·simp
theorem an7(g:Int)(l:List Int):(aU g l&&!((I7 g l).any fun s=>!gQ l s))=pW g l:=by
 unfold pW
 cases K:aU g l with
 |false=>rfl
 |true=>
  have M:I7 g l=dT (lB l):=by unfold I7;rw[K];rfl
  rw[M,Bool.true_and,Bool.true_and,Bool.eq_iff_iff,Bool.not_eq_true',List.any_eq_false,List.all_eq_true];have z:=oH K;constructor
  ·intro h s I;unfold mB;rw[List.all_eq_true];intro e D;obtain⟨k,hk,rfl⟩:=List.getElem_of_mem I;have hb:=z.2.2 k hk;have F:lK l[k] e∈dT (lB l):=by rw[nI];unfold lB;exact List.mem_flatMap.2 ⟨_,I,List.mem_map.2 ⟨e,D,rfl⟩⟩
   have:=h _ F;rw[SC _ e hb.1 hb.2 D]at this;simpa using this
  ·intro h x J;rw[nI]at J;unfold lB at J;obtain⟨s,I,J⟩:=List.mem_flatMap.1 J;obtain⟨e,D,rfl⟩:=List.mem_map.1 J;obtain⟨k,hk,rfl⟩:=List.getElem_of_mem I;have hb:=z.2.2 k hk;have:=h _ I;unfold mB at this;rw[List.all_eq_true]at this;have:=this e D;rw[SC _ e hb.1 hb.2 D];simpa using this
def C0(F B D G Y C R:ByteArray):List ByteArray:=[(⟨#[102,97,109,105,108,121]⟩:ByteArray),F,(⟨#[98,108,111,99,107,101,114]⟩:ByteArray),B,(⟨#[100,105,109,101,110,115,105,111,110]⟩:ByteArray),D,(⟨#[103,114,111,119,116,104]⟩:ByteArray),G,(⟨#[108,121,109]⟩:ByteArray),Y,(⟨#[100,105,115,99,114,101,112,97,110,99,121]⟩:ByteArray),C,(⟨#[98,121]⟩:ByteArray),R]
def NR(F B D G Y:ByteArray):ByteArray:=(⟨#[102,97,109,105,108,121,32]⟩:ByteArray)++F++(⟨#[32,98,108,111,99,107,101,114,32]⟩:ByteArray)++B++(⟨#[32,100,105,109,101,110,115,105,111,110,32]⟩:ByteArray)++D++(⟨#[32,103,114,111,119,116,104,32]⟩:ByteArray)++G++(⟨#[32,108,121,109,32]⟩:ByteArray)++Y++(⟨#[32,100,105,115,99,114,101,112,97,110,99,121,32]⟩:ByteArray)
def wP(F B D G Y C R:ByteArray):ByteArray:=NR F B D G Y++C++(⟨#[32,98,121,32]⟩:ByteArray)++R
theorem afV(F B D G Y C R:ByteArray):bR cU (C0 F B D G Y C R)=wP F B D G Y C R:=by
 unfold C0 wP NR;simp only[iU,jD];refine dO ?_;simp[cU]
def NT(F B D G Y C R:ByteArray)(z I b2 J K M:Bool):List ByteArray:=C0 F B D G Y C R++yes z (⟨#[108,97,109,105,110,97,114]⟩:ByteArray)++yes I (⟨#[99,114,111,115,115,102,114,101,101]⟩:ByteArray)++yes b2 (⟨#[105,110,116,101,114,115,101,99,116,105,110,103]⟩:ByteArray)++yes J (⟨#[97,110,116,105,99,104,97,105,110]⟩:ByteArray)++yes K (⟨#[100,111,119,110]⟩:ByteArray)++yes M (⟨#[98,97,115,101,115]⟩:ByteArray)
def zT(F B D G Y C R:ByteArray)(z I b2 J K M:Bool):ByteArray:=wP F B D G Y C R++iV z (⟨#[32,108,97,109,105,110,97,114]⟩:ByteArray)++iV I (⟨#[32,99,114,111,115,115,102,114,101,101]⟩:ByteArray)++iV b2 (⟨#[32,105,110,116,101,114,115,101,99,116,105,110,103]⟩:ByteArray)++iV J (⟨#[32,97,110,116,105,99,104,97,105,110]⟩:ByteArray)++iV K (⟨#[32,100,111,119,110]⟩:ByteArray)++iV M (⟨#[32,98,97,115,101,115]⟩:ByteArray)
theorem afY(F B D G Y C R:ByteArray)(z I b2 J K M:Bool):bR cU (NT F B D G Y C R z I b2 J K M)=zT F B D G Y C R z I b2 J K M:=by
 have N:C0 F B D G Y C R≠[]:=by simp[C0]
 have h1:=sY _ N z (⟨#[108,97,109,105,110,97,114]⟩:ByteArray);have h2:=sY _ h1 I (⟨#[99,114,111,115,115,102,114,101,101]⟩:ByteArray);have h3:=sY _ h2 b2 (⟨#[105,110,116,101,114,115,101,99,116,105,110,103]⟩:ByteArray);have h4:=sY _ h3 J (⟨#[97,110,116,105,99,104,97,105,110]⟩:ByteArray);have O:=sY _ h4 K (⟨#[100,111,119,110]⟩:ByteArray);unfold NT zT;rw[kG _ O M _ (⟨#[32,98,97,115,101,115]⟩:ByteArray) rfl,kG _ h4 K _ (⟨#[32,100,111,119,110]⟩:ByteArray) rfl,kG _ h3 J _ (⟨#[32,97,110,116,105,99,104,97,105,110]⟩:ByteArray) rfl,kG _ h2 b2 _ (⟨#[32,105,110,116,101,114,115,101,99,116,105,110,103]⟩:ByteArray) rfl,kG _ h1 I _ (⟨#[32,99,114,111,115,115,102,114,101,101]⟩:ByteArray) rfl,kG _ N z _ (⟨#[32,108,97,109,105,110,97,114]⟩:ByteArray) rfl,afV]
theorem NS(F B D G Y:ByteArray)(M:F.size<=10000)(hB:B.size<=10000)(K:D.size<=21)(N:G.size<=200)(O:Y.size<=21):(NR F B D G Y).size<=20400:=by
 unfold NR;simp only[ByteArray.size_append];have z:(⟨#[102,97,109,105,108,121,32]⟩:ByteArray).size=7:=rfl;have e1:(⟨#[32,98,108,111,99,107,101,114,32]⟩:ByteArray).size=9:=rfl;have e2:(⟨#[32,100,105,109,101,110,115,105,111,110,32]⟩:ByteArray).size=11:=rfl;have e3:(⟨#[32,103,114,111,119,116,104,32]⟩:ByteArray).size=8:=rfl;have I:(⟨#[32,108,121,109,32]⟩:ByteArray).size=5:=rfl;have J:(⟨#[32,100,105,115,99,114,101,112,97,110,99,121,32]⟩:ByteArray).size=13:=rfl;omega
theorem VV(F B D G Y C R:ByteArray)(I:F.size<=10000)(hB:B.size<=10000)(z:D.size<=21)(J:G.size<=200)(K:Y.size<=21)(hC:C.size<=21)(M:R.size<=132):(wP F B D G Y C R).size<=20600:=by
 have h:=NS F B D G Y I hB z J K;unfold wP;simp only[ByteArray.size_append];have e:(⟨#[32,98,121,32]⟩:ByteArray).size=4:=rfl;omega
theorem VX(F B D G Y C R:ByteArray)(z I b2 J K M:Bool)(h:(wP F B D G Y C R).size<=20600):(zT F B D G Y C R z I b2 J K M).size<=20700:=by
 unfold zT;simp only[ByteArray.size_append];have N:=dP z (⟨#[32,108,97,109,105,110,97,114]⟩:ByteArray);have t0:(⟨#[32,108,97,109,105,110,97,114]⟩:ByteArray).size=8:=rfl;have O:=dP I (⟨#[32,99,114,111,115,115,102,114,101,101]⟩:ByteArray);have t1:(⟨#[32,99,114,111,115,115,102,114,101,101]⟩:ByteArray).size=10:=rfl;have S:=dP b2 (⟨#[32,105,110,116,101,114,115,101,99,116,105,110,103]⟩:ByteArray);have t2:(⟨#[32,105,110,116,101,114,115,101,99,116,105,110,103]⟩:ByteArray).size=13:=rfl;have Z:=dP J (⟨#[32,97,110,116,105,99,104,97,105,110]⟩:ByteArray);have t3:(⟨#[32,97,110,116,105,99,104,97,105,110]⟩:ByteArray).size=10:=rfl;have s4:=dP K (⟨#[32,100,111,119,110]⟩:ByteArray);have t4:(⟨#[32,100,111,119,110]⟩:ByteArray).size=5:=rfl;have s5:=dP M (⟨#[32,98,97,115,101,115]⟩:ByteArray);have t5:(⟨#[32,98,97,115,101,115]⟩:ByteArray).size=6:=rfl;omega
theorem MA(g:Int)(l:List Int):(nK g l).length<=7/\∀x∈nK g l,dL x:=by
 unfold nK
 split
 ·rename_i z;obtain⟨F,I,_,_⟩:=dB z;have h2:(2:Nat)^g.toNat<=2^6:=Nat.pow_le_pow_right aQ aD;refine⟨by rw[BQ];omega,fun x D=>?_⟩;have:=MB l g.toNat (2^g.toNat) aD x D;exact⟨by omega,by omega⟩
 ·exact⟨by simp,by simp⟩
theorem KW(g:Int)(l:List Int):(eR (nK g l)).size<=200:=by
 have h:=MA g l;have h2:=lW (nK g l) h.2;omega
theorem UU(g:Int)(l:List Int):0<=yR g l/\yR g l<=6:=by
 unfold yR
 split
 ·rename_i z;obtain⟨D,F,_,_⟩:=dB z;have hm:=dR z;have h2:(2:Nat)^g.toNat<=2^6:=Nat.pow_le_pow_right aQ aD;have h3:=Nat.two_pow_pos g.toNat;have:=PL l hm (2^g.toNat-1) aD;omega
 ·omega
def fmT(g:Int)(l:List Int):ByteArray:=zT (bZ g l) (bZ (gS g l) (lD g l)) (aX (tT g l)) (eR (nK g l)) (aX (tU g l)) (aX (yR g l)) (bG g (BK g l)) (uU g l) (nA g l) (mH g l) (rT g l) (pW g l) (yO g l)
def fmL(g:Int)(l:List Int):List ByteArray:=NT (bZ g l) (bZ (gS g l) (lD g l)) (aX (tT g l)) (eR (nK g l)) (aX (tU g l)) (aX (yR g l)) (bG g (BK g l)) (uU g l) (nA g l) (mH g l) (rT g l) (pW g l) (yO g l)
theorem arZ(g:Int)(l:List Int):bR cU (fmL g l)=fmT g l:=afY _ _ _ _ _ _ _ _ _ _ _ _ _
def vO(g:Int)(l:List Int):ByteArray:=if aU g l then fmT g l else ByteArray.empty
theorem DW{g:Int}{l:List Int}(h:aU g l=true):vO g l=fmT g l:=by unfold vO;rw[if_pos h]
theorem P1{g:Int}{l:List Int}(h:aU g l=false):vO g l=ByteArray.empty:=by unfold vO;rw[h];rfl
theorem VW(g:Int)(l:List Int):(fmT g l).size<=20700:=by
 have h1:=PT g l;have h2:=QA g l;have h3:=UU g l;exact VX _ _ _ _ _ _ _ _ _ _ _ _ _ (VV _ _ _ _ _ _ _ (fG _ _) (fG _ _) (cM _ ⟨by omega,by omega⟩) (KW g l) (cM _ ⟨by omega,by omega⟩) (cM _ ⟨by omega,by omega⟩) (fA _ _))
end
end Go.Proofs.YtkdbkjjacgigiaaGreatDoor
