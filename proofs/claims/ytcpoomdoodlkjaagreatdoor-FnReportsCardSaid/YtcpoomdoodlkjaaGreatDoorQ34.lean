/- Lemmas for CardReports. No condition. -/
import Derived.Test.YtcpoomdoodlkjaaGreatDoorQ16
import Derived.Test.YtcpoomdoodlkjaaGreatDoorQ30
import Derived.Deep.DeepCutAuto
set_option maxRecDepth 100000
set_option maxHeartbeats 64000000
namespace Go.Proofs.YtcpoomdoodlkjaaGreatDoor
section
open Go.RowKit Go.G5 Go.Proofs.Tryz
theorem WZ{n:Int}{l:List Int}(h:bM n l=true):l.length<=32:=by
 obtain⟨_,_,_,_,z,_⟩:=cX h;exact z
def mE(n:Int)(l:List Int):ByteArray:=if bM n l=true then cK hJ (l.map bQ) else ByteArray.empty
theorem JH(n:Int)(l:List Int):(mE n l).size<=704:=by
 unfold mE
 split
 ·rename_i h;obtain⟨N,_,_,_,D,z⟩:=cX h;have:=sZ l (fun x F=>by obtain⟨k,hk,rfl⟩:=List.mem_iff_getElem.1 F;have:=z k hk;exact⟨by omega,by omega⟩);omega
 ·simp
theorem U5(n:Int)(l:List Int)(v:Value)(w:World)(O:aR w v l)(Z:sV w):
  Calls prog 37 #[.agg #[n,v]] w fun e w'=>e=.returned (.string (mE n l))/\Below w w w':=by
 have I:=O;obtain⟨a,c,rfl⟩:=O.shape;have S:=aU.new w 26 #[n,aI a l.length c];go_enter func37,ntmps37;go_wp2_with fail;refine(dV n l _ _ (I.alloc _)).mono ?_;rintro e w1 ⟨rfl,D⟩;have Y:=S.keep D;have z:Below w w w1:=(bF _ _).after D (by simp);have G1:=Y.cell
 cases F:bM n l with
 |false=>
  have J:mE n l=ByteArray.empty:=by unfold mE;rw[F];rfl
  have K:=aN J;clear J F;go_wp2;go_ret;exact⟨cI K.out.symm,z⟩
 |true=>
  have J:mE n l=cK hJ (l.map bQ):=by unfold mE;rw[if_pos F]
  have M:=WZ F;have R:=aN (wH l _ w1 (I.below z aO) aK (Z.keep z));have K:=aN J;clear J F M;go_wp2_with fail;refine R.out.mono ?_;rintro e w2 ⟨rfl,N⟩;go_wp2;go_ret;exact⟨cI K.out.symm,z.after N z.size⟩
theorem U6(n:Int)(l:List Int)(v:Value)(w:World)(hv:aR w v l):
  Calls prog 52 #[.agg #[n,v]] w fun e w'=>e=.returned (.string (mE n l))/\Below w w w':=by
 have b5:=hv;have a9:=hv.inR;obtain⟨a,b,e9,c,rfl,b1,b0,hc,hb⟩:=hv.view prog 24 3 underlying24 aS;have K0:=aU.new w 26 #[n,aI a l.length c];have HC:=aN hc;have Y:=aN a9;have b9:=aN b0;clear hc a9 b0 b1
 cases N:bM n l with
 |false=>
  have J:mE n l=ByteArray.empty:=by unfold mE;rw[N];rfl
  have HX:=aN J;have HF:=aN N;clear J N;go_enter func52,ntmps52;go_wp2_with fail;go_loopw [3,4] (fun sv iv wr=>iv=aM 0/\sv=.string ⟨#[]⟩/\Below w w wr/\aU wr w 26 #[n,aI a l.length c]) (fun _ _ _=>0)
  case atStart=>exact⟨rfl,rfl,bF _ _,K0⟩
  case round=>obtain⟨rfl,rfl,B,K⟩:=hrel;have G1:=K.cell;go_wp2_with fail;refine(dJ n l _ _ (b5.below B aO)).mono ?_;rintro e w1 ⟨rfl,z⟩;rw[HF.out];go_wp2;go_ret;exact⟨cI HX.out.symm,B.after z B.size⟩
 |true=>
  have J:mE n l=cK hJ (l.map bQ):=by unfold mE;rw[if_pos N]
  have d0:=WZ N;have hl:l.length<=1000:=aK;have HX:=aN J;have HF:=aN N;clear J N d0;go_enter func52,ntmps52;go_wp2_with fail;go_loopw [3,4] (fun sv iv wr=>∃(k:Nat) (S:ByteArray),k<=l.length/\iv=aM k/\sv=.string S/\S=cK hJ ((l.take k).map bQ)/\Below w w wr/\aU wr w 26 #[n,aI a l.length c]) (fun _ iv _=>l.length-(intOf iv).toNat)
  case atStart=>exact⟨0,_,Nat.zero_le _,rfl,rfl,rfl,bF _ _,K0⟩
  case round=>
   obtain⟨k,S,hk,rfl,rfl,F,B,K⟩:=hrel;obtain⟨wz,rfl⟩:∃q:World,q=wr:=⟨_,rfl⟩;have HS:=aN F;clear F K0;have G1:=K.cell;go_wp2_with fail;refine(dJ n l _ _ (b5.below B aO)).mono ?_;rintro e w1 ⟨rfl,z⟩;rw[HF.out];have K:=K.keep z;have B:=B.after z B.size;clear G1 z;have G1:=K.cell;have F:=HS.out;have e6:S.size<=22000:=by rw[F];exact zS l k Y.out hl hk
   by_cases hlt:k<l.length
   ·have b4:(k:Int)<(l.length:Int):=aK;have d7:=aW HC.out hb B aO k hlt;have e8:=fun W=>b9.out W k hlt;have D:=zR l k hlt;have O:=Y.out l[k] (List.getElem_mem hlt);rw[<-F]at D;have M:k=0->S=ByteArray.empty:=fun h=>by rw[F,h];rfl
    obtain⟨x,J⟩:=aQ (l[k]);rw[<-J]at d7 D O;have hT:=cW x O;have hF:=fX x O w1;obtain⟨T,a7⟩:=aQ (bQ x);rw[<-a7]at D hT hF;have R:=aN hF;have Z:=aN D;clear hF D J a7 F HS;by_cases I:k=0
    ·have d6:=M I;subst d6;have c5:=aN I;have d8:¬0<(k:Int):=aK;have a8:¬0<k:=aK;clear M I;go_wp2_with fail;refine R.out.mono ?_;rintro e w3 ⟨rfl,b3⟩;have B:=B.after b3 B.size;have K:=K.keep b3;go_wp2;go_roundw
     case rel=>exact⟨k+1,_,by omega,by go_num,rfl,by rw[Z.out,if_pos c5.out],B,K⟩
     case measure=>simp[intOf];omega
    ·have d8:0<(k:Int):=aK;have a8:0<k:=aK;have e5:(S++hJ).size<=22001:=by rw[ByteArray.size_append];show S.size+1<=22001;omega
     clear M;go_wp2_with fail;refine R.out.mono ?_;rintro e w3 ⟨rfl,b3⟩;have B:=B.after b3 B.size;have K:=K.keep b3;go_wp2;go_roundw
     case rel=>exact⟨k+1,_,by omega,by go_num,rfl,by rw[Z.out,if_neg I];rfl,B,K⟩
     case measure=>simp[intOf];omega
   ·have b4:¬(k:Int)<(l.length:Int):=aK;have a6:mE n l=S:=by rw[HX.out,F,show k=l.length by omega,List.take_length]
    have c7:=aN a6;clear a6 F HS;go_wp2;go_ret;exact⟨cI c7.out.symm,B⟩
theorem kR(g:Int)(l:List Int)(v:Value)(w:World)(hv:aR w v l):
  Calls prog 79 #[.agg #[g,v]] w fun e w'=>e=.returned (.string (dB g l))/\Below w w w':=by
 have J:=hv;obtain⟨a,b,e9,c,rfl,c6,c5,hc,hb⟩:=hv.view prog 24 3 underlying24 aS;have K0:=aU.new w 31 #[g,aI a l.length c];have HC:=aN hc;have d7:=aN c5;clear hc c5 c6
 cases R:bJ g l with
 |false=>
  have hx:dB g l=ByteArray.empty:=by unfold dB;rw[R];rfl
  have HX:=aN hx;have HF:=aN R;clear hx R;go_enter func79,ntmps79;go_wp2_with fail;go_loopw [3,4] (fun sv iv wr=>iv=aM 0/\sv=.string ⟨#[]⟩/\Below w w wr/\aU wr w 31 #[g,aI a l.length c]) (fun _ _ _=>0)
  case atStart=>exact⟨rfl,rfl,bF _ _,K0⟩
  case round=>
   obtain⟨rfl,rfl,B,K⟩:=hrel;have G1:=K.cell;by_cases D:0<l.length
   ·have e8:(0:Int)<(l.length:Int):=aK;go_wp2_with fail;refine(cS g l _ _ (J.below B aO)).mono ?_;rintro e w1 ⟨rfl,z⟩;rw[HF.out];have K:=K.keep z;have B:=B.after z B.size;clear G1;have G1:=K.cell;go_wp2_with fail;refine(cS g l _ _ (J.below B aO)).mono ?_;rintro e w2 ⟨rfl,F⟩;rw[HF.out];go_wp2;go_ret;exact⟨cI HX.out.symm,B.after F B.size⟩
   ·have e8:¬(0:Int)<(l.length:Int):=aK;go_wp2_with fail;refine(cS g l _ _ (J.below B aO)).mono ?_;rintro e w2 ⟨rfl,F⟩;rw[HF.out];go_wp2;go_ret;exact⟨cI HX.out.symm,B.after F B.size⟩
 |true=>
  have e4:=jT R;have c8:dB g l=if l=[] then zI else cK vV (l.map (bZ g)):=by unfold dB;rw[if_pos R]
  have O:(cK vV (l.map (bZ g))=ByteArray.empty)=(l=[]):=adD g l (ahT R);have d6:=aN O;have b4:=aN c8;have HF:=aN R;clear c8 R O;go_enter func79,ntmps79;go_wp2_with fail;go_loopw [3,4] (fun sv iv wr=>∃(k:Nat) (S:ByteArray),k<=l.length/\iv=aM k/\sv=.string S/\S=cK vV ((l.take k).map (bZ g))/\Below w w wr/\aU wr w 31 #[g,aI a l.length c]) (fun _ iv _=>l.length-(intOf iv).toNat)
  case atStart=>exact⟨0,_,Nat.zero_le _,rfl,rfl,rfl,bF _ _,K0⟩
  case round=>
   obtain⟨k,S,hk,rfl,rfl,Z,B,K⟩:=hrel;obtain⟨wz,rfl⟩:∃q:World,q=wr:=⟨_,rfl⟩;have f8:S.size<=22000:=by rw[Z];exact aaE g l k e4 hk
   have HS:=aN Z;clear Z K0;have G1:=K.cell;by_cases hlt:k<l.length
   ·have c7:(k:Int)<(l.length:Int):=aK;go_wp2_with fail;refine(cS g l _ _ (J.below B aO)).mono ?_;rintro e w1 ⟨rfl,z⟩;rw[HF.out];have K:=K.keep z;have B:=B.after z B.size;clear G1 z;have Z:=HS.out;have a6:=aW HC.out hb B aO k hlt;have g0:=fun W=>d7.out W k hlt;have I:=aaD g l k hlt;rw[<-Z]at I;have a1:k=0->S=ByteArray.empty:=fun h=>by rw[Z,h];rfl
    obtain⟨x,hx⟩:=aQ (l[k]);rw[<-hx]at a6 I;have hT:=fF g x;have hF:=fun y:Ext w1=>kS g x y.w;obtain⟨T,b8⟩:=aQ (bZ g x);rw[<-b8]at I hT hF;have b1:=aN hF;have b5:=aN I;have f0:=K.cell 0;have f1:=K.cell 1;simp only[List.getElem?_toArray,List.getElem?_cons_zero,List.getElem?_cons_succ]at f0 f1;have q0:∀y:Ext w1,y.w.cell? ⟨w.heap.size,0,none⟩=some (aM g):=fun y=>y.cell f0;have q1:∀y:Ext w1,y.w.cell? ⟨w.heap.size,1,none⟩=some (aI a l.length c):=fun y=>y.cell f1;have qk:∀y:Ext w1,y.w.cell? ⟨b,e9+k,none⟩=some (aM x):=fun y=>y.cell a6;clear hF I hx b8 Z HS f0 f1 a6;by_cases N:k=0
    ·have e6:=a1 N;subst e6;have d8:=aN N;have e7:¬0<(k:Int):=aK;have b9:¬0<k:=aK;clear a1 N;go_wp2_with fail;refine bN _ aT aT ?_
     repeat(first|go_big_quiet_skip|(go_big_quiet_want;go_big_quiet_op;first|go_big_quiet_on|(apply Exists.intro;refine⟨fun _=>?_,?_⟩;(go_at_call 80;with_reducible exact bO (b1.out _));go_big_quiet_on)))
     refine wpQuiet_nil ?_;rintro w3 ⟨⟨w3,b3⟩,rfl⟩
     try dsimp only
     have B:=B.after b3 B.size;have K:=K.keep b3;go_wp2;go_roundw
     case rel=>exact⟨k+1,_,by omega,by go_num,rfl,by rw[b5.out,if_pos d8.out],B,K⟩
     case measure=>simp[intOf];omega
    ·have e7:0<(k:Int):=aK;have b9:0<k:=aK;have f7:(S++vV).size<=22001:=by rw[ByteArray.size_append];show S.size+1<=22001;omega
     clear a1;go_wp2_with fail;refine bN _ aT aT ?_
     repeat(first|go_big_quiet_skip|(go_big_quiet_want;go_big_quiet_op;first|go_big_quiet_on|(apply Exists.intro;refine⟨fun _=>?_,?_⟩;(go_at_call 80;with_reducible exact bO (b1.out _));go_big_quiet_on)))
     refine wpQuiet_nil ?_;rintro w3 ⟨⟨w3,b3⟩,rfl⟩
     try dsimp only
     have B:=B.after b3 B.size;have K:=K.keep b3;go_wp2;go_roundw
     case rel=>exact⟨k+1,_,by omega,by go_num,rfl,by rw[b5.out,if_neg N];rfl,B,K⟩
     case measure=>simp[intOf];omega
   ·have c7:¬(k:Int)<(l.length:Int):=aK;have M:S=cK vV (l.map (bZ g)):=by rw[HS.out,show k=l.length by omega,List.take_length]
    have a8:=NH S;have a7:decide (S=ByteArray.empty)=decide (l=[]):=by rw[M];simp only[d6.out]
    rw[a7]at a8
    cases h0:decide (l=[]) with
    |true=>
     have D:dB g l=zI:=by rw[b4.out,if_pos (of_decide_eq_true h0)]
     rw[h0]at a8;have Y:=aN D;clear h0 a7 M D HS;go_wp2_with fail;refine(cS g l _ _ (J.below B aO)).mono ?_;rintro e w2 ⟨rfl,F⟩;rw[HF.out];go_wp2;go_ret;exact⟨cI Y.out.symm,B.after F B.size⟩
    |false=>
     have D:dB g l=S:=by rw[b4.out,if_neg (of_decide_eq_false h0)];exact M.symm
     rw[h0]at a8;have Y:=aN D;clear h0 a7 M D HS;go_wp2;go_ret;exact⟨cI Y.out.symm,B⟩
end
section
open Go.RowKit Go.G5 Go.Proofs.Tryz
end
section
open Go.RowKit Go.G5 Go.Proofs.Tryz
def ofW:ByteArray:=⟨#[111,102]⟩
def ajG:ByteArray:=⟨#[102,111,114]⟩
def ajC:ByteArray:=⟨#[97,110,100]⟩
def dS:ByteArray:=⟨#[32]⟩
theorem mY(z x y:ByteArray)(r:List ByteArray):cK z (x::y::r)=x++z++cK z (y::r):=by
 refine eV ?_;rw[kE,kE];show Lib.join ((x::y::r).map (·.data.toList)) z.data.toList=x.data.toList++z.data.toList++Lib.join ((y::r).map (·.data.toList)) z.data.toList;rw[List.map_cons,List.map_cons,Lib.join_cons,Lib.join_cons];simp[Lib.joinTail,List.append_assoc]
theorem d1:dS.data.toList=[32]:=rfl
theorem d2:ofW.data.toList=[111,102]:=rfl
theorem d3:ajG.data.toList=[102,111,114]:=rfl
theorem d4:ajC.data.toList=[97,110,100]:=rfl
end
end Go.Proofs.YtcpoomdoodlkjaaGreatDoor
section
namespace Go.G5
open Go Go.RowKit
theorem ND{P:Program}{w:World}{t u z e D:TypeId}(ht:P.underlying t=some (.slice e))(F:P.underlying u=some (.slice D))(s x:Value):
  (Builtin.append_ #[t,u] z #[s,x]).run P w=(Builtin.append_ #[t,t] z #[s,x]).run P w:=by
 unfold Builtin.append_
 cases s with
 |slice b n c=>simp[run_underlying ht,run_underlying F]
 |_=>simp[run_underlying ht]
theorem LN{P:Program}{w:World}{ops:Array Oper}{rest:List Oper}{o:Oper}{a:Act}{Q:Exit->Act->World->Prop}(O:o.guard=none)(s x:Operand)(t u:TypeId)
  (ho:o.op=.call { callee:=.builtin .append,args:=#[s,x],argTypes:=#[t,u] })
  (E Z:TypeId) (ht:P.underlying t=some (.slice E)) (S:P.underlying u=some (.slice Z)) (hE:StrElem P E) (B:Nat) (v:Value) (l z:List ByteArray) (b m c:Nat) (hs:a.eval s=v) (hx:a.eval x=aI (some ⟨b,0,none⟩) m c) (hm:m=z.length)
  (hy:∀(j:Nat) y,z[j]?=some y->w.cell? ⟨b,0+j,none⟩=some (.string y))
  (N:eI E B w v l) (Y:l.length+z.length<1000000) (hB:B<=w.heap.size)
  (h:∀F w',eI E B w' F (l++z)->w.grownBy w' v.ownBlock->(F.ownBlock=v.ownBlock∨F.ownBlock=some w.heap.size)->wpList P ops Q rest (a.put o.dst F) w'):wpList P ops Q (o::rest) a w:=by
 obtain⟨i,hi,hz,h1,h8⟩:=hE.get;subst hm;have D:∀j u,(z.map Value.string)[j]?=some u->w.cell? ((⟨b,0,none⟩:Addr).add j)=some u:=by
  intro j u I;rw[List.getElem?_map]at I
  cases R:z[j]? with
  |none=>rw[R]at I;cases I
  |some y=>
   rw[R]at I
   cases I
   have:=hy j y R;have e:(⟨b,0,none⟩:Addr).add j=⟨b,0+j,none⟩:=by
    unfold Addr.add;by_cases J:j=0
    ·subst J;simp
    ·simp[J]
   rw[e];exact this
 have M:∀u∈z.map Value.string,u.oneCell'=true:=by
  intro u S;obtain⟨y,_,rfl⟩:=List.mem_map.1 S
  rfl
 obtain⟨F,w',hr,h2,h3,_,h5⟩:=run_append_own_at (P:=P) w B t o.type E i (.string ByteArray.empty) 1 16 ht hi hz h1 h8 rfl aY v l.length (l.map Value.string) N ⟨b,0,none⟩ z.length c (z.map Value.string) (by simp) D M (by unfold maxLen;omega) aK hB;refine wpList_plain O fun K hK=>?_;unfold Oper.wp execOp;simp only[ho,resolve,invoke,builtin,Sem.run_bind,Sem.run_pure,Result.andThen_ok,List.map_toArray,List.map_cons,List.map_nil,hs,hx,ND ht S,hr];exact hK _ _ (h F w' (by simpa[eI]using h2) h3 h5)
end Go.G5
namespace Go.Proofs.YtcpoomdoodlkjaaGreatDoor
open Go.RowKit Go.G5 Go.Proofs.Tryz
def gT(z:Nat)(w:World)(D:List ByteArray):Prop:=∃v,aU w z 45 #[v]/\eI 9 (z+1) w v D
theorem gT.keep{z:Nat}{w w':World}{D:List ByteArray}(h:gT z w D)(hb:Below w w w'):gT z w' D:=by
 obtain⟨v,k,o⟩:=h;exact⟨v,k.keep hb,o.keep hb⟩
theorem gT.lt{z:Nat}{w:World}{D:List ByteArray}(h:gT z w D):z<w.heap.size:=by
 obtain⟨v,k,o⟩:=h;exact k.lt
theorem gT.new(w:World):gT w.heap.size (w.alloc (.cells #[()] 45)) []:=⟨_,aU.new _ _ _,eI.nil _ _ _⟩
theorem bY{z g:Nat}{w w':World}{t:TypeId}{cs:Array Value}(h:aU w g t cs)(hb:Below z w w')(D:g<z):aU w' g t cs:=(hb.block g D).trans h
theorem eI.growIn{w w':World}{P:Nat->Prop}{E:TypeId}{B:Nat}{v:Value}{l:List ByteArray}(h:eI E B w v l)(J:GrownIn w w' P)(K:∀k,v.ownBlock=some k->¬P k):eI E B w' v l:=by
 obtain⟨I,h1⟩:=h;refine⟨I,?_⟩;rcases h1 with h1|⟨g,cap,D,rfl,F,z,r⟩
 ·exact .inl h1
 ·exact .inr ⟨g,cap,D,rfl,F,by rw[J.block g (by have:=(Array.getElem?_eq_some_iff.1 z).1;omega) (K g rfl)];exact z,r⟩
theorem OE(z:Nat)(v:Value)(M I:List ByteArray)(b m c:Nat)(w:World)(K:aU w z 45 #[v])(Y:eI 9 (z+1) w v M)(hm:m=I.length)
  (hy:∀(j:Nat) y,I[j]?=some y->w.cell? ⟨b,0+j,none⟩=some (.string y)) (J:M.length+I.length<1000000):
  Calls prog 36 #[.pointer (some ⟨z,0,none⟩),aI (some ⟨b,0,none⟩) m c] w fun e w'=>e=.returned (.tuple #[])/\∃v',aU w' z 45 #[v']/\eI 9 (z+1) w' v' (M++I) /\
   (∀k,v'.ownBlock=some k->v.ownBlock=some k∨w.heap.size<=k)/\GrownIn w w' (fun k=>k=z∨v.ownBlock=some k):=by
 obtain⟨a,n,cp,rfl⟩:=Y.shape3;have zo:=K.lt;have hlt:=Y.lt;have G:=K.cell;have F:=K.frozen;go_enter func36,ntmps36;go_wp2_with (at_builtin;refine LN rfl _ _ _ _ rfl 9 9 underlying45 underlying44 E1 (z+1) (aI a n cp) M I b m c rfl rfl hm hy Y J aK ?_;intro v7 w7 Z g7 h7;obtain⟨O,N,R,rfl⟩:=Z.shape3;have S:=K.grow g7 (by intro e;have:=(hlt _ e).1;omega);have G7:=S.cell;have F7:=S.frozen);refine bG ?_;intro Wf D;have KF:aU Wf z 45 #[aI O N R]:=by rw[D];have:=S.set 0 (aI O N R);simpa using this
 have gF:w7.grownBy Wf (some z):=by rw[D];exact dW (World.grownBy.refl _ _) 0 _
 have lt7:=Z.lt;have oF:eI 9 (z+1) Wf (aI O N R) (M++I):=Z.grown gF (by
  by_cases h:(Value.slice O N R).ownBlock=some z
  ·have:=(lt7 _ h).1;omega
  ·exact .inr h)
 have hG:GrownIn w Wf (fun k=>k=z∨(Value.slice a n cp).ownBlock=some k):=(GrownIn.of_row g7 (fun k hk=>.inr hk)).trans (GrownIn.of_row gF (fun k hk=>.inl (Option.some.inj hk).symm));clear D G7 F7 G F;exact bodyPost_end (v:=.tuple #[]) (results_none rfl _ _ _) rfl ⟨rfl,_,KF,oF,fun k hk=>by
  rcases h7 with h|h
  ·exact .inl (h▸hk)
  ·rw[h]at hk;exact .inr (by have:=Option.some.inj hk;omega),hG⟩
theorem OF{z:Nat}{v:Value}{F I:List ByteArray}{w w':World}(K:aU w z 45 #[v])(J:eI 9 (z+1) w v F)
  (h:∃D,aU w' z 45 #[D]/\eI 9 (z+1) w' D (F++I)/\(∀k,D.ownBlock=some k->v.ownBlock=some k∨w.heap.size<=k)/\GrownIn w w' (fun k=>k=z∨v.ownBlock=some k)):gT z w' (F++I)/\Below z w w':=by
 obtain⟨D,k,o,_,g⟩:=h;have M:=K.lt;exact⟨⟨D,k,o⟩,Below.growIn (Below.refl z w) g aK (by
  rintro q (h|h)
  ·omega
  ·have:=(J.lt q h).1;omega)⟩
theorem dQ(z:Nat)(I F:List ByteArray)(b m c:Nat)(w:World)(L:gT z w I)(hm:m=F.length)
  (N:∀(j:Nat) y,F[j]?=some y->w.cell? ⟨b,0+j,none⟩=some (.string y)) (D:I.length+F.length<1000000):
  Calls prog 36 #[.pointer (some ⟨z,0,none⟩),aI (some ⟨b,0,none⟩) m c] w fun e w'=>e=.returned (.tuple #[])/\gT z w' (I++F)/\Below z w w':=by
 obtain⟨v,K,J⟩:=L;exact(OE z v I F b m c w K J hm N D).mono fun e w' ⟨M,h⟩=>⟨M,OF K J h⟩
theorem fR{w:World}{b:Nat}{x y:ByteArray}(F:w.cell? ⟨b,0,none⟩=some (.string x))(h1:w.cell? ⟨b,1,none⟩=some (.string y)):∀(j:Nat) z,[x,y][j]?=some z->w.cell? ⟨b,0+j,none⟩=some (.string z):=by
 intro j z D
 match j,D with
 |0,D=>cases D;exact F
 |1,D=>cases D;exact h1
theorem yM{w:World}{b:Nat}{x:ByteArray}(F:w.cell? ⟨b,0,none⟩=some (.string x)):∀(j:Nat) z,[x][j]?=some z->w.cell? ⟨b,0+j,none⟩=some (.string z):=by
 intro j z D
 match j,D with
 |0,D=>cases D;exact F
theorem lO{B B':Nat}{w w1 w2:World}(h:Below B' w w1)(k:Below B w1 w2)(hB:B<=B'):Below B w w2:=(h.mono hB).trans k
theorem eW(z:Nat)(D:List ByteArray)(I:ByteArray)(n:Int)(N:dD n)(w:World)(L:gT z w D)(O:sV w)(J:D.length<1000):
  Calls prog 38 #[.pointer (some ⟨z,0,none⟩),.string I,n] w fun e w'=>e=.returned (.tuple #[])/\gT z w' (D++[I,bQ n])/\Below z w w':=by
 have S:=L.lt;go_enter func38,ntmps38;go_wp2_with fail;refine(GL n N w O).mono ?_;rintro e w1 ⟨rfl,F⟩;have K:=L.keep F;go_wp2_with fail;refine(dQ z D [I,bQ n] w1.heap.size 2 2 _ (K.keep (bF _ _)) rfl (fR (bB _ _ _ _ _ rfl) (bB _ _ _ _ _ rfl)) aV).mono ?_;rintro e w2 ⟨rfl,M,b2⟩;have R:=F.size;go_wp2;exact bodyPost_end (v:=.tuple #[]) (results_none rfl _ _ _) rfl ⟨rfl,M,lO F (lO (bF w1 _) b2 aK) aK⟩
theorem kX(z:Nat)(I:List ByteArray)(J:ByteArray)(Y:Value)(l:List Int)(w:World)(S:aR w Y l)(hl:l.length<=1000)(L:gT z w I)(hp:sV w)(R:I.length<1000):
  Calls prog 39 #[.pointer (some ⟨z,0,none⟩),.string J,Y] w fun e w'=>e=.returned (.tuple #[])/\gT z w' (I++[J,eX l])/\Below z w w':=by
 have zo:=L.lt;have O:=S;obtain⟨a,c,rfl⟩:=S.shape;by_cases D:l=[]
 ·have F:eX l=zI:=by unfold eX;rw[if_pos D]
  have K:=aN F;have hz:¬(0:Int)<(l.length:Int):=by subst D;simp
  clear F D;go_enter func39,ntmps39;go_wp2_with fail;refine(dQ z I [J,zI] w.heap.size 2 2 _ (L.keep (bF _ _)) rfl (fR (bB _ _ _ _ _ rfl) (bB _ _ _ _ _ rfl)) aV).mono ?_;rintro e w2 ⟨rfl,M,b2⟩;go_wp2;exact bodyPost_end (v:=.tuple #[]) (results_none rfl _ _ _) rfl ⟨rfl,by rw[K.out];exact M,lO (bF w _) b2 aK⟩
 ·have F:eX l=cK hJ (l.map bQ):=by unfold eX;rw[if_neg D]
  have K:=aN F;have hz:(0:Int)<(l.length:Int):=by have:l.length≠0:=fun e=>D (List.eq_nil_of_length_eq_zero e);omega
  clear F D;go_enter func39,ntmps39;go_wp2_with fail;refine(wH l _ w O hl hp).mono ?_;rintro e w1 ⟨rfl,N⟩;rw[<-K.out];have Z:=L.keep N;have z1:=N.size;go_wp2_with fail;refine(dQ z I [J,eX l] w1.heap.size 2 2 _ (Z.keep (bF _ _)) rfl (fR (bB _ _ _ _ _ rfl) (bB _ _ _ _ _ rfl)) aV).mono ?_;rintro e w2 ⟨rfl,M,b2⟩;go_wp2;exact bodyPost_end (v:=.tuple #[]) (results_none rfl _ _ _) rfl ⟨rfl,M,lO N (lO (bF w1 _) b2 aK) aK⟩
def eB(b:Bool)(x:ByteArray):List ByteArray:=if b then [x] else []
theorem fY(z:Nat)(D:List ByteArray)(F:ByteArray)(h:Bool)(w:World)(L:gT z w D)(I:D.length<1000):
  Calls prog 42 #[.pointer (some ⟨z,0,none⟩),.string F,.bool h] w fun e w'=>e=.returned (.tuple #[])/\gT z w' (D++eB h F)/\Below z w w':=by
 have K:=L.lt
 cases h with
 |false=>go_enter func42,ntmps42;go_wp2;exact bodyPost_end (v:=.tuple #[]) (results_none rfl _ _ _) rfl ⟨rfl,by show gT z w (D++[]);rw[List.append_nil];exact L,Below.refl _ _⟩
 |true=>go_enter func42,ntmps42;go_wp2_with fail;refine(dQ z D [F] w.heap.size 1 1 _ (L.keep (bF _ _)) rfl (yM (bB _ _ _ _ _ rfl)) aV).mono ?_;rintro e w2 ⟨rfl,J,b2⟩;go_wp2;exact bodyPost_end (v:=.tuple #[]) (results_none rfl _ _ _) rfl ⟨rfl,J,lO (bF w _) b2 aK⟩
def eH:ByteArray:=⟨#[32]⟩
theorem dP(B:Nat)(v:Value)(D:List ByteArray)(w:World)(F:eI 9 B w v D)(z:(cK eH D).size<=100000000)(K:D.length<=1000000):
  Calls prog 50 #[v] w fun e w'=>e=.returned (.string (cK eH D))/\Below w w w':=by
 obtain⟨a,n,c,rfl⟩:=F.shape3;have I:=aN (GU B w (aI a n c) D eH F z K);go_enter func50,ntmps50;go_wp2_with fail;refine I.out.mono ?_;rintro e w1 ⟨rfl,J⟩;go_wp2;go_ret;exact⟨rfl,J⟩
def tE(z:Nat)(u:Value)(w:World)(D:List ByteArray):Prop:=∃v,aU w z 45 #[v]/\eI 9 (z+1) w v D/\∀k,v.ownBlock=some k->u.ownBlock≠some k
theorem tE.line{z:Nat}{u:Value}{w:World}{D:List ByteArray}(h:tE z u w D):gT z w D:=by
 obtain⟨v,k,o,_⟩:=h;exact⟨v,k,o⟩
theorem tE.keep{z:Nat}{u:Value}{w w':World}{D:List ByteArray}(h:tE z u w D)(hb:Below w w w'):tE z u w' D:=by
 obtain⟨v,k,o,a⟩:=h;exact⟨v,k.keep hb,o.keep hb,a⟩
theorem gT.far{z:Nat}{u:Value}{w w':World}{D:List ByteArray}(h:gT z w D)(hb:Below w w w')(J:∀k,u.ownBlock=some k->w.heap.size<=k):tE z u w' D:=by
 obtain⟨v,k,o⟩:=h;exact⟨v,k.keep hb,o.keep hb,fun q I F=>by have:=(o.lt q I).2;have:=J q F;omega⟩
theorem abU(D:Nat)(u:Value)(N M:List ByteArray)(b m c:Nat)(w:World)(L:tE D u w N)(O:∀k,u.ownBlock=some k->D<k/\k<w.heap.size)(hm:m=M.length)
  (hy:∀(j:Nat) y,M[j]?=some y->w.cell? ⟨b,0+j,none⟩=some (.string y)) (F:N.length+M.length<1000000):
  Calls prog 36 #[.pointer (some ⟨D,0,none⟩),aI (some ⟨b,0,none⟩) m c] w fun e w'=>e=.returned (.tuple #[])/\tE D u w' (N++M)/\Below D w w'/\∀k,u.ownBlock=some k->w'.heap[k]?=w.heap[k]?:=by
 obtain⟨v,K,S,R⟩:=L;refine(OE D v N M b m c w K S hm hy F).mono fun e w' ⟨Z,Y,k,o,z,g⟩=>⟨Z,⟨Y,k,o,fun q I J=>?_⟩,(OF K S ⟨Y,k,o,z,g⟩).2,fun q I=>?_⟩
 ·rcases z q I with h|h
  ·exact R q h J
  ·have:=(O q J).2;omega
 ·refine g.block q (O q I).2 ?_;rintro(h|h)
  ·have:=(O q I).1;omega
  ·exact R q h I
theorem zD(z:Nat)(u:Value)(F:List ByteArray)(J:ByteArray)(n:Int)(R:dD n)(w:World)(L:tE z u w F)(M:∀k,u.ownBlock=some k->z<k/\k<w.heap.size)(S:sV w)(K:F.length<1000):
  Calls prog 38 #[.pointer (some ⟨z,0,none⟩),.string J,n] w fun e w'=>e=.returned (.tuple #[])/\tE z u w' (F++[J,bQ n])/\Below z w w'/\∀k,u.ownBlock=some k->w'.heap[k]?=w.heap[k]?:=by
 have zo:=L.line.lt;have I:=aN M;clear M;go_enter func38,ntmps38;go_wp2_with fail;refine(GL n R w S).mono ?_;rintro e w1 ⟨rfl,D⟩;have N:=L.keep D;have Z:=D.size;go_wp2_with fail;refine(abU z u F [J,bQ n] w1.heap.size 2 2 _ (N.keep (bF _ _)) (fun k hk=>⟨(I.out k hk).1,by have:=(I.out k hk).2;simp;omega⟩) rfl (fR (bB _ _ _ _ _ rfl) (bB _ _ _ _ _ rfl)) aV).mono ?_;rintro e w2 ⟨rfl,O,b2,Y⟩;go_wp2;refine bodyPost_end (v:=.tuple #[]) (results_none rfl _ _ _) rfl ⟨rfl,O,lO D (lO (bF w1 _) b2 aK) aK,fun k hk=>?_⟩;have h1:=(I.out k hk).2;rw[Y k hk,(bF w1 _).block k aK,D.block k h1]
theorem yX{w w':World}{v:Value}{l:List Int}(h:aR w v l)(I:w.heap.size<=w'.heap.size)(F:∀k,v.ownBlock=some k->w'.heap[k]?=w.heap[k]?):aR w' v l:=by
 obtain⟨a,c,rfl,h1,h2,h3,h4⟩:=h;refine⟨a,c,rfl,h1,h2,h3,?_⟩;rcases h4 with h4|⟨b,D,rfl,hb,hc⟩
 ·exact .inl h4
 ·refine .inr ⟨b,D,rfl,Nat.lt_of_lt_of_le hb I,fun k hk=>?_⟩;have z:=hc k hk;have e:=F b rfl;unfold World.cell? at z ⊢;simp only at z ⊢;rw[e];exact z
end Go.Proofs.YtcpoomdoodlkjaaGreatDoor
end
namespace Go.Proofs.YtcpoomdoodlkjaaGreatDoor
section
open Go.RowKit Go.G5 Go.Proofs.Tryz
def jL(b:Bool)(x:ByteArray):ByteArray:=if b then x else ByteArray.empty
theorem kI(z:List ByteArray)(h:z≠[])(b:Bool)(x y:ByteArray)(D:y=dS++x):cK dS (z++eB b x)=cK dS z++jL b y:=by
 subst D
 cases b with
 |false=>show cK dS (z++[])=cK dS z++ByteArray.empty;rw[List.append_nil];exact eV (by rw[kE];simp)
 |true=>show cK dS (z++[x])=cK dS z++(dS++x);rw[JR _ _ _ h];refine eV ?_;simp only[kE,List.append_assoc]
theorem rX(z:List ByteArray)(h:z≠[])(b:Bool)(x:ByteArray):z++eB b x≠[]:=fun e=>h (List.append_eq_nil_iff.1 e).1
def CT(F G M S:ByteArray):List ByteArray:=[⟨#[102,117,110,99,116,105,111,110]⟩,F,⟨#[103,97,112]⟩,G,⟨#[109,97,115,115,101,115]⟩,M,⟨#[115,104,97,112,108,101,121]⟩,S]
def xH(F G M S:ByteArray):ByteArray:=⟨#[102,117,110,99,116,105,111,110,32]⟩++F++⟨#[32,103,97,112,32]⟩++G++⟨#[32,109,97,115,115,101,115,32]⟩++M++⟨#[32,115,104,97,112,108,101,121,32]⟩++S
theorem aa9(F G M S:ByteArray):cK dS (CT F G M S)=xH F G M S:=by
 unfold CT xH;simp only[mY,oK];refine eV ?_;simp[dS]
def JF(F G M S:ByteArray)(z D b2 I J K N:Bool):List ByteArray:=CT F G M S++eB z ⟨#[115,117,98,109,111,100,117,108,97,114]⟩++eB D ⟨#[115,117,112,101,114,109,111,100,117,108,97,114]⟩++eB b2 ⟨#[105,110,99,114,101,97,115,105,110,103]⟩++eB I ⟨#[103,114,111,117,110,100,101,100]⟩++eB J ⟨#[115,121,109,109,101,116,114,105,99]⟩++eB K ⟨#[112,111,108,121,109,97,116,114,111,105,100]⟩++eB N ⟨#[109,97,116,114,111,105,100]⟩
def EQ(F G M S:ByteArray)(z D b2 I J K N:Bool):ByteArray:=xH F G M S++jL z ⟨#[32,115,117,98,109,111,100,117,108,97,114]⟩++jL D ⟨#[32,115,117,112,101,114,109,111,100,117,108,97,114]⟩++jL b2 ⟨#[32,105,110,99,114,101,97,115,105,110,103]⟩++jL I ⟨#[32,103,114,111,117,110,100,101,100]⟩++jL J ⟨#[32,115,121,109,109,101,116,114,105,99]⟩++jL K ⟨#[32,112,111,108,121,109,97,116,114,111,105,100]⟩++jL N ⟨#[32,109,97,116,114,111,105,100]⟩
theorem N5(F G M S:ByteArray)(z D b2 I J K N:Bool):cK dS (JF F G M S z D b2 I J K N)=EQ F G M S z D b2 I J K N:=by
 have O:CT F G M S≠[]:=by simp[CT]
 have h1:=rX _ O z ⟨#[115,117,98,109,111,100,117,108,97,114]⟩;have h2:=rX _ h1 D ⟨#[115,117,112,101,114,109,111,100,117,108,97,114]⟩;have h3:=rX _ h2 b2 ⟨#[105,110,99,114,101,97,115,105,110,103]⟩;have h4:=rX _ h3 I ⟨#[103,114,111,117,110,100,101,100]⟩;have R:=rX _ h4 J ⟨#[115,121,109,109,101,116,114,105,99]⟩;have Y:=rX _ R K ⟨#[112,111,108,121,109,97,116,114,111,105,100]⟩;unfold JF EQ;rw[kI _ Y N _ ⟨#[32,109,97,116,114,111,105,100]⟩ rfl,kI _ R K _ ⟨#[32,112,111,108,121,109,97,116,114,111,105,100]⟩ rfl,kI _ h4 J _ ⟨#[32,115,121,109,109,101,116,114,105,99]⟩ rfl,kI _ h3 I _ ⟨#[32,103,114,111,117,110,100,101,100]⟩ rfl,kI _ h2 b2 _ ⟨#[32,105,110,99,114,101,97,115,105,110,103]⟩ rfl,kI _ h1 D _ ⟨#[32,115,117,112,101,114,109,111,100,117,108,97,114]⟩ rfl,kI _ O z _ ⟨#[32,115,117,98,109,111,100,117,108,97,114]⟩ rfl,aa9]
theorem cT(b:Bool)(x:ByteArray):(eB b x).length<=1:=by cases b<;>simp[eB]
theorem dX(b:Bool)(x:ByteArray):(jL b x).size<=x.size:=by cases b<;>simp[jL]
theorem lP(l:List Int)(h:∀x∈l,dD x):(eX l).size<=22*l.length+4:=by
 unfold eX
 split
 ·show 4<=_;omega
 ·have:=sZ l h;omega
theorem CU(F G M S:ByteArray)(D:F.size<=1000)(I:G.size<=1000)(J:M.size<=1000)(K:S.size<=1000):(xH F G M S).size<=4100:=by
 unfold xH;simp only[ByteArray.size_append];have e1:(⟨#[102,117,110,99,116,105,111,110,32]⟩:ByteArray).size=9:=rfl;have e2:(⟨#[32,103,97,112,32]⟩:ByteArray).size=5:=rfl;have e3:(⟨#[32,109,97,115,115,101,115,32]⟩:ByteArray).size=8:=rfl;have z:(⟨#[32,115,104,97,112,108,101,121,32]⟩:ByteArray).size=9:=rfl;omega
theorem xW{n:Int}{l:List Int}(D:bM n l=true):(fO n l).length<=32:=by
 obtain⟨N,_,_,_,z,_⟩:=cX D;unfold fO;rw[if_pos D,lL];exact z
theorem BQ{n:Int}{l:List Int}(z:bM n l=true):(jD n l).length<=5:=by
 obtain⟨N,rfl,D,_⟩:=cX z;unfold jD;rw[if_pos z];simp[nO];omega
def uQ(n:Int)(l:List Int):ByteArray:=if bM n l then cK eH (JF (mE n l) (bQ (mA n l)) (eX (fO n l)) (eX (jD n l)) (gR n l) (sR n l) (mN n l) (gE n l) (pT n l) (eU n l) (dH n l)) else ByteArray.empty
theorem JG{n:Int}{l:List Int}(z:bM n l=true):uQ n l=cK eH (JF (mE n l) (bQ (mA n l)) (eX (fO n l)) (eX (jD n l)) (gR n l) (sR n l) (mN n l) (gE n l) (pT n l) (eU n l) (dH n l)):=by unfold uQ;rw[if_pos z]
theorem SC(F G M S:ByteArray)(z D b2 I J K N:Bool)(O:F.size<=1000)(R:G.size<=1000)(Y:M.size<=1000)(Z:S.size<=1000):(EQ F G M S z D b2 I J K N).size<=5000:=by
 have h0:=CU F G M S O R Y Z;unfold EQ;simp only[ByteArray.size_append];have s0:=dX z (⟨#[32,115,117,98,109,111,100,117,108,97,114]⟩:ByteArray);have t0:(⟨#[32,115,117,98,109,111,100,117,108,97,114]⟩:ByteArray).size=11:=rfl;have s1:=dX D (⟨#[32,115,117,112,101,114,109,111,100,117,108,97,114]⟩:ByteArray);have t1:(⟨#[32,115,117,112,101,114,109,111,100,117,108,97,114]⟩:ByteArray).size=13:=rfl;have s2:=dX b2 (⟨#[32,105,110,99,114,101,97,115,105,110,103]⟩:ByteArray);have t2:(⟨#[32,105,110,99,114,101,97,115,105,110,103]⟩:ByteArray).size=11:=rfl;have s3:=dX I (⟨#[32,103,114,111,117,110,100,101,100]⟩:ByteArray);have t3:(⟨#[32,103,114,111,117,110,100,101,100]⟩:ByteArray).size=9:=rfl;have s4:=dX J (⟨#[32,115,121,109,109,101,116,114,105,99]⟩:ByteArray);have t4:(⟨#[32,115,121,109,109,101,116,114,105,99]⟩:ByteArray).size=10:=rfl;have s5:=dX K (⟨#[32,112,111,108,121,109,97,116,114,111,105,100]⟩:ByteArray);have t5:(⟨#[32,112,111,108,121,109,97,116,114,111,105,100]⟩:ByteArray).size=12:=rfl;have s6:=dX N (⟨#[32,109,97,116,114,111,105,100]⟩:ByteArray);have t6:(⟨#[32,109,97,116,114,111,105,100]⟩:ByteArray).size=8:=rfl;omega
theorem YW(n:Int)(l:List Int)(hm:∀x∈fO n l,dD x)(D:∀x∈jD n l,dD x):(uQ n l).size<=5000:=by
 unfold uQ
 split
 ·rename_i z;have h1:=xW z;have h2:=BQ z;have h3:=lP _ hm;have h4:=lP _ D;have F:=JH n l;have I:=MQ n l;have J:=cW (mA n l) ⟨by omega,by omega⟩;rw[show eH=dS from rfl,N5];exact SC _ _ _ _ _ _ _ _ _ _ _ aK aK aK aK
 ·simp
def vY(w:World)(z:Nat)(n:Nat)(v:Value)(a:Int)(W:World):Prop:=
 Below w w W/\aU W w 26 #[n,v]/\aU W z 3 #[a]
theorem U9(w:World)(z:Nat)(n:Nat)(v:Value)(a:Int)(W W':World)(h:vY w z n v a W)(hb:Below W W W'):vY w z n v a W':=by
 obtain⟨h1,h2,h3⟩:=h;exact⟨h1.after hb h1.size,h2.keep hb,h3.keep hb⟩
theorem YX(w:World)(z:Nat)(d6:w.heap.size<z)(n:Nat)(hn:n<=5)(l:List Int)(v:Value)(hv:aR w v l)(hl:l.length=2^n)(K:∀k,(hk:k<l.length)->-1000<=l[k]/\l[k]<=1000)(a:Int)(s i k:Nat)(W:World)(hs:s<2^n)(d5:i<k)(hk:k<n)(hR:vY w z n v a W):
  Calls prog 161 #[s,i,k,.pointer (some ⟨z,0,none⟩),.pointer (some ⟨w,0,none⟩)] W fun e w'=>
   e=.returned (.bool (A7 l a (s,i,k)).2)/\vY w z n v (A7 l a (s,i,k)).1 w'/\GrownIn W w' (fun b=>b=z):=by
 obtain⟨B,S,M⟩:=hR;have d7:(2:Nat)^n<=32:=Nat.pow_le_pow_right (n:=2) aY hn;have hex:∀V,aR V v l->Calls prog 162 #[.agg #[n,v],s,i,k] V fun e w'=>e=.returned (kM l s i k)/\Below V V w':=fun V hV=>I6 n hn l v V hV hl K s i k hs aK hk;have J:A7 l a (s,i,k)=(max a (kM l s i k),true):=rfl;obtain⟨av,cv,rfl⟩:=hv.shape;obtain⟨x,hx⟩:=aQ (kM l s i k);simp only[<-hx]at hex J;rw[J];have G1:=S.cell;have yB:=B.size;have zf:=S.lt;have zo:=M.lt;have R:=aN hex;clear hl K hx hex hs J;have Go:=M.cell;have Fo:=M.frozen;go_enter func161,ntmps161;go_wp2_with fail;have a8:aR W.drew (aI av l.length cv) l:=(hv.below B aO).drew';have a1:aU W.drew z 3 #[a]:=M;have Z:aU W.drew w.heap.size 26 #[n,aI av l.length cv]:=S;have Bd:Below w w W.drew:=B.drew;go_region_law
  (first
   |(go_simp;go_at_call 162;refine(R.out _ a8).mono ?_;rintro e w1 ⟨rfl,I⟩;have D:=a1.keep I;have O:=D.cell;have N:=D.frozen))
 all_goals
  have Y:=Z.keep I;have b1:Below W W w1:=((Below.refl W.heap.size W).drewN' 1).after I (by simp);have B1:=B.after b1 B.size;clear Go G1 Fo;go_wp2;refine bG ?_;intro Wf F;have KO:aU Wf z 3 #[aM (max a x)]:=by rw[F];have:=D.set 0 (aM (max a x));simpa using this
  have gF:w1.grownBy Wf (some z):=by rw[F];exact dW (World.grownBy.refl _ _) 0 _
  have KF:=Y.grow gF (by intro h;have:=Option.some.inj h;omega);have BF:=B1.grown gF B1.size kH;have a7:=(GrownIn.of_below (P:=fun b=>b=z) b1).trans (GrownIn.of_row gF (fun q hq=>(Option.some.inj hq).symm));clear F O N;go_ret;exact⟨rfl,⟨BF,KF,KO⟩,a7⟩
theorem E8:∀args w,(callFunc 161 args).run prog w=.ok (.enter 161 args) w:=enters_of func161 aT rfl
theorem ad3(w:World)(n:Int)(v:Value)(l:List Int)(hv:aR w v l):
  Calls prog 35 #[.agg #[n,v]] w fun e w'=>e=.returned (.tuple #[(mA n l),.bool (bM n l)])/\Below w w w':=by
 have K:=hv;obtain⟨a,c,rfl⟩:=hv.shape;have c9:∀(fn:Fn) (first cap:Array Value) (w:World),(Instr.makeFunc fn first cap).run prog w=.ok (.func fn first cap) w:=fun _ _ _ _=>rfl;have K0:=aU.new w 26 #[n,aI a l.length c]
 cases I:bM n l with
 |false=>
  have hg:mA n l=0:=by unfold mA;rw[I];rfl
  have HG:=aN hg;have S:=aN I;clear hg I;go_enter func35,ntmps35;go_wp2_with (go_at_call 34;refine(dV n l _ _ (K.alloc _)).mono ?_;rintro e w1 ⟨rfl,z⟩;rw[S.out]);go_ret2;exact⟨by rw[HG.out];rfl,(bF _ _).after z (by simp)⟩
 |true=>
  obtain⟨N,rfl,O,J,b5,R⟩:=cX I;have hr:mA (N:Int) l=(gL (A7 l) (jK N (2^N)) 0).1:=by unfold mA SD;rw[I,if_pos rfl,Int.toNat_natCast]
  have F:∀D V,w.heap.size<D->vY w D N (aI a l.length c) 0 V->Calls prog 160 #[.agg #[N,aI a l.length c],.func (.func 161) #[] #[.pointer (some ⟨D,0,none⟩),.pointer (some ⟨w,0,none⟩)]] V fun e w'=>
    e=.returned (.tuple #[])/\vY w D N (aI a l.length c) (mA N l) w'/\GrownIn V w' (fun b=>b=D):=fun D V a1 hV=>by
   rw[hr];refine AQ N O l _ J 161 E8 _ _ (A7 l) (vY w D N (aI a l.length c)) _ (U9 w D N _) V ⟨a,c,rfl⟩ (fun b hb=>by have:=hV.2.2.lt;omega) ?_ 0 hV;intro a' s i k W hs Z hk _ _ hR _;exact YX w D a1 N O l _ K J R a' s i k W hs Z hk hR
  have HV:=aN F;have S:=aN I;clear F hr I J R;obtain⟨M,hM⟩:=aQ (mA (N:Int) l);rw[<-hM]at HV ⊢;clear hM;go_enter func35,ntmps35;go_wp2_with fail;refine(dV N l _ _ (K.alloc _)).mono ?_;rintro e w1 ⟨rfl,z⟩;rw[S.out];have Y:=K0.keep z;have B1:Below w w w1:=(bF _ _).after z (by simp);have G1:=Y.cell;have z1:=Y.lt;clear z K0;go_wp2_with fail;have R0:vY w w1.heap.size N (aI a l.length c) 0 (w1.alloc (.cells #[aJ] 3)):=⟨B1.alloc B1.size _,Y.alloc _,aU.new _ _ _⟩;refine(HV.out w1.heap.size _ z1 R0).mono ?_;rintro e w2 ⟨rfl,⟨B2,K2,Ko⟩,c8⟩;clear G1 R0;have Go:=Ko.cell;go_wp2;go_ret2;exact⟨rfl,B2⟩
end
end Go.Proofs.YtcpoomdoodlkjaaGreatDoor
