/- Lemmas for CardReports. No condition. -/
import Derived.Test.YtcpoomdoodlkjaaGreatDoorQ16
import Derived.Test.YtcpoomdoodlkjaaGreatDoorQ30
import Derived.Deep.DeepCutAuto
set_option maxRecDepth 100000
set_option maxHeartbeats 64000000
namespace Go.Proofs.YtcpoomdoodlkjaaGreatDoor
section
open Go.RowKit Go.G5 Go.Proofs.Tryz
theorem WU{n:Int}{l:List Int}(h:bH n l=true):l.length<=32:=by
 obtain⟨_,_,_,_,z,_⟩:=cU h;exact z
def mB(n:Int)(l:List Int):ByteArray:=if bH n l=true then bZ gX (l.map bM) else ByteArray.empty
theorem JD(n:Int)(l:List Int):(mB n l).size<=704:=by
 unfold mB
 split
 ·rename_i h;obtain⟨N,_,_,_,D,z⟩:=cU h;have:=sW l (fun x F=>by obtain⟨k,hk,rfl⟩:=List.mem_iff_getElem.1 F;have:=z k hk;exact⟨by omega,by omega⟩);omega
 ·simp
theorem U1(n:Int)(l:List Int)(v:Value)(w:World)(O:aO w v l)(Z:sR w):
  Calls prog 37 #[.agg #[n,v]] w fun e w'=>e=.returned (.string (mB n l))/\Below w w w':=by
 have I:=O;obtain⟨a,c,rfl⟩:=O.shape;have S:=aR.new w 26 #[n,ajH a l.length c];go_enter func37,ntmps37;go_wp2_with fail;refine(dS n l _ _ (I.alloc _)).mono ?_;rintro e w1 ⟨rfl,D⟩;have Y:=S.keep D;have z:Below w w w1:=(aY _ _).after D (by simp);have G1:=Y.cell
 cases F:bH n l with
 |false=>
  have J:mB n l=ByteArray.empty:=by unfold mB;rw[F];rfl
  have K:=aJ J;clear J F;go_wp2;go_ret;exact⟨bX K.out.symm,z⟩
 |true=>
  have J:mB n l=bZ gX (l.map bM):=by unfold mB;rw[if_pos F]
  have M:=WU F;have R:=aJ (wE l _ w1 (I.below z aK) aI (Z.keep z));have K:=aJ J;clear J F M;go_wp2_with fail;refine R.out.mono ?_;rintro e w2 ⟨rfl,N⟩;go_wp2;go_ret;exact⟨bX K.out.symm,z.after N z.size⟩
theorem U2(n:Int)(l:List Int)(v:Value)(w:World)(hv:aO w v l):
  Calls prog 52 #[.agg #[n,v]] w fun e w'=>e=.returned (.string (mB n l))/\Below w w w':=by
 have b5:=hv;have a9:=hv.inR;obtain⟨a,b,e9,c,rfl,b1,b0,hc,hb⟩:=hv.view prog 24 3 underlying24 aP;have K0:=aR.new w 26 #[n,ajH a l.length c];have HC:=aJ hc;have Y:=aJ a9;have b9:=aJ b0;clear hc a9 b0 b1
 cases N:bH n l with
 |false=>
  have J:mB n l=ByteArray.empty:=by unfold mB;rw[N];rfl
  have HX:=aJ J;have HF:=aJ N;clear J N;go_enter func52,ntmps52;go_wp2_with fail;go_loopw [3,4] (fun sv iv wr=>iv=ajJ 0/\sv=.string ⟨#[]⟩/\Below w w wr/\aR wr w 26 #[n,ajH a l.length c]) (fun _ _ _=>0)
  case atStart=>exact⟨rfl,rfl,aY _ _,K0⟩
  case round=>obtain⟨rfl,rfl,B,K⟩:=hrel;have G1:=K.cell;go_wp2_with fail;refine(dG n l _ _ (b5.below B aK)).mono ?_;rintro e w1 ⟨rfl,z⟩;rw[HF.out];go_wp2;go_ret;exact⟨bX HX.out.symm,B.after z B.size⟩
 |true=>
  have J:mB n l=bZ gX (l.map bM):=by unfold mB;rw[if_pos N]
  have d0:=WU N;have hl:l.length<=1000:=aI;have HX:=aJ J;have HF:=aJ N;clear J N d0;go_enter func52,ntmps52;go_wp2_with fail;go_loopw [3,4] (fun sv iv wr=>∃(k:Nat) (S:ByteArray),k<=l.length/\iv=ajJ k/\sv=.string S/\S=bZ gX ((l.take k).map bM)/\Below w w wr/\aR wr w 26 #[n,ajH a l.length c]) (fun _ iv _=>l.length-(intOf iv).toNat)
  case atStart=>exact⟨0,_,Nat.zero_le _,rfl,rfl,rfl,aY _ _,K0⟩
  case round=>
   obtain⟨k,S,hk,rfl,rfl,F,B,K⟩:=hrel;obtain⟨wz,rfl⟩:∃q:World,q=wr:=⟨_,rfl⟩;have HS:=aJ F;clear F K0;have G1:=K.cell;go_wp2_with fail;refine(dG n l _ _ (b5.below B aK)).mono ?_;rintro e w1 ⟨rfl,z⟩;rw[HF.out];have K:=K.keep z;have B:=B.after z B.size;clear G1 z;have G1:=K.cell;have F:=HS.out;have e6:S.size<=22000:=by rw[F];exact zP l k Y.out hl hk
   by_cases hlt:k<l.length
   ·have b4:(k:Int)<(l.length:Int):=aI;have d7:=aT HC.out hb B aK k hlt;have e8:=fun W=>b9.out W k hlt;have D:=zO l k hlt;have O:=Y.out l[k] (List.getElem_mem hlt);rw[<-F]at D;have M:k=0->S=ByteArray.empty:=fun h=>by rw[F,h];rfl
    obtain⟨x,J⟩:=aN (l[k]);rw[<-J]at d7 D O;have hT:=cT x O;have hF:=fU x O w1;obtain⟨T,a7⟩:=aN (bM x);rw[<-a7]at D hT hF;have R:=aJ hF;have Z:=aJ D;clear hF D J a7 F HS;by_cases I:k=0
    ·have d6:=M I;subst d6;have c5:=aJ I;have d8:¬0<(k:Int):=aI;have a8:¬0<k:=aI;clear M I;go_wp2_with fail;refine R.out.mono ?_;rintro e w3 ⟨rfl,b3⟩;have B:=B.after b3 B.size;have K:=K.keep b3;go_wp2;go_roundw
     case rel=>exact⟨k+1,_,by omega,by go_num,rfl,by rw[Z.out,if_pos c5.out],B,K⟩
     case measure=>simp[intOf];omega
    ·have d8:0<(k:Int):=aI;have a8:0<k:=aI;have e5:(S++gX).size<=22001:=by rw[ByteArray.size_append];show S.size+1<=22001;omega
     clear M;go_wp2_with fail;refine R.out.mono ?_;rintro e w3 ⟨rfl,b3⟩;have B:=B.after b3 B.size;have K:=K.keep b3;go_wp2;go_roundw
     case rel=>exact⟨k+1,_,by omega,by go_num,rfl,by rw[Z.out,if_neg I];rfl,B,K⟩
     case measure=>simp[intOf];omega
   ·have b4:¬(k:Int)<(l.length:Int):=aI;have a6:mB n l=S:=by rw[HX.out,F,show k=l.length by omega,List.take_length]
    have c7:=aJ a6;clear a6 F HS;go_wp2;go_ret;exact⟨bX c7.out.symm,B⟩
theorem kO(g:Int)(l:List Int)(v:Value)(w:World)(hv:aO w v l):
  Calls prog 79 #[.agg #[g,v]] w fun e w'=>e=.returned (.string (cY g l))/\Below w w w':=by
 have J:=hv;obtain⟨a,b,e9,c,rfl,c6,c5,hc,hb⟩:=hv.view prog 24 3 underlying24 aP;have K0:=aR.new w 31 #[g,ajH a l.length c];have HC:=aJ hc;have d7:=aJ c5;clear hc c5 c6
 cases R:bF g l with
 |false=>
  have hx:cY g l=ByteArray.empty:=by unfold cY;rw[R];rfl
  have HX:=aJ hx;have HF:=aJ R;clear hx R;go_enter func79,ntmps79;go_wp2_with fail;go_loopw [3,4] (fun sv iv wr=>iv=ajJ 0/\sv=.string ⟨#[]⟩/\Below w w wr/\aR wr w 31 #[g,ajH a l.length c]) (fun _ _ _=>0)
  case atStart=>exact⟨rfl,rfl,aY _ _,K0⟩
  case round=>
   obtain⟨rfl,rfl,B,K⟩:=hrel;have G1:=K.cell;by_cases D:0<l.length
   ·have e8:(0:Int)<(l.length:Int):=aI;go_wp2_with fail;refine(cP g l _ _ (J.below B aK)).mono ?_;rintro e w1 ⟨rfl,z⟩;rw[HF.out];have K:=K.keep z;have B:=B.after z B.size;clear G1;have G1:=K.cell;go_wp2_with fail;refine(cP g l _ _ (J.below B aK)).mono ?_;rintro e w2 ⟨rfl,F⟩;rw[HF.out];go_wp2;go_ret;exact⟨bX HX.out.symm,B.after F B.size⟩
   ·have e8:¬(0:Int)<(l.length:Int):=aI;go_wp2_with fail;refine(cP g l _ _ (J.below B aK)).mono ?_;rintro e w2 ⟨rfl,F⟩;rw[HF.out];go_wp2;go_ret;exact⟨bX HX.out.symm,B.after F B.size⟩
 |true=>
  have e4:=jQ R;have c8:cY g l=if l=[] then zF else bZ vS (l.map (bW g)):=by unfold cY;rw[if_pos R]
  have O:(bZ vS (l.map (bW g))=ByteArray.empty)=(l=[]):=ac9 g l (ahP R);have d6:=aJ O;have b4:=aJ c8;have HF:=aJ R;clear c8 R O;go_enter func79,ntmps79;go_wp2_with fail;go_loopw [3,4] (fun sv iv wr=>∃(k:Nat) (S:ByteArray),k<=l.length/\iv=ajJ k/\sv=.string S/\S=bZ vS ((l.take k).map (bW g))/\Below w w wr/\aR wr w 31 #[g,ajH a l.length c]) (fun _ iv _=>l.length-(intOf iv).toNat)
  case atStart=>exact⟨0,_,Nat.zero_le _,rfl,rfl,rfl,aY _ _,K0⟩
  case round=>
   obtain⟨k,S,hk,rfl,rfl,Z,B,K⟩:=hrel;obtain⟨wz,rfl⟩:∃q:World,q=wr:=⟨_,rfl⟩;have f8:S.size<=22000:=by rw[Z];exact aaA g l k e4 hk
   have HS:=aJ Z;clear Z K0;have G1:=K.cell;by_cases hlt:k<l.length
   ·have c7:(k:Int)<(l.length:Int):=aI;go_wp2_with fail;refine(cP g l _ _ (J.below B aK)).mono ?_;rintro e w1 ⟨rfl,z⟩;rw[HF.out];have K:=K.keep z;have B:=B.after z B.size;clear G1 z;have Z:=HS.out;have a6:=aT HC.out hb B aK k hlt;have g0:=fun W=>d7.out W k hlt;have I:=Z9 g l k hlt;rw[<-Z]at I;have a1:k=0->S=ByteArray.empty:=fun h=>by rw[Z,h];rfl
    obtain⟨x,hx⟩:=aN (l[k]);rw[<-hx]at a6 I;have hT:=fC g x;have hF:=fun y:Ext w1=>kP g x y.w;obtain⟨T,b8⟩:=aN (bW g x);rw[<-b8]at I hT hF;have b1:=aJ hF;have b5:=aJ I;have f0:=K.cell 0;have f1:=K.cell 1;simp only[List.getElem?_toArray,List.getElem?_cons_zero,List.getElem?_cons_succ]at f0 f1;have q0:∀y:Ext w1,y.w.cell? ⟨w.heap.size,0,none⟩=some (ajJ g):=fun y=>y.cell f0;have q1:∀y:Ext w1,y.w.cell? ⟨w.heap.size,1,none⟩=some (ajH a l.length c):=fun y=>y.cell f1;have qk:∀y:Ext w1,y.w.cell? ⟨b,e9+k,none⟩=some (ajJ x):=fun y=>y.cell a6;clear hF I hx b8 Z HS f0 f1 a6;by_cases N:k=0
    ·have e6:=a1 N;subst e6;have d8:=aJ N;have e7:¬0<(k:Int):=aI;have b9:¬0<k:=aI;clear a1 N;go_wp2_with fail;refine bJ _ aQ aQ ?_
     repeat(first|go_big_quiet_skip|(go_big_quiet_want;go_big_quiet_op;first|go_big_quiet_on|(apply Exists.intro;refine⟨fun _=>?_,?_⟩;(go_at_call 80;with_reducible exact bK (b1.out _));go_big_quiet_on)))
     refine wpQuiet_nil ?_;rintro w3 ⟨⟨w3,b3⟩,rfl⟩
     try dsimp only
     have B:=B.after b3 B.size;have K:=K.keep b3;go_wp2;go_roundw
     case rel=>exact⟨k+1,_,by omega,by go_num,rfl,by rw[b5.out,if_pos d8.out],B,K⟩
     case measure=>simp[intOf];omega
    ·have e7:0<(k:Int):=aI;have b9:0<k:=aI;have f7:(S++vS).size<=22001:=by rw[ByteArray.size_append];show S.size+1<=22001;omega
     clear a1;go_wp2_with fail;refine bJ _ aQ aQ ?_
     repeat(first|go_big_quiet_skip|(go_big_quiet_want;go_big_quiet_op;first|go_big_quiet_on|(apply Exists.intro;refine⟨fun _=>?_,?_⟩;(go_at_call 80;with_reducible exact bK (b1.out _));go_big_quiet_on)))
     refine wpQuiet_nil ?_;rintro w3 ⟨⟨w3,b3⟩,rfl⟩
     try dsimp only
     have B:=B.after b3 B.size;have K:=K.keep b3;go_wp2;go_roundw
     case rel=>exact⟨k+1,_,by omega,by go_num,rfl,by rw[b5.out,if_neg N];rfl,B,K⟩
     case measure=>simp[intOf];omega
   ·have c7:¬(k:Int)<(l.length:Int):=aI;have M:S=bZ vS (l.map (bW g)):=by rw[HS.out,show k=l.length by omega,List.take_length]
    have a8:=ND S;have a7:decide (S=ByteArray.empty)=decide (l=[]):=by rw[M];simp only[d6.out]
    rw[a7]at a8
    cases h0:decide (l=[]) with
    |true=>
     have D:cY g l=zF:=by rw[b4.out,if_pos (of_decide_eq_true h0)]
     rw[h0]at a8;have Y:=aJ D;clear h0 a7 M D HS;go_wp2_with fail;refine(cP g l _ _ (J.below B aK)).mono ?_;rintro e w2 ⟨rfl,F⟩;rw[HF.out];go_wp2;go_ret;exact⟨bX Y.out.symm,B.after F B.size⟩
    |false=>
     have D:cY g l=S:=by rw[b4.out,if_neg (of_decide_eq_false h0)];exact M.symm
     rw[h0]at a8;have Y:=aJ D;clear h0 a7 M D HS;go_wp2;go_ret;exact⟨bX Y.out.symm,B⟩
end
section
open Go.RowKit Go.G5 Go.Proofs.Tryz
end
section
open Go.RowKit Go.G5 Go.Proofs.Tryz
def ofW:ByteArray:=⟨#[111,102]⟩
def ajC:ByteArray:=⟨#[102,111,114]⟩
def ai8:ByteArray:=⟨#[97,110,100]⟩
def dP:ByteArray:=⟨#[32]⟩
theorem mV(z x y:ByteArray)(r:List ByteArray):bZ z (x::y::r)=x++z++bZ z (y::r):=by
 refine eS ?_;rw[kB,kB];show Lib.join ((x::y::r).map (·.data.toList)) z.data.toList=x.data.toList++z.data.toList++Lib.join ((y::r).map (·.data.toList)) z.data.toList;rw[List.map_cons,List.map_cons,Lib.join_cons,Lib.join_cons];simp[Lib.joinTail,List.append_assoc]
theorem d1:dP.data.toList=[32]:=rfl
theorem d2:ofW.data.toList=[111,102]:=rfl
theorem d3:ajC.data.toList=[102,111,114]:=rfl
theorem d4:ai8.data.toList=[97,110,100]:=rfl
end
end Go.Proofs.YtcpoomdoodlkjaaGreatDoor
section
namespace Go.G5
open Go Go.RowKit
theorem M9{P:Program}{w:World}{t u z e D:TypeId}(ht:P.underlying t=some (.slice e))(F:P.underlying u=some (.slice D))(s x:Value):
  (Builtin.append_ #[t,u] z #[s,x]).run P w=(Builtin.append_ #[t,t] z #[s,x]).run P w:=by
 unfold Builtin.append_
 cases s with
 |slice b n c=>simp[run_underlying ht,run_underlying F]
 |_=>simp[run_underlying ht]
theorem LI{P:Program}{w:World}{ops:Array Oper}{rest:List Oper}{o:Oper}{a:Act}{Q:Exit->Act->World->Prop}(O:o.guard=none)(s x:Operand)(t u:TypeId)
  (ho:o.op=.call { callee:=.builtin .append,args:=#[s,x],argTypes:=#[t,u] })
  (E Z:TypeId) (ht:P.underlying t=some (.slice E)) (S:P.underlying u=some (.slice Z)) (hE:StrElem P E) (B:Nat) (v:Value) (l z:List ByteArray) (b m c:Nat) (hs:a.eval s=v) (hx:a.eval x=ajH (some ⟨b,0,none⟩) m c) (hm:m=z.length)
  (hy:∀(j:Nat) y,z[j]?=some y->w.cell? ⟨b,0+j,none⟩=some (.string y))
  (N:eF E B w v l) (Y:l.length+z.length<1000000) (hB:B<=w.heap.size)
  (h:∀F w',eF E B w' F (l++z)->w.grownBy w' v.ownBlock->(F.ownBlock=v.ownBlock∨F.ownBlock=some w.heap.size)->wpList P ops Q rest (a.put o.dst F) w'):wpList P ops Q (o::rest) a w:=by
 obtain⟨i,hi,hz,h1,h8⟩:=hE.get;subst hm;have D:∀j u,(z.map Value.string)[j]?=some u->w.cell? ((⟨b,0,none⟩:Addr).add j)=some u:=by
  intro j u I;rw[List.getElem?_map]at I
  cases R:z[j]? with
  |none=>rw[R]at I;cases I
  |some y=>
   rw[R]at I
   cases I
   have:=hy j y R;have e:(⟨b,0,none⟩:Addr).add j=⟨b,0+j,none⟩:=by
    unfold Addr.add;by_cases J:j=0
    ·subst J;simp
    ·simp[J]
   rw[e];exact this
 have M:∀u∈z.map Value.string,u.oneCell'=true:=by
  intro u S;obtain⟨y,_,rfl⟩:=List.mem_map.1 S
  rfl
 obtain⟨F,w',hr,h2,h3,_,h5⟩:=run_append_own_at (P:=P) w B t o.type E i (.string ByteArray.empty) 1 16 ht hi hz h1 h8 rfl aV v l.length (l.map Value.string) N ⟨b,0,none⟩ z.length c (z.map Value.string) (by simp) D M (by unfold maxLen;omega) aI hB;refine wpList_plain O fun K hK=>?_;unfold Oper.wp execOp;simp only[ho,resolve,invoke,builtin,Sem.run_bind,Sem.run_pure,Result.andThen_ok,List.map_toArray,List.map_cons,List.map_nil,hs,hx,M9 ht S,hr];exact hK _ _ (h F w' (by simpa[eF]using h2) h3 h5)
end Go.G5
namespace Go.Proofs.YtcpoomdoodlkjaaGreatDoor
open Go.RowKit Go.G5 Go.Proofs.Tryz
def gQ(z:Nat)(w:World)(D:List ByteArray):Prop:=∃v,aR w z 45 #[v]/\eF 9 (z+1) w v D
theorem gQ.keep{z:Nat}{w w':World}{D:List ByteArray}(h:gQ z w D)(hb:Below w w w'):gQ z w' D:=by
 obtain⟨v,k,o⟩:=h;exact⟨v,k.keep hb,o.keep hb⟩
theorem gQ.lt{z:Nat}{w:World}{D:List ByteArray}(h:gQ z w D):z<w.heap.size:=by
 obtain⟨v,k,o⟩:=h;exact k.lt
theorem gQ.new(w:World):gQ w.heap.size (w.alloc (.cells #[()] 45)) []:=⟨_,aR.new _ _ _,eF.nil _ _ _⟩
theorem bU{z g:Nat}{w w':World}{t:TypeId}{cs:Array Value}(h:aR w g t cs)(hb:Below z w w')(D:g<z):aR w' g t cs:=(hb.block g D).trans h
theorem eF.growIn{w w':World}{P:Nat->Prop}{E:TypeId}{B:Nat}{v:Value}{l:List ByteArray}(h:eF E B w v l)(J:GrownIn w w' P)(K:∀k,v.ownBlock=some k->¬P k):eF E B w' v l:=by
 obtain⟨I,h1⟩:=h;refine⟨I,?_⟩;rcases h1 with h1|⟨g,cap,D,rfl,F,z,r⟩
 ·exact .inl h1
 ·exact .inr ⟨g,cap,D,rfl,F,by rw[J.block g (by have:=(Array.getElem?_eq_some_iff.1 z).1;omega) (K g rfl)];exact z,r⟩
theorem OA(z:Nat)(v:Value)(M I:List ByteArray)(b m c:Nat)(w:World)(K:aR w z 45 #[v])(Y:eF 9 (z+1) w v M)(hm:m=I.length)
  (hy:∀(j:Nat) y,I[j]?=some y->w.cell? ⟨b,0+j,none⟩=some (.string y)) (J:M.length+I.length<1000000):
  Calls prog 36 #[.pointer (some ⟨z,0,none⟩),ajH (some ⟨b,0,none⟩) m c] w fun e w'=>e=.returned (.tuple #[])/\∃v',aR w' z 45 #[v']/\eF 9 (z+1) w' v' (M++I) /\
   (∀k,v'.ownBlock=some k->v.ownBlock=some k∨w.heap.size<=k)/\GrownIn w w' (fun k=>k=z∨v.ownBlock=some k):=by
 obtain⟨a,n,cp,rfl⟩:=Y.shape3;have zo:=K.lt;have hlt:=Y.lt;have G:=K.cell;have F:=K.frozen;go_enter func36,ntmps36;go_wp2_with (at_builtin;refine LI rfl _ _ _ _ rfl 9 9 underlying45 underlying44 EY (z+1) (ajH a n cp) M I b m c rfl rfl hm hy Y J aI ?_;intro v7 w7 Z g7 h7;obtain⟨O,N,R,rfl⟩:=Z.shape3;have S:=K.grow g7 (by intro e;have:=(hlt _ e).1;omega);have G7:=S.cell;have F7:=S.frozen);refine aZ ?_;intro Wf D;have KF:aR Wf z 45 #[ajH O N R]:=by rw[D];have:=S.set 0 (ajH O N R);simpa using this
 have gF:w7.grownBy Wf (some z):=by rw[D];exact dT (World.grownBy.refl _ _) 0 _
 have lt7:=Z.lt;have oF:eF 9 (z+1) Wf (ajH O N R) (M++I):=Z.grown gF (by
  by_cases h:(Value.slice O N R).ownBlock=some z
  ·have:=(lt7 _ h).1;omega
  ·exact .inr h)
 have hG:GrownIn w Wf (fun k=>k=z∨(Value.slice a n cp).ownBlock=some k):=(GrownIn.of_row g7 (fun k hk=>.inr hk)).trans (GrownIn.of_row gF (fun k hk=>.inl (Option.some.inj hk).symm));clear D G7 F7 G F;exact bodyPost_end (v:=.tuple #[]) (results_none rfl _ _ _) rfl ⟨rfl,_,KF,oF,fun k hk=>by
  rcases h7 with h|h
  ·exact .inl (h▸hk)
  ·rw[h]at hk;exact .inr (by have:=Option.some.inj hk;omega),hG⟩
theorem OB{z:Nat}{v:Value}{F I:List ByteArray}{w w':World}(K:aR w z 45 #[v])(J:eF 9 (z+1) w v F)
  (h:∃D,aR w' z 45 #[D]/\eF 9 (z+1) w' D (F++I)/\(∀k,D.ownBlock=some k->v.ownBlock=some k∨w.heap.size<=k)/\GrownIn w w' (fun k=>k=z∨v.ownBlock=some k)):gQ z w' (F++I)/\Below z w w':=by
 obtain⟨D,k,o,_,g⟩:=h;have M:=K.lt;exact⟨⟨D,k,o⟩,Below.growIn (Below.refl z w) g aI (by
  rintro q (h|h)
  ·omega
  ·have:=(J.lt q h).1;omega)⟩
theorem dN(z:Nat)(I F:List ByteArray)(b m c:Nat)(w:World)(L:gQ z w I)(hm:m=F.length)
  (N:∀(j:Nat) y,F[j]?=some y->w.cell? ⟨b,0+j,none⟩=some (.string y)) (D:I.length+F.length<1000000):
  Calls prog 36 #[.pointer (some ⟨z,0,none⟩),ajH (some ⟨b,0,none⟩) m c] w fun e w'=>e=.returned (.tuple #[])/\gQ z w' (I++F)/\Below z w w':=by
 obtain⟨v,K,J⟩:=L;exact(OA z v I F b m c w K J hm N D).mono fun e w' ⟨M,h⟩=>⟨M,OB K J h⟩
theorem fO{w:World}{b:Nat}{x y:ByteArray}(F:w.cell? ⟨b,0,none⟩=some (.string x))(h1:w.cell? ⟨b,1,none⟩=some (.string y)):∀(j:Nat) z,[x,y][j]?=some z->w.cell? ⟨b,0+j,none⟩=some (.string z):=by
 intro j z D
 match j,D with
 |0,D=>cases D;exact F
 |1,D=>cases D;exact h1
theorem yI{w:World}{b:Nat}{x:ByteArray}(F:w.cell? ⟨b,0,none⟩=some (.string x)):∀(j:Nat) z,[x][j]?=some z->w.cell? ⟨b,0+j,none⟩=some (.string z):=by
 intro j z D
 match j,D with
 |0,D=>cases D;exact F
theorem lL{B B':Nat}{w w1 w2:World}(h:Below B' w w1)(k:Below B w1 w2)(hB:B<=B'):Below B w w2:=(h.mono hB).trans k
theorem eT(z:Nat)(D:List ByteArray)(I:ByteArray)(n:Int)(N:dA n)(w:World)(L:gQ z w D)(O:sR w)(J:D.length<1000):
  Calls prog 38 #[.pointer (some ⟨z,0,none⟩),.string I,n] w fun e w'=>e=.returned (.tuple #[])/\gQ z w' (D++[I,bM n])/\Below z w w':=by
 have S:=L.lt;go_enter func38,ntmps38;go_wp2_with fail;refine(GI n N w O).mono ?_;rintro e w1 ⟨rfl,F⟩;have K:=L.keep F;go_wp2_with fail;refine(dN z D [I,bM n] w1.heap.size 2 2 _ (K.keep (aY _ _)) rfl (fO (aX _ _ _ _ _ rfl) (aX _ _ _ _ _ rfl)) aS).mono ?_;rintro e w2 ⟨rfl,M,b2⟩;have R:=F.size;go_wp2;exact bodyPost_end (v:=.tuple #[]) (results_none rfl _ _ _) rfl ⟨rfl,M,lL F (lL (aY w1 _) b2 aI) aI⟩
theorem kU(z:Nat)(I:List ByteArray)(J:ByteArray)(Y:Value)(l:List Int)(w:World)(S:aO w Y l)(hl:l.length<=1000)(L:gQ z w I)(hp:sR w)(R:I.length<1000):
  Calls prog 39 #[.pointer (some ⟨z,0,none⟩),.string J,Y] w fun e w'=>e=.returned (.tuple #[])/\gQ z w' (I++[J,eU l])/\Below z w w':=by
 have zo:=L.lt;have O:=S;obtain⟨a,c,rfl⟩:=S.shape;by_cases D:l=[]
 ·have F:eU l=zF:=by unfold eU;rw[if_pos D]
  have K:=aJ F;have hz:¬(0:Int)<(l.length:Int):=by subst D;simp
  clear F D;go_enter func39,ntmps39;go_wp2_with fail;refine(dN z I [J,zF] w.heap.size 2 2 _ (L.keep (aY _ _)) rfl (fO (aX _ _ _ _ _ rfl) (aX _ _ _ _ _ rfl)) aS).mono ?_;rintro e w2 ⟨rfl,M,b2⟩;go_wp2;exact bodyPost_end (v:=.tuple #[]) (results_none rfl _ _ _) rfl ⟨rfl,by rw[K.out];exact M,lL (aY w _) b2 aI⟩
 ·have F:eU l=bZ gX (l.map bM):=by unfold eU;rw[if_neg D]
  have K:=aJ F;have hz:(0:Int)<(l.length:Int):=by have:l.length≠0:=fun e=>D (List.eq_nil_of_length_eq_zero e);omega
  clear F D;go_enter func39,ntmps39;go_wp2_with fail;refine(wE l _ w O hl hp).mono ?_;rintro e w1 ⟨rfl,N⟩;rw[<-K.out];have Z:=L.keep N;have z1:=N.size;go_wp2_with fail;refine(dN z I [J,eU l] w1.heap.size 2 2 _ (Z.keep (aY _ _)) rfl (fO (aX _ _ _ _ _ rfl) (aX _ _ _ _ _ rfl)) aS).mono ?_;rintro e w2 ⟨rfl,M,b2⟩;go_wp2;exact bodyPost_end (v:=.tuple #[]) (results_none rfl _ _ _) rfl ⟨rfl,M,lL N (lL (aY w1 _) b2 aI) aI⟩
def dY(b:Bool)(x:ByteArray):List ByteArray:=if b then [x] else []
theorem fV(z:Nat)(D:List ByteArray)(F:ByteArray)(h:Bool)(w:World)(L:gQ z w D)(I:D.length<1000):
  Calls prog 42 #[.pointer (some ⟨z,0,none⟩),.string F,.bool h] w fun e w'=>e=.returned (.tuple #[])/\gQ z w' (D++dY h F)/\Below z w w':=by
 have K:=L.lt
 cases h with
 |false=>go_enter func42,ntmps42;go_wp2;exact bodyPost_end (v:=.tuple #[]) (results_none rfl _ _ _) rfl ⟨rfl,by show gQ z w (D++[]);rw[List.append_nil];exact L,Below.refl _ _⟩
 |true=>go_enter func42,ntmps42;go_wp2_with fail;refine(dN z D [F] w.heap.size 1 1 _ (L.keep (aY _ _)) rfl (yI (aX _ _ _ _ _ rfl)) aS).mono ?_;rintro e w2 ⟨rfl,J,b2⟩;go_wp2;exact bodyPost_end (v:=.tuple #[]) (results_none rfl _ _ _) rfl ⟨rfl,J,lL (aY w _) b2 aI⟩
def eD:ByteArray:=⟨#[32]⟩
theorem dM(B:Nat)(v:Value)(D:List ByteArray)(w:World)(F:eF 9 B w v D)(z:(bZ eD D).size<=100000000)(K:D.length<=1000000):
  Calls prog 50 #[v] w fun e w'=>e=.returned (.string (bZ eD D))/\Below w w w':=by
 obtain⟨a,n,c,rfl⟩:=F.shape3;have I:=aJ (GR B w (ajH a n c) D eD F z K);go_enter func50,ntmps50;go_wp2_with fail;refine I.out.mono ?_;rintro e w1 ⟨rfl,J⟩;go_wp2;go_ret;exact⟨rfl,J⟩
def tB(z:Nat)(u:Value)(w:World)(D:List ByteArray):Prop:=∃v,aR w z 45 #[v]/\eF 9 (z+1) w v D/\∀k,v.ownBlock=some k->u.ownBlock≠some k
theorem tB.line{z:Nat}{u:Value}{w:World}{D:List ByteArray}(h:tB z u w D):gQ z w D:=by
 obtain⟨v,k,o,_⟩:=h;exact⟨v,k,o⟩
theorem tB.keep{z:Nat}{u:Value}{w w':World}{D:List ByteArray}(h:tB z u w D)(hb:Below w w w'):tB z u w' D:=by
 obtain⟨v,k,o,a⟩:=h;exact⟨v,k.keep hb,o.keep hb,a⟩
theorem gQ.far{z:Nat}{u:Value}{w w':World}{D:List ByteArray}(h:gQ z w D)(hb:Below w w w')(J:∀k,u.ownBlock=some k->w.heap.size<=k):tB z u w' D:=by
 obtain⟨v,k,o⟩:=h;exact⟨v,k.keep hb,o.keep hb,fun q I F=>by have:=(o.lt q I).2;have:=J q F;omega⟩
theorem abQ(D:Nat)(u:Value)(N M:List ByteArray)(b m c:Nat)(w:World)(L:tB D u w N)(O:∀k,u.ownBlock=some k->D<k/\k<w.heap.size)(hm:m=M.length)
  (hy:∀(j:Nat) y,M[j]?=some y->w.cell? ⟨b,0+j,none⟩=some (.string y)) (F:N.length+M.length<1000000):
  Calls prog 36 #[.pointer (some ⟨D,0,none⟩),ajH (some ⟨b,0,none⟩) m c] w fun e w'=>e=.returned (.tuple #[])/\tB D u w' (N++M)/\Below D w w'/\∀k,u.ownBlock=some k->w'.heap[k]?=w.heap[k]?:=by
 obtain⟨v,K,S,R⟩:=L;refine(OA D v N M b m c w K S hm hy F).mono fun e w' ⟨Z,Y,k,o,z,g⟩=>⟨Z,⟨Y,k,o,fun q I J=>?_⟩,(OB K S ⟨Y,k,o,z,g⟩).2,fun q I=>?_⟩
 ·rcases z q I with h|h
  ·exact R q h J
  ·have:=(O q J).2;omega
 ·refine g.block q (O q I).2 ?_;rintro(h|h)
  ·have:=(O q I).1;omega
  ·exact R q h I
theorem yY(z:Nat)(u:Value)(F:List ByteArray)(J:ByteArray)(n:Int)(R:dA n)(w:World)(L:tB z u w F)(M:∀k,u.ownBlock=some k->z<k/\k<w.heap.size)(S:sR w)(K:F.length<1000):
  Calls prog 38 #[.pointer (some ⟨z,0,none⟩),.string J,n] w fun e w'=>e=.returned (.tuple #[])/\tB z u w' (F++[J,bM n])/\Below z w w'/\∀k,u.ownBlock=some k->w'.heap[k]?=w.heap[k]?:=by
 have zo:=L.line.lt;have I:=aJ M;clear M;go_enter func38,ntmps38;go_wp2_with fail;refine(GI n R w S).mono ?_;rintro e w1 ⟨rfl,D⟩;have N:=L.keep D;have Z:=D.size;go_wp2_with fail;refine(abQ z u F [J,bM n] w1.heap.size 2 2 _ (N.keep (aY _ _)) (fun k hk=>⟨(I.out k hk).1,by have:=(I.out k hk).2;simp;omega⟩) rfl (fO (aX _ _ _ _ _ rfl) (aX _ _ _ _ _ rfl)) aS).mono ?_;rintro e w2 ⟨rfl,O,b2,Y⟩;go_wp2;refine bodyPost_end (v:=.tuple #[]) (results_none rfl _ _ _) rfl ⟨rfl,O,lL D (lL (aY w1 _) b2 aI) aI,fun k hk=>?_⟩;have h1:=(I.out k hk).2;rw[Y k hk,(aY w1 _).block k aI,D.block k h1]
theorem yT{w w':World}{v:Value}{l:List Int}(h:aO w v l)(I:w.heap.size<=w'.heap.size)(F:∀k,v.ownBlock=some k->w'.heap[k]?=w.heap[k]?):aO w' v l:=by
 obtain⟨a,c,rfl,h1,h2,h3,h4⟩:=h;refine⟨a,c,rfl,h1,h2,h3,?_⟩;rcases h4 with h4|⟨b,D,rfl,hb,hc⟩
 ·exact .inl h4
 ·refine .inr ⟨b,D,rfl,Nat.lt_of_lt_of_le hb I,fun k hk=>?_⟩;have z:=hc k hk;have e:=F b rfl;unfold World.cell? at z ⊢;simp only at z ⊢;rw[e];exact z
end Go.Proofs.YtcpoomdoodlkjaaGreatDoor
end
namespace Go.Proofs.YtcpoomdoodlkjaaGreatDoor
section
open Go.RowKit Go.G5 Go.Proofs.Tryz
def jI(b:Bool)(x:ByteArray):ByteArray:=if b then x else ByteArray.empty
theorem kF(z:List ByteArray)(h:z≠[])(b:Bool)(x y:ByteArray)(D:y=dP++x):bZ dP (z++dY b x)=bZ dP z++jI b y:=by
 subst D
 cases b with
 |false=>show bZ dP (z++[])=bZ dP z++ByteArray.empty;rw[List.append_nil];exact eS (by rw[kB];simp)
 |true=>show bZ dP (z++[x])=bZ dP z++(dP++x);rw[JN _ _ _ h];refine eS ?_;simp only[kB,List.append_assoc]
theorem rU(z:List ByteArray)(h:z≠[])(b:Bool)(x:ByteArray):z++dY b x≠[]:=fun e=>h (List.append_eq_nil_iff.1 e).1
def CQ(F G M S:ByteArray):List ByteArray:=[⟨#[102,117,110,99,116,105,111,110]⟩,F,⟨#[103,97,112]⟩,G,⟨#[109,97,115,115,101,115]⟩,M,⟨#[115,104,97,112,108,101,121]⟩,S]
def xE(F G M S:ByteArray):ByteArray:=⟨#[102,117,110,99,116,105,111,110,32]⟩++F++⟨#[32,103,97,112,32]⟩++G++⟨#[32,109,97,115,115,101,115,32]⟩++M++⟨#[32,115,104,97,112,108,101,121,32]⟩++S
theorem aa5(F G M S:ByteArray):bZ dP (CQ F G M S)=xE F G M S:=by
 unfold CQ xE;simp only[mV,nY];refine eS ?_;simp[dP]
def JB(F G M S:ByteArray)(z D b2 I J K N:Bool):List ByteArray:=CQ F G M S++dY z ⟨#[115,117,98,109,111,100,117,108,97,114]⟩++dY D ⟨#[115,117,112,101,114,109,111,100,117,108,97,114]⟩++dY b2 ⟨#[105,110,99,114,101,97,115,105,110,103]⟩++dY I ⟨#[103,114,111,117,110,100,101,100]⟩++dY J ⟨#[115,121,109,109,101,116,114,105,99]⟩++dY K ⟨#[112,111,108,121,109,97,116,114,111,105,100]⟩++dY N ⟨#[109,97,116,114,111,105,100]⟩
def EM(F G M S:ByteArray)(z D b2 I J K N:Bool):ByteArray:=xE F G M S++jI z ⟨#[32,115,117,98,109,111,100,117,108,97,114]⟩++jI D ⟨#[32,115,117,112,101,114,109,111,100,117,108,97,114]⟩++jI b2 ⟨#[32,105,110,99,114,101,97,115,105,110,103]⟩++jI I ⟨#[32,103,114,111,117,110,100,101,100]⟩++jI J ⟨#[32,115,121,109,109,101,116,114,105,99]⟩++jI K ⟨#[32,112,111,108,121,109,97,116,114,111,105,100]⟩++jI N ⟨#[32,109,97,116,114,111,105,100]⟩
theorem NW(F G M S:ByteArray)(z D b2 I J K N:Bool):bZ dP (JB F G M S z D b2 I J K N)=EM F G M S z D b2 I J K N:=by
 have O:CQ F G M S≠[]:=by simp[CQ]
 have h1:=rU _ O z ⟨#[115,117,98,109,111,100,117,108,97,114]⟩;have h2:=rU _ h1 D ⟨#[115,117,112,101,114,109,111,100,117,108,97,114]⟩;have h3:=rU _ h2 b2 ⟨#[105,110,99,114,101,97,115,105,110,103]⟩;have h4:=rU _ h3 I ⟨#[103,114,111,117,110,100,101,100]⟩;have R:=rU _ h4 J ⟨#[115,121,109,109,101,116,114,105,99]⟩;have Y:=rU _ R K ⟨#[112,111,108,121,109,97,116,114,111,105,100]⟩;unfold JB EM;rw[kF _ Y N _ ⟨#[32,109,97,116,114,111,105,100]⟩ rfl,kF _ R K _ ⟨#[32,112,111,108,121,109,97,116,114,111,105,100]⟩ rfl,kF _ h4 J _ ⟨#[32,115,121,109,109,101,116,114,105,99]⟩ rfl,kF _ h3 I _ ⟨#[32,103,114,111,117,110,100,101,100]⟩ rfl,kF _ h2 b2 _ ⟨#[32,105,110,99,114,101,97,115,105,110,103]⟩ rfl,kF _ h1 D _ ⟨#[32,115,117,112,101,114,109,111,100,117,108,97,114]⟩ rfl,kF _ O z _ ⟨#[32,115,117,98,109,111,100,117,108,97,114]⟩ rfl,aa5]
theorem cQ(b:Bool)(x:ByteArray):(dY b x).length<=1:=by cases b<;>simp[dY]
theorem dU(b:Bool)(x:ByteArray):(jI b x).size<=x.size:=by cases b<;>simp[jI]
theorem lM(l:List Int)(h:∀x∈l,dA x):(eU l).size<=22*l.length+4:=by
 unfold eU
 split
 ·show 4<=_;omega
 ·have:=sW l h;omega
theorem CR(F G M S:ByteArray)(D:F.size<=1000)(I:G.size<=1000)(J:M.size<=1000)(K:S.size<=1000):(xE F G M S).size<=4100:=by
 unfold xE;simp only[ByteArray.size_append];have e1:(⟨#[102,117,110,99,116,105,111,110,32]⟩:ByteArray).size=9:=rfl;have e2:(⟨#[32,103,97,112,32]⟩:ByteArray).size=5:=rfl;have e3:(⟨#[32,109,97,115,115,101,115,32]⟩:ByteArray).size=8:=rfl;have z:(⟨#[32,115,104,97,112,108,101,121,32]⟩:ByteArray).size=9:=rfl;omega
theorem xT{n:Int}{l:List Int}(D:bH n l=true):(fL n l).length<=32:=by
 obtain⟨N,_,_,_,z,_⟩:=cU D;unfold fL;rw[if_pos D,lI];exact z
theorem BN{n:Int}{l:List Int}(z:bH n l=true):(jA n l).length<=5:=by
 obtain⟨N,rfl,D,_⟩:=cU z;unfold jA;rw[if_pos z];simp[nL];omega
def uN(n:Int)(l:List Int):ByteArray:=if bH n l then bZ eD (JB (mB n l) (bM (lX n l)) (eU (fL n l)) (eU (jA n l)) (gO n l) (sO n l) (mK n l) (fZ n l) (pK n l) (eR n l) (dE n l)) else ByteArray.empty
theorem JC{n:Int}{l:List Int}(z:bH n l=true):uN n l=bZ eD (JB (mB n l) (bM (lX n l)) (eU (fL n l)) (eU (jA n l)) (gO n l) (sO n l) (mK n l) (fZ n l) (pK n l) (eR n l) (dE n l)):=by unfold uN;rw[if_pos z]
theorem R8(F G M S:ByteArray)(z D b2 I J K N:Bool)(O:F.size<=1000)(R:G.size<=1000)(Y:M.size<=1000)(Z:S.size<=1000):(EM F G M S z D b2 I J K N).size<=5000:=by
 have h0:=CR F G M S O R Y Z;unfold EM;simp only[ByteArray.size_append];have s0:=dU z (⟨#[32,115,117,98,109,111,100,117,108,97,114]⟩:ByteArray);have t0:(⟨#[32,115,117,98,109,111,100,117,108,97,114]⟩:ByteArray).size=11:=rfl;have s1:=dU D (⟨#[32,115,117,112,101,114,109,111,100,117,108,97,114]⟩:ByteArray);have t1:(⟨#[32,115,117,112,101,114,109,111,100,117,108,97,114]⟩:ByteArray).size=13:=rfl;have s2:=dU b2 (⟨#[32,105,110,99,114,101,97,115,105,110,103]⟩:ByteArray);have t2:(⟨#[32,105,110,99,114,101,97,115,105,110,103]⟩:ByteArray).size=11:=rfl;have s3:=dU I (⟨#[32,103,114,111,117,110,100,101,100]⟩:ByteArray);have t3:(⟨#[32,103,114,111,117,110,100,101,100]⟩:ByteArray).size=9:=rfl;have s4:=dU J (⟨#[32,115,121,109,109,101,116,114,105,99]⟩:ByteArray);have t4:(⟨#[32,115,121,109,109,101,116,114,105,99]⟩:ByteArray).size=10:=rfl;have s5:=dU K (⟨#[32,112,111,108,121,109,97,116,114,111,105,100]⟩:ByteArray);have t5:(⟨#[32,112,111,108,121,109,97,116,114,111,105,100]⟩:ByteArray).size=12:=rfl;have s6:=dU N (⟨#[32,109,97,116,114,111,105,100]⟩:ByteArray);have t6:(⟨#[32,109,97,116,114,111,105,100]⟩:ByteArray).size=8:=rfl;omega
theorem YS(n:Int)(l:List Int)(hm:∀x∈fL n l,dA x)(D:∀x∈jA n l,dA x):(uN n l).size<=5000:=by
 unfold uN
 split
 ·rename_i z;have h1:=xT z;have h2:=BN z;have h3:=lM _ hm;have h4:=lM _ D;have F:=JD n l;have I:=MM n l;have J:=cT (lX n l) ⟨by omega,by omega⟩;rw[show eD=dP from rfl,NW];exact R8 _ _ _ _ _ _ _ _ _ _ _ aI aI aI aI
 ·simp
def vV(w:World)(z:Nat)(n:Nat)(v:Value)(a:Int)(W:World):Prop:=
 Below w w W/\aR W w 26 #[n,v]/\aR W z 3 #[a]
theorem U5(w:World)(z:Nat)(n:Nat)(v:Value)(a:Int)(W W':World)(h:vV w z n v a W)(hb:Below W W W'):vV w z n v a W':=by
 obtain⟨h1,h2,h3⟩:=h;exact⟨h1.after hb h1.size,h2.keep hb,h3.keep hb⟩
theorem YT(w:World)(z:Nat)(d6:w.heap.size<z)(n:Nat)(hn:n<=5)(l:List Int)(v:Value)(hv:aO w v l)(hl:l.length=2^n)(K:∀k,(hk:k<l.length)->-1000<=l[k]/\l[k]<=1000)(a:Int)(s i k:Nat)(W:World)(hs:s<2^n)(d5:i<k)(hk:k<n)(hR:vV w z n v a W):
  Calls prog 161 #[s,i,k,.pointer (some ⟨z,0,none⟩),.pointer (some ⟨w,0,none⟩)] W fun e w'=>
   e=.returned (.bool (AZ l a (s,i,k)).2)/\vV w z n v (AZ l a (s,i,k)).1 w'/\GrownIn W w' (fun b=>b=z):=by
 obtain⟨B,S,M⟩:=hR;have d7:(2:Nat)^n<=32:=Nat.pow_le_pow_right (n:=2) aV hn;have hex:∀V,aO V v l->Calls prog 162 #[.agg #[n,v],s,i,k] V fun e w'=>e=.returned (kJ l s i k)/\Below V V w':=fun V hV=>I2 n hn l v V hV hl K s i k hs aI hk;have J:AZ l a (s,i,k)=(max a (kJ l s i k),true):=rfl;obtain⟨av,cv,rfl⟩:=hv.shape;obtain⟨x,hx⟩:=aN (kJ l s i k);simp only[<-hx]at hex J;rw[J];have G1:=S.cell;have yB:=B.size;have zf:=S.lt;have zo:=M.lt;have R:=aJ hex;clear hl K hx hex hs J;have Go:=M.cell;have Fo:=M.frozen;go_enter func161,ntmps161;go_wp2_with fail;have a8:aO W.drew (ajH av l.length cv) l:=(hv.below B aK).drew';have a1:aR W.drew z 3 #[a]:=M;have Z:aR W.drew w.heap.size 26 #[n,ajH av l.length cv]:=S;have Bd:Below w w W.drew:=B.drew;go_region_law
  (first
   |(go_simp;go_at_call 162;refine(R.out _ a8).mono ?_;rintro e w1 ⟨rfl,I⟩;have D:=a1.keep I;have O:=D.cell;have N:=D.frozen))
 all_goals
  have Y:=Z.keep I;have b1:Below W W w1:=((Below.refl W.heap.size W).drewN' 1).after I (by simp);have B1:=B.after b1 B.size;clear Go G1 Fo;go_wp2;refine aZ ?_;intro Wf F;have KO:aR Wf z 3 #[ajJ (max a x)]:=by rw[F];have:=D.set 0 (ajJ (max a x));simpa using this
  have gF:w1.grownBy Wf (some z):=by rw[F];exact dT (World.grownBy.refl _ _) 0 _
  have KF:=Y.grow gF (by intro h;have:=Option.some.inj h;omega);have BF:=B1.grown gF B1.size kE;have a7:=(GrownIn.of_below (P:=fun b=>b=z) b1).trans (GrownIn.of_row gF (fun q hq=>(Option.some.inj hq).symm));clear F O N;go_ret;exact⟨rfl,⟨BF,KF,KO⟩,a7⟩
theorem E5:∀args w,(callFunc 161 args).run prog w=.ok (.enter 161 args) w:=enters_of func161 aQ rfl
theorem adZ(w:World)(n:Int)(v:Value)(l:List Int)(hv:aO w v l):
  Calls prog 35 #[.agg #[n,v]] w fun e w'=>e=.returned (.tuple #[(lX n l),.bool (bH n l)])/\Below w w w':=by
 have K:=hv;obtain⟨a,c,rfl⟩:=hv.shape;have c9:∀(fn:Fn) (first cap:Array Value) (w:World),(Instr.makeFunc fn first cap).run prog w=.ok (.func fn first cap) w:=fun _ _ _ _=>rfl;have K0:=aR.new w 26 #[n,ajH a l.length c]
 cases I:bH n l with
 |false=>
  have hg:lX n l=0:=by unfold lX;rw[I];rfl
  have HG:=aJ hg;have S:=aJ I;clear hg I;go_enter func35,ntmps35;go_wp2_with (go_at_call 34;refine(dS n l _ _ (K.alloc _)).mono ?_;rintro e w1 ⟨rfl,z⟩;rw[S.out]);go_ret2;exact⟨by rw[HG.out];rfl,(aY _ _).after z (by simp)⟩
 |true=>
  obtain⟨N,rfl,O,J,b5,R⟩:=cU I;have hr:lX (N:Int) l=(gI (AZ l) (jH N (2^N)) 0).1:=by unfold lX R9;rw[I,if_pos rfl,Int.toNat_natCast]
  have F:∀D V,w.heap.size<D->vV w D N (ajH a l.length c) 0 V->Calls prog 160 #[.agg #[N,ajH a l.length c],.func (.func 161) #[] #[.pointer (some ⟨D,0,none⟩),.pointer (some ⟨w,0,none⟩)]] V fun e w'=>
    e=.returned (.tuple #[])/\vV w D N (ajH a l.length c) (lX N l) w'/\GrownIn V w' (fun b=>b=D):=fun D V a1 hV=>by
   rw[hr];refine AM N O l _ J 161 E5 _ _ (AZ l) (vV w D N (ajH a l.length c)) _ (U5 w D N _) V ⟨a,c,rfl⟩ (fun b hb=>by have:=hV.2.2.lt;omega) ?_ 0 hV;intro a' s i k W hs Z hk _ _ hR _;exact YT w D a1 N O l _ K J R a' s i k W hs Z hk hR
  have HV:=aJ F;have S:=aJ I;clear F hr I J R;obtain⟨M,hM⟩:=aN (lX (N:Int) l);rw[<-hM]at HV ⊢;clear hM;go_enter func35,ntmps35;go_wp2_with fail;refine(dS N l _ _ (K.alloc _)).mono ?_;rintro e w1 ⟨rfl,z⟩;rw[S.out];have Y:=K0.keep z;have B1:Below w w w1:=(aY _ _).after z (by simp);have G1:=Y.cell;have z1:=Y.lt;clear z K0;go_wp2_with fail;have R0:vV w w1.heap.size N (ajH a l.length c) 0 (w1.alloc (.cells #['0'] 3)):=⟨B1.alloc B1.size _,Y.alloc _,aR.new _ _ _⟩;refine(HV.out w1.heap.size _ z1 R0).mono ?_;rintro e w2 ⟨rfl,⟨B2,K2,Ko⟩,c8⟩;clear G1 R0;have Go:=Ko.cell;go_wp2;go_ret2;exact⟨rfl,B2⟩
end
end Go.Proofs.YtcpoomdoodlkjaaGreatDoor
