/- Lemmas for CardReports. No condition. -/
import Derived.Test.YtcpoomdoodlkjaaGreatDoorQ18
set_option maxRecDepth 100000
set_option maxHeartbeats 64000000
namespace Go.Proofs.YtcpoomdoodlkjaaGreatDoor
section
open Go.RowKit Go.G5 Go.Proofs.Tryz
theorem FR(g:Int)(l:List Int)(v:Value)(w:World)(Y:aR w v l)(hl:l.length<=1048576)(R:bJ g l=true):
  Calls prog 195 #[.agg #[g,v]] w fun e w'=>∃ad i cp,e=.returned (.tuple #[.agg #[g,aI ad i cp],.bool true])/\aP 3 w w' (aI ad i cp) (jC l)/\Below w w w':=by
 obtain⟨a,c,rfl⟩:=Y.shape;have hm:=dY R;have HM:=aN hm;have HF:=aN R;clear hm R;go_enter func195,ntmps195;go_wp2_with fail;refine bH ?_;intro V K;have B:Below w w V:=gD K;have K1:aU V w 31 #[g,aI a l.length c]:=gO K;have K2:aU V (w.heap.size+1) 31 #[aJ,()]:=gY K;clear K;refine(dF g l _ _ (Y.below B aO)).mono ?_;rintro e w1 ⟨rfl,F⟩;rw[HF.out];have J:=K1.keep F;have z:=K2.keep F;have B1:=B.after F B.size;have G1:=J.cell;have z1:=J.lt;have z2:=z.lt;have Z:=Y.below B1 aO;clear K1 K2 B F;go_wp2_with fail;have G2:=z.cell;have F2:=z.frozen;go_region_held3 (fun w'=>(∀i,w'.cell? ⟨w.heap.size,i,none⟩=(#[aM g,aI a l.length c]:Array Value)[i]?)) (go_keep)
  (first
   |(go_at_call 241;refine(CC l _ _ (Z.below (B:=w1.heap.size) (by repeat(first|exact Below.refl _ _|(with_reducible refine Below.setCell ?_ (by first|omega|(simp;done)|(simp;omega)) _)|(with_reducible refine Below.alloc ?_ (by first|omega|(simp;done)|(simp;omega)) _)|(with_reducible refine Below.drewN' ?_ _)|(with_reducible refine Below.drew ?_)|(with_reducible assumption)|refine Below.trans ?_ (Below.mono (by assumption) (by first|omega|(simp;done)|(simp;omega))))) aO) HM.out hl).mono ?_;rintro e w3 ⟨p3,i3,M,rfl,o3,I⟩;obtain⟨O,S⟩:=iK I w1.heap.size (by first|omega|(simp;done)|(simp;omega));have z3:=I.size;(try simp at z3)))
 go_wp2;refine bG ?_;intro Wf D;have N:aU Wf (w.heap.size+1) 31 #[g,aI p3 i3 M]:=by rw[D];have:=(((z.drewN 1).keep I).set 0 (aM g)).set 1 (aI p3 i3 M);simpa using this
 have Bf:Below w w Wf:=by rw[D];exact Below.setCell (Below.setCell ((B1.drewN' 1).after I (by first|omega|(simp;done)|(simp;omega))) (by first|omega|(simp;done)|(simp;omega)) _) (by first|omega|(simp;done)|(simp;omega)) _
 have of:aP 3 w Wf (aI p3 i3 M) (jC l):=by rw[D];exact((o3.setBelow (by first|omega|(simp;done)|(simp;omega)) _).setBelow (by first|omega|(simp;done)|(simp;omega)) _).mono (by first|omega|(simp;done)|(simp;omega))
 have Gf:=N.cell;clear D G1 G2 F2 O S;exact bodyPost_ret (v:=.tuple #[.agg #[g,aI p3 i3 M],.bool true]) (by simp[results,results195,go_sem,Gf]) rfl ⟨_,_,_,rfl,of,Bf⟩
theorem mQ(P:Nat->Bool)(k:Nat):∀x∈bW P k,0<=x/\x<(k:Int):=by
 intro x z;unfold bW at z;obtain⟨y,D,rfl⟩:=List.mem_map.1 z;have:=List.mem_range.1 (List.mem_filter.1 D).1;exact⟨Int.natCast_nonneg _,by show(y:Int)<k;omega⟩
theorem uM(P:Nat->Bool)(k:Nat):(bW P k).Pairwise (· < ·):=by
 induction k with
 |zero=>simp[bW]
 |succ k ih=>
  rw[fM]
  split
  ·rw[List.pairwise_append];refine⟨ih,by simp,fun a z b hb=>?_⟩;simp only[List.mem_singleton]at hb;have:=mQ P k a z;omega
  ·exact ih
theorem IW(P:Nat->Bool)(g:Nat)(D:g<=6):bJ g (bW P (2^g))=true:=by
 unfold bJ gA AT;have h1:eZ (g:Int) 0 6=true:=dK.2 ⟨by omega,by omega⟩;rw[h1,decide_eq_true (uM P _)];simp only[Bool.true_and,Bool.and_true,List.all_eq_true];intro x z;have:=mQ P _ x z;have e:((2^g:Nat):Int)=(2:Int)^g:=by push_cast;rfl
 refine mT.2 ⟨this.1,?_⟩;have e2:(g:Int).toNat=g:=aK;rw[e2,<-e];exact this.2
theorem S9{l:List Int}{x:Int}(h:x∈jC l):x∈l:=(List.mem_filter.1 h).1
theorem S8(l:List Int):(jC l).length<=l.length:=List.length_filter_le _ _
def rD(g:Nat)(l:List Int):List Int:=bW (fun s=>mU l (s:Int)) (2^g)
def gZ(g:Int)(l:List Int):Int:=if bJ g l then g else 0
def lD(g:Int)(l:List Int):List Int:=if bJ g l then jC (rD g.toNat l) else []
theorem yJ(g:Nat)(z:g<=6)(l:List Int):(∀x∈rD g l,0<=x/\x<64)/\(rD g l).length<=64:=by
 have D:(2:Nat)^g<=2^6:=Nat.pow_le_pow_right aY z;refine⟨fun x F=>?_,?_⟩
 ·have:=mQ _ _ x F;have h:((2^g:Nat):Int)<=64:=by exact_mod_cast D
  omega
 ·have:=fJ (fun s=>mU l (s:Int)) (2^g);unfold rD;omega
theorem QV(g:Int)(l:List Int):(lD g l).length<=64:=by
 unfold lD
 split
 ·rename_i h;obtain⟨z,D,_⟩:=dT h;exact Nat.le_trans (S8 _) (yJ g.toNat aK l).2
 ·simp
theorem LR(g:Int)(l:List Int):∀x∈lD g l,0<=x/\x<64:=by
 unfold lD
 split
 ·rename_i h;obtain⟨D,F,_⟩:=dT h;exact fun x z=>(yJ g.toNat aK l).1 x (S9 z)
 ·simp
theorem YA(w:World)(g s:Nat)(l:List Int)(v:Value)(z:aR w v l)(d:w.cell? ⟨g,1,none⟩=some v)(D:s<64)(hm:∀x∈l,0<=x/\x<64):
  Calls prog 212 #[(s:Int),.pointer (some ⟨g,0,none⟩)] w fun e w'=>e=.returned (.bool (mU l s))/\Below w w w':=by
 obtain⟨a,c,rfl⟩:=z.shape;have hcl:=DK l _ (s:Int) w z hm aK aK;clear hm;go_enter func212,ntmps212;go_wp2_with (go_at_call 213;refine hcl.mono ?_;rintro e w' ⟨rfl,rfl⟩);go_ret;exact⟨rfl,Below.refl _ _⟩
theorem E4:∀args w,(callFunc 212 args).run prog w=.ok (.enter 212 args) w:=enters_of func212 aT rfl
theorem IT(w:World)(g:Int)(v:Value)(l:List Int)(hv:aR w v l)(_:l.length<=1048576):
  Calls prog 102 #[.agg #[g,v]] w fun e w'=>∃ad i I,e=.returned (.tuple #[.agg #[(gZ g l),aI ad i I],.bool (bJ g l)])/\aP 3 w w' (aI ad i I) (lD g l)/\Below w w w':=by
 obtain⟨a,c,rfl⟩:=hv.shape;go_enter func102,ntmps102;go_wp2_with fail;refine bH ?_;intro V hV;have B:Below w w V:=gD hV;have K1:aU V w 31 #[g,aI a l.length c]:=gO hV;have F:aU V (w.heap.size+1) 31 #[aJ,()]:=gY hV;clear hV;refine(dF g l _ _ (hv.below B aO)).mono ?_;rintro e w1 ⟨rfl,J⟩;have R:=K1.keep J;have D:=F.keep J;have O:=B.after J B.size;have G1:=R.cell;have G2:=D.cell;have F2:=D.frozen;have z1:=R.lt;have z2:=D.lt;have e4:=hv.below O aO;clear K1 F B J
 cases K:bJ g l with
 |false=>
  have hN:gZ g l=0:=by unfold gZ;rw[K];rfl
  have Z:lD g l=[]:=by unfold lD;rw[K];rfl
  have HN:=aN hN;have HL:=aN Z;have HF:=aN K;clear hN Z;go_wp2;refine bG ?_;intro Wf z;have M:aU Wf (w.heap.size+1) 31 #[aJ,()]:=by rw[z];have:=(D.set 0 (aM 0)).set 1 (aI none 0 0);simpa using this
  have Bf:Below w w Wf:=by rw[z];exact Below.setCell (Below.setCell O (by first|omega|(simp;done)|(simp;omega)) _) (by first|omega|(simp;done)|(simp;omega)) _
  have Gf:=M.cell;clear z G1 G2 F2;exact bodyPost_ret (v:=.tuple #[.agg #[aJ,()],.bool false]) (by simp[results,results102,go_sem,Gf]) rfl ⟨none,0,0,by rw[HN.out,HF.out],by rw[HL.out];exact aP.nil _ _ _,Bf⟩
 |true=>
  obtain⟨h0,h6,_⟩:=dT K;have hm:=dY K;obtain⟨n,rfl⟩:=Int.eq_ofNat_of_zero_le h0;have hn:n<=6:=aK;have hN:gZ n l=n:=by unfold gZ;rw[K];rfl
  have Z:lD n l=jC (rD n l):=by unfold lD;rw[K];rfl
  have HN:=aN hN;have HL:=aN Z;have HF:=aN K;have d8:=yJ n hn l;have d9:(2:Nat)^n<=64:=Nat.pow_le_pow_right (n:=2) aY hn;have a6:∀W,aR W (aI a l.length c) l->W.cell? ⟨w.heap.size,1,none⟩=some (aI a l.length c)->Calls prog 191 #[(n:Int),.func (.func 212) #[] #[.pointer (some ⟨w,0,none⟩)]] W fun e w'=>
    ∃ad i I,e=.returned (.agg #[(n:Int),aI ad i I])/\aP 3 W w' (aI ad i I) (rD n l)/\Below W W w':=fun W hW hd=>
   wT W n hn 212 E4 w.heap.size (fun s=>mU l (s:Int)) (fun s W' hs hB=>YA W' w.heap.size s l _ (hW.keep hB) (keep hB hd) aK hm)
  have a7:∀(W:World) (ad:Option Addr) (i I:Nat),aR W (aI ad i I) (rD n l)->Calls prog 195 #[.agg #[(n:Int),aI ad i I]] W fun e w'=>
    ∃S i' Y,e=.returned (.tuple #[.agg #[(n:Int),aI S i' Y],.bool true])/\aP 3 W w' (aI S i' Y) (jC (rD n l))/\Below W W w':=fun W ad i I hW=>
   FR n _ _ W hW aK (IW _ n hn)
  have c6:=aN a6;have c9:=aN a7;clear hN Z d8 d9 a6 a7 hm K;go_wp2_with fail;refine(c6.out _ e4 (by rw[G1];rfl)).mono ?_;rintro e w3 ⟨p3,i3,q3,rfl,o3,N⟩;have B3:=O.after N O.size;have F:=D.keep N;clear G1 G2 F2;go_wp2_with fail;refine(c9.out _ p3 i3 q3 (o3.alloc _).ints).mono ?_;rintro e w5 ⟨p5,i5,q5,rfl,o5,d7⟩;have b5:Below w3 w3 w5:=(bF w3 _).after d7 (by simp);have B5:=B3.after b5 B3.size;have F:=F.keep b5;have G2:=F.cell;have F2:=F.frozen;have z5:=F.lt;have y3:=B3.size;have y1:=O.size;have z6:=N.size;have z7:=b5.size;go_wp2;refine bG ?_;intro Wf z;have M:aU Wf (w.heap.size+1) 31 #[n,aI p5 i5 q5]:=by rw[z];have:=(F.set 0 (aM n)).set 1 (aI p5 i5 q5);simpa using this
  have Bf:Below w w Wf:=by rw[z];exact Below.setCell (Below.setCell B5 (by first|omega|(simp;done)|(simp;omega)) _) (by first|omega|(simp;done)|(simp;omega)) _
  have of:aP 3 w Wf (aI p5 i5 q5) (jC (rD n l)):=by rw[z];have e5:=o5.mono (B':=w3.heap.size) (by simp);exact((e5.setBelow (by first|omega|(simp;done)|(simp;omega)) _).setBelow (by first|omega|(simp;done)|(simp;omega)) _).mono (by first|omega|(simp;done)|(simp;omega))
  have Gf:=M.cell;clear z G2 F2;exact bodyPost_ret (v:=.tuple #[.agg #[n,aI p5 i5 q5],.bool true]) (by simp[results,results102,go_sem,Gf]) rfl ⟨p5,i5,q5,by rw[HN.out,HF.out],by rw[HL.out];exact of,Bf⟩
theorem SS(l:List Int)(v:Value)(s:Int)(w:World)(O:aR w v l)(hm:∀x∈l,0<=x/\x<64)(M:0<=s)(h1:s<64):
  Calls prog 226 #[v,s] w fun e w'=>e=.returned (.bool (mU l s))/\w=w':=by
 obtain⟨a,b,R,c,rfl,K,N,hc,hb⟩:=O.view prog 24 3 underlying24 aS;go_enter func226,ntmps226;go_wp2;go_loop [5] (fun i=>∃k:Nat,k<=l.length/\i=aM k/\(l.take k).all (fun t=>bK t s != 0)=true) (fun i=>l.length-(intOf i).toNat)
 case atStart=>exact⟨0,Nat.zero_le _,rfl,by simp⟩
 case round=>
  obtain⟨k,hk,rfl,z⟩:=hrel;have H:=aN z;clear z;by_cases hlt:k<l.length
  ·have J:=hm _ (List.getElem_mem hlt);have S:=eG J.1 (show l[k]<4611686018427387904 by omega) M aK;by_cases D:bK l[k] s=0
   ·have ht:(bK l[k] s==0)=true:=by simp[D]
    have F:(bK l[k] s != 0)=false:=by simp[D]
    have I:=aN F;clear D F;go_wp2;go_ret;exact⟨aZ (by unfold mU;rw[jM _ _ _ hlt I.out]),rfl⟩
   ·have ht:(bK l[k] s==0)=false:=by simp[D]
    have F:(bK l[k] s != 0)=true:=by simp[D]
    have I:=aN F;clear D F;go_wp2;go_round
    case rel=>exact⟨k+1,by omega,by go_num,by rw[gW _ _ _ hlt,H.out,I.out];rfl⟩
    case measure=>simp[intOf];omega
  ·go_wp2;go_ret;exact⟨aZ (by unfold mU;rw[<-kP _ l k aK,H.out]),rfl⟩
theorem IU(w:World)(g:Int)(v:Value)(l:List Int)(hv:aR w v l)(_:l.length<=1048576):
  Calls prog 114 #[.agg #[g,v]] w fun e w'=>∃ad i M,e=.returned (.tuple #[.agg #[(gZ g l),aI ad i M],.bool (bJ g l)])/\aP 3 w w' (aI ad i M) (lD g l)/\Below w w w':=by
 obtain⟨a,c,rfl⟩:=hv.shape;go_enter func114,ntmps114;go_wp2_with fail;refine bH ?_;intro V hV;have B:Below w w V:=gD hV;have K1:aU V w 31 #[g,aI a l.length c]:=gO hV;have K2:aU V (w.heap.size+1) 31 #[aJ,()]:=gY hV;clear hV;refine(cS g l _ _ (hv.below B aO)).mono ?_;rintro e w1 ⟨rfl,S⟩;have K:=K1.keep S;have F:=K2.keep S;have B1:=B.after S B.size;have d8:=hv.below B1 aO;clear K1 K2 B S
 cases Z:bJ g l with
 |false=>
  have G1:=K.cell;have G2:=F.cell;have F2:=F.frozen;have z2:=F.lt;have hN:gZ g l=0:=by unfold gZ;rw[Z];rfl
  have hL:lD g l=[]:=by unfold lD;rw[Z];rfl
  have HN:=aN hN;have HL:=aN hL;have HF:=aN Z;clear hN hL;go_wp2;refine bG ?_;intro Wf z;have a8:aU Wf (w.heap.size+1) 31 #[aJ,()]:=by rw[z];have:=(F.set 0 (aM 0)).set 1 (aI none 0 0);simpa using this
  have Bf:Below w w Wf:=by rw[z];exact Below.setCell (Below.setCell B1 (by first|omega|(simp;done)|(simp;omega)) _) (by first|omega|(simp;done)|(simp;omega)) _
  have Gf:=a8.cell;clear z G1 G2 F2;exact bodyPost_ret (v:=.tuple #[.agg #[aJ,()],.bool false]) (by simp[results,results114,go_sem,Gf]) rfl ⟨none,0,0,by rw[HN.out,HF.out],by rw[HL.out];exact aP.nil _ _ _,Bf⟩
 |true=>
  obtain⟨h0,h6,_⟩:=dT Z;have hm:=dY Z;obtain⟨n,rfl⟩:=Int.eq_ofNat_of_zero_le h0;have hn:n<=6:=aK;have hN:gZ n l=n:=by unfold gZ;rw[Z];rfl
  have hL:lD n l=jC (rD n l):=by unfold lD;rw[Z];rfl
  have HN:=aN hN;have HL:=aN hL;have HF:=aN Z;have HM:=aN hm;have hp:=cO n 6 hn;have i8:(2:Int)^n<=64:=by simpa using hp.1
  have j0:=hp.2;have b0:((2^n:Nat):Int)=(2:Int)^n:=by simp
  obtain⟨N,O⟩:∃N:Nat,N=2^n:=⟨_,rfl⟩;obtain⟨P,hP⟩:∃P:Nat->Bool,P=fun s:Nat=>mU l (s:Int):=⟨_,rfl⟩;have J:rD n l=bW P N:=by rw[O,hP];rfl
  have a9:=yJ n hn l;have a1:=uM P N;have a6:=DL (bW P N) a1 (fun x hx=>(mQ P N x hx).1);rw[J]at a9;have g6:N<=64:=by rw[O];exact Nat.pow_le_pow_right (n:=2) aY hn
  rw[<-O]at b0;have b5:=aN J;have b6:=aN a9;have b8:=aN a6;have HP:=aN hP;have c5:=aN b0;have G1:=K.cell;have z1:=K.lt;have z2:=F.lt;have o0:=aP.lit0 (E:=3) (B:=w1.heap.size) w1 aO;clear hN hL J a9 a6 a1 hm Z hp O hP b0;go_wp2_with fail;go_loopw [4,5] (fun out i wr=>∃(k:Nat) (ad:Option Addr) (nn M:Nat),k<=N/\out=aI ad nn M/\i=aM k/\aP 3 w1 wr (aI ad nn M) (bW P k)/\Below w1 w1 wr)
   (fun _ i _=>N-(intOf i).toNat)
  case atStart=>exact⟨0,_,_,_,Nat.zero_le _,rfl,rfl,o0,bF _ _⟩
  case round=>
   obtain⟨k,ad,nn,M,hk,rfl,rfl,ho,B⟩:=hrel;have HO:=aN ho;clear ho o0 G1;have G1:=(K.keep B).cell;have zw:=B.size;by_cases hlt:k<N
   ·have d5:(k:Int)<2^n:=by rw[<-c5.out];exact_mod_cast hlt
    have d0:=fM P k;have d7:∀W,aR W (aI a l.length c) l->Calls prog 226 #[aI a l.length c,(k:Int)] W fun e w'=>e=.returned (.bool (P k))/\W=w':=fun W hW=>by rw[HP.out];exact SS l _ k W hW HM.out aK aK
    have i7:(bW P k).length<=64:=Nat.le_trans (fJ P k) aK;have b7:=aN d0;have b9:=aN d7;clear d0 d7
    cases R:P k with
    |false=>
     have I:=aN R;clear R;go_wp2_with (go_at_call 226;refine(b9.out _ (d8.below B aO)).mono ?_;rintro e w' ⟨rfl,rfl⟩;rw[I.out]);go_roundw
     case rel=>exact⟨k+1,ad,nn,M,by omega,rfl,by go_num,by rw[b7.out,I.out];exact HO.out,B⟩
     case measure=>simp[intOf];omega
    |true=>
     have I:=aN R;clear R;go_wp2_with (first
      |(go_at_call 226;refine(b9.out _ (d8.below B aO)).mono ?_;rintro e w' ⟨rfl,rfl⟩;rw[I.out])
      |(at_builtin;refine cZ rfl _ _ _ rfl 3 underlying24 aS w1.heap.size _ _ (k:Int) wr.heap.size rfl rfl (bB wr #[k] 3 0 _ rfl) (HO.out.alloc _) ⟨by omega,by omega⟩ aK (by first|omega|(simp;done)|(simp;omega)) ?_;intro v' w6 a7 f8;obtain⟨av,nv,cv,rfl⟩:=a7.shape3))
     have B6:Below w1 w1 w6:=(B.alloc B.size (.cells #[k] 3)).grown f8 aV (fun q hq=>(HO.out.lt q hq).1);go_roundw
     case rel=>exact⟨k+1,av,nv,cv,by omega,rfl,by go_num,by rw[b7.out,I.out];exact a7,B6⟩
     case measure=>simp[intOf];omega
   ·have d5:¬(k:Int)<2^n:=by rw[<-c5.out];exact_mod_cast hlt
    have f9:k=N:=aK;subst f9;have d6:∀(W:World),aR W (aI ad nn M) (bW P k)->Calls prog 197 #[aI ad nn M] W fun e w'=>
      ∃c6 i' c7,e=.returned (aI c6 i' c7)/\aP 3 W w' (aI c6 i' c7) (jC (bW P k))/\Below W W w':=fun W hW=>by
     have:=sF (bW P k) _ W hW b6.out.1 b6.out.2;rw[b8.out]at this;exact this
    have f2:=aN d6;have D:=F.keep B;have y2:=D.lt;have g1:=HO.out.ints;have j6:w.heap.size<wr.heap.size:=aK;clear d6;go_wp2_with fail;have G2:=D.cell;have F2:=D.frozen;go_region_held3 (fun w'=>(∀i,w'.cell? ⟨w.heap.size,i,none⟩=(#[aM n,aI a l.length c]:Array Value)[i]?)) (go_keep)
     (first
      |(go_at_call 197;refine(f2.out _ (g1.below (B:=wr.heap.size) (by repeat(first|exact Below.refl _ _|(with_reducible refine Below.setCell ?_ (by first|omega|(simp;done)|(simp;omega)) _)|(with_reducible refine Below.alloc ?_ (by first|omega|(simp;done)|(simp;omega)) _)|(with_reducible refine Below.drewN' ?_ _)|(with_reducible refine Below.drew ?_)|(with_reducible assumption)|refine Below.trans ?_ (Below.mono (by assumption) (by first|omega|(simp;done)|(simp;omega))))) aO)).mono ?_;rintro e w3 ⟨p3,i3,q3,rfl,o3,Y⟩;obtain⟨f6,f7⟩:=iK Y wr.heap.size (by first|omega|(simp;done)|(simp;omega));have z3:=Y.size;(try simp at z3)))
    go_wp2;refine bG ?_;intro Wf z;have a8:aU Wf (w.heap.size+1) 31 #[n,aI p3 i3 q3]:=by rw[z];have:=(((D.drewN 1).keep Y).set 0 (aM n)).set 1 (aI p3 i3 q3);simpa using this
    have yy:=B1.size;have Bf:Below w w Wf:=by rw[z];exact Below.setCell (Below.setCell (((B1.after B B1.size).drewN' 1).after Y (by first|omega|(simp;done)|(simp;omega))) (by first|omega|(simp;done)|(simp;omega)) _) (by first|omega|(simp;done)|(simp;omega)) _
    have of:aP 3 w Wf (aI p3 i3 q3) (jC (bW P k)):=by rw[z];exact((o3.setBelow (by first|omega|(simp;done)|(simp;omega)) _).setBelow (by first|omega|(simp;done)|(simp;omega)) _).mono (by first|omega|(simp;done)|(simp;omega))
    have Gf:=a8.cell;clear z G1 G2 F2 f6 f7;exact bodyPost_ret (v:=.tuple #[.agg #[n,aI p3 i3 q3],.bool true]) (by simp[results,results114,go_sem,Gf]) rfl ⟨p3,i3,q3,by rw[HN.out,HF.out],by rw[HL.out,b5.out];exact of,Bf⟩
def sG:List Int->Int->Int
 |[],b=>b
 |s::r,b=>sG r (if bR s.toNat<bR b.toNat then s else b)
def kY(g:Int)(l:List Int):Bool:=bJ g l&&!((lD g l).length==0)
def mH(g:Int)(l:List Int):Int:=if kY g l then sG (lD g l) ((lD g l).getD 0 0) else 0
def tC(g:Int)(l:List Int):Int:=if kY g l then ((bR (mH g l).toNat:Nat):Int) else 0
theorem OC(S:List Int):∀(r:List Int) (b:Int),(∀x∈r,x∈S)->b∈S->sG r b∈S
 |[],_,_,h=>h
 |s::r,b,h1,h2=>by
  rw[sG];refine OC S r _ (fun x z=>h1 x (List.mem_cons_of_mem _ z)) ?_
  split
  ·exact h1 s (by simp)
  ·exact h2
theorem GZ(l:List Int)(j:Nat)(h:j<l.length)(b:Int):sG (l.drop j) b=sG (l.drop (j+1)) (if bR (l[j]).toNat<bR b.toNat then l[j] else b):=by
 rw[List.drop_eq_getElem_cons h,sG]
theorem VT(l:List Int)(h:0<l.length):sG (l.drop 1) l[0]=sG l l[0]:=by
 have:=GZ l 0 h l[0];rw[List.drop_zero]at this;rw[this];simp
theorem aiD(g:Int)(l:List Int):0<=mH g l/\mH g l<64:=by
 unfold mH
 split
 ·rename_i h;unfold kY at h;simp only[Bool.and_eq_true,Bool.not_eq_true',beq_eq_false_iff_ne]at h;have hl:0<(lD g l).length:=by have:=h.2;omega
  refine LR g l _ (OC (lD g l) _ _ (fun x z=>z) ?_);rw[List.getD_eq_getElem?_getD,List.getElem?_eq_getElem hl];simp
 ·omega
theorem UG(g:Int)(l:List Int):0<=tC g l/\tC g l<=8:=by
 unfold tC;have h:=aiD g l
 split
 ·have:=rR (mH g l).toNat aK;omega
 ·omega
theorem KS(x:Int)(w:World)(z:0<=x)(h1:x<64):Calls prog 165 #[x] w fun e w'=>e=.returned (aM ((bR x.toNat:Nat):Int))/\w=w':=by
 obtain⟨n,rfl⟩:=Int.eq_ofNat_of_zero_le z;exact gI n w aK
theorem KT(x:Int)(w:World)(z:0<=x)(h1:x<64):Calls prog 154 #[x] w fun e w'=>e=.returned (aM ((bR x.toNat:Nat):Int))/\w=w':=by
 obtain⟨n,rfl⟩:=Int.eq_ofNat_of_zero_le z;exact eP n w aK
theorem ahA(w:World)(g:Int)(v:Value)(l:List Int)(hv:aR w v l)(hl:l.length<=1048576):
  Calls prog 126 #[.agg #[g,v]] w fun e w'=>e=.returned (.tuple #[(tC g l),(mH g l),.bool (kY g l)])/\Below w w w':=by
 have b6:=hv;obtain⟨a,c,rfl⟩:=hv.shape;have K0:=aU.new w 31 #[g,aI a l.length c];have e6:=QV g l;have b3:=LR g l;obtain⟨L,N⟩:=aQ (lD g l);have J:kY g l=(bJ g l&&!(L.length==0)):=by unfold kY;rw[N]
 have hS:kY g l=true->mH g l=sG L (L.getD 0 0):=fun h=>by unfold mH;rw[if_pos h,N]
 have hN:kY g l=true->tC g l=((bR (mH g l).toNat:Nat):Int):=fun h=>by unfold tC;rw[if_pos h]
 have O:kY g l=false->mH g l=0/\tC g l=0:=fun h=>by unfold tC mH;rw[h];exact⟨rfl,rfl⟩
 rw[<-N]at e6 b3;have b4:=fun(W:World) (h:aR W (aI a l.length c) l)=>IT W g _ l h hl;simp only[<-N]at b4;have a9:=aN b4;clear b4 N
 cases Y:bJ g l with
 |false=>
  have h0:kY g l=false:=by rw[J,Y];rfl
  have D:=O h0;have H:=aN (And.intro D.1 (And.intro D.2 h0));have HF:=aN Y;clear J hS hN O h0 D Y;go_enter func126,ntmps126;go_wp2_with fail;refine(a9.out _ (b6.alloc _)).mono ?_;rintro e w1 ⟨K,i1,M,rfl,o1,b1⟩;have S:i1=L.length:=o1.ints.capLe.1;subst S;have B1:Below w w w1:=(bF _ _).after b1 (by simp);have K1:=aU.new w1 31 #[(gZ g l),aI K L.length M];have B2:=B1.alloc B1.size (.cells #[(gZ g l),aI K L.length M] 31);have hI:=o1.ints.alloc (.cells #[(gZ g l),aI K L.length M] 31);rw[HF.out];go_wp2;exact bodyPost_ret (v:=.tuple #[aJ,aJ,.bool false]) (by simp[results,results126,go_sem]) rfl ⟨by rw[H.out.1,H.out.2.1,H.out.2.2],B2⟩
 |true=>
  by_cases hz:L.length=0
  ·have h0:kY g l=false:=by rw[J,Y,hz];rfl
   have D:=O h0;have H:=aN (And.intro D.1 (And.intro D.2 h0));have HF:=aN Y;have f7:((L.length:Int)==0)=true:=by simp[hz]
   clear J hS hN O h0 D Y hz;go_enter func126,ntmps126;go_wp2_with fail;refine(a9.out _ (b6.alloc _)).mono ?_;rintro e w1 ⟨K,i1,M,rfl,o1,b1⟩;have S:i1=L.length:=o1.ints.capLe.1;subst S;have B1:Below w w w1:=(bF _ _).after b1 (by simp);have K1:=aU.new w1 31 #[(gZ g l),aI K L.length M];have B2:=B1.alloc B1.size (.cells #[(gZ g l),aI K L.length M] 31);have hI:=o1.ints.alloc (.cells #[(gZ g l),aI K L.length M] 31);have G:=K1.cell;rw[HF.out];go_wp2;exact bodyPost_ret (v:=.tuple #[aJ,aJ,.bool false]) (by simp[results,results126,go_sem]) rfl ⟨by rw[H.out.1,H.out.2.1,H.out.2.2],B2⟩
  ·have h1:kY g l=true:=by rw[J,Y];simp[hz]
   have I:0<L.length:=aK;have hs:=hS h1;have hn:=hN h1;rw[List.getD_eq_getElem?_getD,List.getElem?_eq_getElem I,Option.getD_some]at hs;have H:=aN (And.intro hs (And.intro hn h1));have HF:=aN Y;have f7:((L.length:Int)==0)=false:=by rw[beq_eq_false_iff_ne];omega
   have b9:=aN b3;clear J hS hN O h1 hs hn Y hz b3;go_enter func126,ntmps126;go_wp2_with fail;refine(a9.out _ (b6.alloc _)).mono ?_;rintro e w1 ⟨K,i1,M,rfl,o1,b1⟩;have S:i1=L.length:=o1.ints.capLe.1;subst S;have B1:Below w w w1:=(bF _ _).after b1 (by simp);have K1:=aU.new w1 31 #[(gZ g l),aI K L.length M];have B2:=B1.alloc B1.size (.cells #[(gZ g l),aI K L.length M] 31);have hI:=o1.ints.alloc (.cells #[(gZ g l),aI K L.length M] 31);have G:=K1.cell;rw[HF.out];obtain⟨pv,b,f9,cv,f2,c9,b5,hc,hb⟩:=hI.view prog 24 3 underlying24 aS;injection f2 with e1 _ e3;subst e1 e3;have e7:=hc 0 I;have g0:∀W:World,(Instr.indexAt 24 (aI K L.length M) (aM 0)).run prog W=.ok (.pointer (some ⟨b,f9,none⟩)) W:=fun W=>b5 W 0 I;rw[Nat.add_zero]at e7;have HC:=aN hc;have e4:=aN b5;clear hc b5 c9;have R:=b9.out _ (List.getElem_mem I);have c7:=R.1;have c8:=R.2;clear R;go_wp2_with fail;go_loopw [7,30] (fun bv iv wr=>∃(j:Nat) (x:Int),j<=L.length/\iv=aM j/\bv=aM x/\0<=x/\x<64/\sG (L.drop j) x=mH g l/\wr=w1.alloc (.cells #[(gZ g l),aI K L.length M] 31)) (fun _ iv _=>L.length-(intOf iv).toNat)
   case atStart=>exact⟨0,L[0],Nat.zero_le _,rfl,rfl,c7,c8,by rw[List.drop_zero,H.out.1],rfl⟩
   case round=>
    obtain⟨j,x,hj,rfl,rfl,f3,f4,F,rfl⟩:=hrel;by_cases hlt:j<L.length
    ·have d0:(j:Int)<(L.length:Int):=aK;have e8:=HC.out j hlt;have g6:=fun W=>e4.out W j hlt;have Z:=b9.out _ (List.getElem_mem hlt);have z:=GZ L j hlt x;rw[F]at z;obtain⟨y,hy⟩:=aQ (L[j]);rw[<-hy]at e8 Z z;have f5:=Z.1;have f6:=Z.2;clear hy Z F;by_cases hp:bR y.toNat<bR x.toNat
     ·have e9:((bR y.toNat:Nat):Int)<((bR x.toNat:Nat):Int):=by exact_mod_cast hp
      rw[if_pos hp]at z;have a8:=aN z;clear z hp;go_wp2_with (go_at_call 165;refine(KS _ _ ?_ ?_).mono ?_;assumption;assumption;rintro e w2 ⟨rfl,rfl⟩);go_roundw
      case rel=>exact⟨j+1,y,by omega,by go_num,rfl,f5,f6,a8.out.symm,trivial⟩
      case measure=>simp[intOf];omega
     ·have e9:¬((bR y.toNat:Nat):Int)<((bR x.toNat:Nat):Int):=by exact_mod_cast hp
      rw[if_neg hp]at z;have a8:=aN z;clear z hp;go_wp2_with (go_at_call 165;refine(KS _ _ ?_ ?_).mono ?_;assumption;assumption;rintro e w2 ⟨rfl,rfl⟩);go_roundw
      case rel=>exact⟨j+1,x,by omega,by go_num,rfl,f3,f4,a8.out.symm,trivial⟩
      case measure=>simp[intOf];omega
    ·have d0:¬(j:Int)<(L.length:Int):=aK;have a6:x=mH g l:=by rw[<-F,show j=L.length by omega,List.drop_length];rfl
     have e0:=aN a6;clear F a6;go_wp2_with (go_at_call 165;refine(KS _ _ ?_ ?_).mono ?_;assumption;assumption;rintro e w2 ⟨rfl,rfl⟩);exact bodyPost_ret (v:=.tuple #[aM ((bR x.toNat:Nat):Int),x,.bool true]) (by simp[results,results126,go_sem]) rfl ⟨by rw[H.out.2.1,H.out.2.2,e0.out],B2⟩
theorem ahB(w:World)(g:Int)(v:Value)(l:List Int)(hv:aR w v l)(hl:l.length<=1048576):
  Calls prog 131 #[.agg #[g,v]] w fun e w'=>e=.returned (.tuple #[(tC g l),(mH g l),.bool (kY g l)])/\Below w w w':=by
 have b6:=hv;obtain⟨a,c,rfl⟩:=hv.shape;have K0:=aU.new w 31 #[g,aI a l.length c];have e6:=QV g l;have b3:=LR g l;obtain⟨L,N⟩:=aQ (lD g l);have J:kY g l=(bJ g l&&!(L.length==0)):=by unfold kY;rw[N]
 have hS:kY g l=true->mH g l=sG L (L.getD 0 0):=fun h=>by unfold mH;rw[if_pos h,N]
 have hN:kY g l=true->tC g l=((bR (mH g l).toNat:Nat):Int):=fun h=>by unfold tC;rw[if_pos h]
 have O:kY g l=false->mH g l=0/\tC g l=0:=fun h=>by unfold tC mH;rw[h];exact⟨rfl,rfl⟩
 rw[<-N]at e6 b3;have b4:=fun(W:World) (h:aR W (aI a l.length c) l)=>IU W g _ l h hl;simp only[<-N]at b4;have a9:=aN b4;clear b4 N
 cases Y:bJ g l with
 |false=>
  have h0:kY g l=false:=by rw[J,Y];rfl
  have F:=O h0;have H:=aN (And.intro F.1 (And.intro F.2 h0));have HF:=aN Y;clear J hS hN O h0 F Y;go_enter func131,ntmps131;go_wp2_with fail;refine(a9.out _ (b6.alloc _)).mono ?_;rintro e w1 ⟨K,i1,M,rfl,o1,b1⟩;have S:i1=L.length:=o1.ints.capLe.1;subst S;have B1:Below w w w1:=(bF _ _).after b1 (by simp);have K1:=aU.new w1 31 #[(gZ g l),aI K L.length M];have B2:=B1.alloc B1.size (.cells #[(gZ g l),aI K L.length M] 31);have hI:=o1.ints.alloc (.cells #[(gZ g l),aI K L.length M] 31);rw[HF.out];go_wp2;exact bodyPost_ret (v:=.tuple #[aJ,aJ,.bool false]) (by simp[results,results131,go_sem]) rfl ⟨by rw[H.out.1,H.out.2.1,H.out.2.2],B2⟩
 |true=>
  by_cases hz:L.length=0
  ·have h0:kY g l=false:=by rw[J,Y,hz];rfl
   have F:=O h0;have H:=aN (And.intro F.1 (And.intro F.2 h0));have HF:=aN Y;have f7:((L.length:Int)==0)=true:=by simp[hz]
   clear J hS hN O h0 F Y hz;go_enter func131,ntmps131;go_wp2_with fail;refine(a9.out _ (b6.alloc _)).mono ?_;rintro e w1 ⟨K,i1,M,rfl,o1,b1⟩;have S:i1=L.length:=o1.ints.capLe.1;subst S;have B1:Below w w w1:=(bF _ _).after b1 (by simp);have K1:=aU.new w1 31 #[(gZ g l),aI K L.length M];have B2:=B1.alloc B1.size (.cells #[(gZ g l),aI K L.length M] 31);have hI:=o1.ints.alloc (.cells #[(gZ g l),aI K L.length M] 31);have G:=K1.cell;rw[HF.out];go_wp2;exact bodyPost_ret (v:=.tuple #[aJ,aJ,.bool false]) (by simp[results,results131,go_sem]) rfl ⟨by rw[H.out.1,H.out.2.1,H.out.2.2],B2⟩
  ·have h1:kY g l=true:=by rw[J,Y];simp[hz]
   have z:0<L.length:=aK;have hs:=hS h1;have hn:=hN h1;rw[List.getD_eq_getElem?_getD,List.getElem?_eq_getElem z,Option.getD_some]at hs;have H:=aN (And.intro hs (And.intro hn h1));have HF:=aN Y;have f7:((L.length:Int)==0)=false:=by rw[beq_eq_false_iff_ne];omega
   have b9:=aN b3;clear J hS hN O h1 hs hn Y hz b3;go_enter func131,ntmps131;go_wp2_with fail;refine(a9.out _ (b6.alloc _)).mono ?_;rintro e w1 ⟨K,i1,M,rfl,o1,b1⟩;have S:i1=L.length:=o1.ints.capLe.1;subst S;have B1:Below w w w1:=(bF _ _).after b1 (by simp);have K1:=aU.new w1 31 #[(gZ g l),aI K L.length M];have B2:=B1.alloc B1.size (.cells #[(gZ g l),aI K L.length M] 31);have hI:=o1.ints.alloc (.cells #[(gZ g l),aI K L.length M] 31);have G:=K1.cell;rw[HF.out];obtain⟨pv,b,f9,cv,f2,c9,b5,hc,hb⟩:=hI.view prog 24 3 underlying24 aS;injection f2 with e1 _ e3;subst e1 e3;have e7:=hc 0 z;have g0:∀W:World,(Instr.indexAt 24 (aI K L.length M) (aM 0)).run prog W=.ok (.pointer (some ⟨b,f9,none⟩)) W:=fun W=>b5 W 0 z;rw[Nat.add_zero]at e7;have HC:=aN hc;have e4:=aN b5;clear hc b5 c9;have R:=b9.out _ (List.getElem_mem z);have c7:=R.1;have c8:=R.2;clear R;go_wp2_with fail;go_loopw [7,8] (fun bv iv wr=>∃(j:Nat) (x:Int),1<=j/\j<=L.length/\iv=aM j/\bv=aM x/\0<=x/\x<64/\sG (L.drop j) x=mH g l/\wr=w1.alloc (.cells #[(gZ g l),aI K L.length M] 31)) (fun _ iv _=>L.length-(intOf iv).toNat)
   case atStart=>exact⟨1,L[0],aO,z,rfl,rfl,c7,c8,by rw[VT L z,H.out.1],rfl⟩
   case round=>
    obtain⟨j,x,g6,hj,rfl,rfl,f3,f4,I,rfl⟩:=hrel;by_cases hlt:j<L.length
    ·have d0:(j:Int)<(L.length:Int):=aK;have e8:=HC.out j hlt;have g7:=fun W=>e4.out W j hlt;have Z:=b9.out _ (List.getElem_mem hlt);have D:=GZ L j hlt x;rw[I]at D;obtain⟨y,hy⟩:=aQ (L[j]);rw[<-hy]at e8 Z D;have f5:=Z.1;have f6:=Z.2;clear hy Z I;by_cases hp:bR y.toNat<bR x.toNat
     ·have e9:((bR y.toNat:Nat):Int)<((bR x.toNat:Nat):Int):=by exact_mod_cast hp
      rw[if_pos hp]at D;have a8:=aN D;clear D hp;go_wp2_with (go_at_call 154;refine(KT _ _ ?_ ?_).mono ?_;assumption;assumption;rintro e w2 ⟨rfl,rfl⟩);go_roundw
      case rel=>exact⟨j+1,y,by omega,by omega,by go_num,rfl,f5,f6,a8.out.symm,trivial⟩
      case measure=>simp[intOf];omega
     ·have e9:¬((bR y.toNat:Nat):Int)<((bR x.toNat:Nat):Int):=by exact_mod_cast hp
      rw[if_neg hp]at D;have a8:=aN D;clear D hp;go_wp2_with (go_at_call 154;refine(KT _ _ ?_ ?_).mono ?_;assumption;assumption;rintro e w2 ⟨rfl,rfl⟩);go_roundw
      case rel=>exact⟨j+1,x,by omega,by omega,by go_num,rfl,f3,f4,a8.out.symm,trivial⟩
      case measure=>simp[intOf];omega
    ·have d0:¬(j:Int)<(L.length:Int):=aK;have a6:x=mH g l:=by rw[<-I,show j=L.length by omega,List.drop_length];rfl
     have e0:=aN a6;clear I a6;go_wp2_with (go_at_call 154;refine(KT _ _ ?_ ?_).mono ?_;assumption;assumption;rintro e w2 ⟨rfl,rfl⟩);exact bodyPost_ret (v:=.tuple #[aM ((bR x.toNat:Nat):Int),x,.bool true]) (by simp[results,results131,go_sem]) rfl ⟨by rw[H.out.2.1,H.out.2.2,e0.out],B2⟩
end
end Go.Proofs.YtcpoomdoodlkjaaGreatDoor
