/- Lemmas for CardReports. No condition. -/
import Derived.Test.YtcpoomdoodlkjaaGreatDoorQ18
set_option maxRecDepth 100000
set_option maxHeartbeats 64000000
namespace Go.Proofs.YtcpoomdoodlkjaaGreatDoor
section
open Go.RowKit Go.G5 Go.Proofs.Tryz
theorem FO(g:Int)(l:List Int)(v:Value)(w:World)(Y:aO w v l)(hl:l.length<=1048576)(R:bF g l=true):
  Calls prog 195 #[.agg #[g,v]] w fun e w'=>∃ad i cp,e=.returned (.tuple #[.agg #[g,ajH ad i cp],.bool true])/\aM 3 w w' (ajH ad i cp) (iY l)/\Below w w w':=by
 obtain⟨a,c,rfl⟩:=Y.shape;have hm:=dV R;have HM:=aJ hm;have HF:=aJ R;clear hm R;go_enter func195,ntmps195;go_wp2_with fail;refine bB ?_;intro V K;have B:Below w w V:=fY K;have K1:aR V w 31 #[g,ajH a l.length c]:=gL K;have K2:aR V (w.heap.size+1) 31 #['0',()]:=gV K;clear K;refine(dC g l _ _ (Y.below B aK)).mono ?_;rintro e w1 ⟨rfl,F⟩;rw[HF.out];have J:=K1.keep F;have z:=K2.keep F;have B1:=B.after F B.size;have G1:=J.cell;have z1:=J.lt;have z2:=z.lt;have Z:=Y.below B1 aK;clear K1 K2 B F;go_wp2_with fail;have G2:=z.cell;have F2:=z.frozen;go_region_held3 (fun w'=>(∀i,w'.cell? ⟨w.heap.size,i,none⟩=(#[ajJ g,ajH a l.length c]:Array Value)[i]?)) (go_keep)
  (first
   |(go_at_call 241;refine(BZ l _ _ (Z.below (B:=w1.heap.size) (by repeat(first|exact Below.refl _ _|(with_reducible refine Below.setCell ?_ (by first|omega|(simp;done)|(simp;omega)) _)|(with_reducible refine Below.alloc ?_ (by first|omega|(simp;done)|(simp;omega)) _)|(with_reducible refine Below.drewN' ?_ _)|(with_reducible refine Below.drew ?_)|(with_reducible assumption)|refine Below.trans ?_ (Below.mono (by assumption) (by first|omega|(simp;done)|(simp;omega))))) aK) HM.out hl).mono ?_;rintro e w3 ⟨p3,i3,M,rfl,o3,I⟩;obtain⟨O,S⟩:=gZ I w1.heap.size (by first|omega|(simp;done)|(simp;omega));have z3:=I.size;(try simp at z3)))
 go_wp2;refine aZ ?_;intro Wf D;have N:aR Wf (w.heap.size+1) 31 #[g,ajH p3 i3 M]:=by rw[D];have:=(((z.drewN 1).keep I).set 0 (ajJ g)).set 1 (ajH p3 i3 M);simpa using this
 have Bf:Below w w Wf:=by rw[D];exact Below.setCell (Below.setCell ((B1.drewN' 1).after I (by first|omega|(simp;done)|(simp;omega))) (by first|omega|(simp;done)|(simp;omega)) _) (by first|omega|(simp;done)|(simp;omega)) _
 have of:aM 3 w Wf (ajH p3 i3 M) (iY l):=by rw[D];exact((o3.setBelow (by first|omega|(simp;done)|(simp;omega)) _).setBelow (by first|omega|(simp;done)|(simp;omega)) _).mono (by first|omega|(simp;done)|(simp;omega))
 have Gf:=N.cell;clear D G1 G2 F2 O S;exact bodyPost_ret (v:=.tuple #[.agg #[g,ajH p3 i3 M],.bool true]) (by simp[results,results195,go_sem,Gf]) rfl ⟨_,_,_,rfl,of,Bf⟩
theorem mN(P:Nat->Bool)(k:Nat):∀x∈bQ P k,0<=x/\x<(k:Int):=by
 intro x z;unfold bQ at z;obtain⟨y,D,rfl⟩:=List.mem_map.1 z;have:=List.mem_range.1 (List.mem_filter.1 D).1;exact⟨Int.natCast_nonneg _,by show(y:Int)<k;omega⟩
theorem uJ(P:Nat->Bool)(k:Nat):(bQ P k).Pairwise (· < ·):=by
 induction k with
 |zero=>simp[bQ]
 |succ k ih=>
  rw[fJ]
  split
  ·rw[List.pairwise_append];refine⟨ih,by simp,fun a z b hb=>?_⟩;simp only[List.mem_singleton]at hb;have:=mN P k a z;omega
  ·exact ih
theorem IS(P:Nat->Bool)(g:Nat)(D:g<=6):bF g (bQ P (2^g))=true:=by
 unfold bF fX AQ;have h1:eW (g:Int) 0 6=true:=dH.2 ⟨by omega,by omega⟩;rw[h1,decide_eq_true (uJ P _)];simp only[Bool.true_and,Bool.and_true,List.all_eq_true];intro x z;have:=mN P _ x z;have e:((2^g:Nat):Int)=(2:Int)^g:=by push_cast;rfl
 refine mQ.2 ⟨this.1,?_⟩;have e2:(g:Int).toNat=g:=aI;rw[e2,<-e];exact this.2
theorem S5{l:List Int}{x:Int}(h:x∈iY l):x∈l:=(List.mem_filter.1 h).1
theorem S0(l:List Int):(iY l).length<=l.length:=List.length_filter_le _ _
def qX(g:Nat)(l:List Int):List Int:=bQ (fun s=>mR l (s:Int)) (2^g)
def gW(g:Int)(l:List Int):Int:=if bF g l then g else 0
def lA(g:Int)(l:List Int):List Int:=if bF g l then iY (qX g.toNat l) else []
theorem yG(g:Nat)(z:g<=6)(l:List Int):(∀x∈qX g l,0<=x/\x<64)/\(qX g l).length<=64:=by
 have D:(2:Nat)^g<=2^6:=Nat.pow_le_pow_right aV z;refine⟨fun x F=>?_,?_⟩
 ·have:=mN _ _ x F;have h:((2^g:Nat):Int)<=64:=by exact_mod_cast D
  omega
 ·have:=fG (fun s=>mR l (s:Int)) (2^g);unfold qX;omega
theorem QR(g:Int)(l:List Int):(lA g l).length<=64:=by
 unfold lA
 split
 ·rename_i h;obtain⟨z,D,_⟩:=dQ h;exact Nat.le_trans (S0 _) (yG g.toNat aI l).2
 ·simp
theorem LN(g:Int)(l:List Int):∀x∈lA g l,0<=x/\x<64:=by
 unfold lA
 split
 ·rename_i h;obtain⟨D,F,_⟩:=dQ h;exact fun x z=>(yG g.toNat aI l).1 x (S5 z)
 ·simp
theorem XW(w:World)(g s:Nat)(l:List Int)(v:Value)(z:aO w v l)(d:w.cell? ⟨g,1,none⟩=some v)(D:s<64)(hm:∀x∈l,0<=x/\x<64):
  Calls prog 212 #[(s:Int),.pointer (some ⟨g,0,none⟩)] w fun e w'=>e=.returned (.bool (mR l s))/\Below w w w':=by
 obtain⟨a,c,rfl⟩:=z.shape;have hcl:=DH l _ (s:Int) w z hm aI aI;clear hm;go_enter func212,ntmps212;go_wp2_with (go_at_call 213;refine hcl.mono ?_;rintro e w' ⟨rfl,rfl⟩);go_ret;exact⟨rfl,Below.refl _ _⟩
theorem E1:∀args w,(callFunc 212 args).run prog w=.ok (.enter 212 args) w:=enters_of func212 aQ rfl
theorem IP(w:World)(g:Int)(v:Value)(l:List Int)(hv:aO w v l)(_:l.length<=1048576):
  Calls prog 102 #[.agg #[g,v]] w fun e w'=>∃ad i I,e=.returned (.tuple #[.agg #[(gW g l),ajH ad i I],.bool (bF g l)])/\aM 3 w w' (ajH ad i I) (lA g l)/\Below w w w':=by
 obtain⟨a,c,rfl⟩:=hv.shape;go_enter func102,ntmps102;go_wp2_with fail;refine bB ?_;intro V hV;have B:Below w w V:=fY hV;have K1:aR V w 31 #[g,ajH a l.length c]:=gL hV;have F:aR V (w.heap.size+1) 31 #['0',()]:=gV hV;clear hV;refine(dC g l _ _ (hv.below B aK)).mono ?_;rintro e w1 ⟨rfl,J⟩;have R:=K1.keep J;have D:=F.keep J;have O:=B.after J B.size;have G1:=R.cell;have G2:=D.cell;have F2:=D.frozen;have z1:=R.lt;have z2:=D.lt;have e4:=hv.below O aK;clear K1 F B J
 cases K:bF g l with
 |false=>
  have hN:gW g l=0:=by unfold gW;rw[K];rfl
  have Z:lA g l=[]:=by unfold lA;rw[K];rfl
  have HN:=aJ hN;have HL:=aJ Z;have HF:=aJ K;clear hN Z;go_wp2;refine aZ ?_;intro Wf z;have M:aR Wf (w.heap.size+1) 31 #['0',()]:=by rw[z];have:=(D.set 0 (ajJ 0)).set 1 (ajH none 0 0);simpa using this
  have Bf:Below w w Wf:=by rw[z];exact Below.setCell (Below.setCell O (by first|omega|(simp;done)|(simp;omega)) _) (by first|omega|(simp;done)|(simp;omega)) _
  have Gf:=M.cell;clear z G1 G2 F2;exact bodyPost_ret (v:=.tuple #[.agg #['0',()],.bool false]) (by simp[results,results102,go_sem,Gf]) rfl ⟨none,0,0,by rw[HN.out,HF.out],by rw[HL.out];exact aM.nil _ _ _,Bf⟩
 |true=>
  obtain⟨h0,h6,_⟩:=dQ K;have hm:=dV K;obtain⟨n,rfl⟩:=Int.eq_ofNat_of_zero_le h0;have hn:n<=6:=aI;have hN:gW n l=n:=by unfold gW;rw[K];rfl
  have Z:lA n l=iY (qX n l):=by unfold lA;rw[K];rfl
  have HN:=aJ hN;have HL:=aJ Z;have HF:=aJ K;have d8:=yG n hn l;have d9:(2:Nat)^n<=64:=Nat.pow_le_pow_right (n:=2) aV hn;have a6:∀W,aO W (ajH a l.length c) l->W.cell? ⟨w.heap.size,1,none⟩=some (ajH a l.length c)->Calls prog 191 #[(n:Int),.func (.func 212) #[] #[.pointer (some ⟨w,0,none⟩)]] W fun e w'=>
    ∃ad i I,e=.returned (.agg #[(n:Int),ajH ad i I])/\aM 3 W w' (ajH ad i I) (qX n l)/\Below W W w':=fun W hW hd=>
   wP W n hn 212 E1 w.heap.size (fun s=>mR l (s:Int)) (fun s W' hs hB=>XW W' w.heap.size s l _ (hW.keep hB) (keep hB hd) aI hm)
  have a7:∀(W:World) (ad:Option Addr) (i I:Nat),aO W (ajH ad i I) (qX n l)->Calls prog 195 #[.agg #[(n:Int),ajH ad i I]] W fun e w'=>
    ∃S i' Y,e=.returned (.tuple #[.agg #[(n:Int),ajH S i' Y],.bool true])/\aM 3 W w' (ajH S i' Y) (iY (qX n l))/\Below W W w':=fun W ad i I hW=>
   FO n _ _ W hW aI (IS _ n hn)
  have c6:=aJ a6;have c9:=aJ a7;clear hN Z d8 d9 a6 a7 hm K;go_wp2_with fail;refine(c6.out _ e4 (by rw[G1];rfl)).mono ?_;rintro e w3 ⟨p3,i3,q3,rfl,o3,N⟩;have B3:=O.after N O.size;have F:=D.keep N;clear G1 G2 F2;go_wp2_with fail;refine(c9.out _ p3 i3 q3 (o3.alloc _).ints).mono ?_;rintro e w5 ⟨p5,i5,q5,rfl,o5,d7⟩;have b5:Below w3 w3 w5:=(aY w3 _).after d7 (by simp);have B5:=B3.after b5 B3.size;have F:=F.keep b5;have G2:=F.cell;have F2:=F.frozen;have z5:=F.lt;have y3:=B3.size;have y1:=O.size;have z6:=N.size;have z7:=b5.size;go_wp2;refine aZ ?_;intro Wf z;have M:aR Wf (w.heap.size+1) 31 #[n,ajH p5 i5 q5]:=by rw[z];have:=(F.set 0 (ajJ n)).set 1 (ajH p5 i5 q5);simpa using this
  have Bf:Below w w Wf:=by rw[z];exact Below.setCell (Below.setCell B5 (by first|omega|(simp;done)|(simp;omega)) _) (by first|omega|(simp;done)|(simp;omega)) _
  have of:aM 3 w Wf (ajH p5 i5 q5) (iY (qX n l)):=by rw[z];have e5:=o5.mono (B':=w3.heap.size) (by simp);exact((e5.setBelow (by first|omega|(simp;done)|(simp;omega)) _).setBelow (by first|omega|(simp;done)|(simp;omega)) _).mono (by first|omega|(simp;done)|(simp;omega))
  have Gf:=M.cell;clear z G2 F2;exact bodyPost_ret (v:=.tuple #[.agg #[n,ajH p5 i5 q5],.bool true]) (by simp[results,results102,go_sem,Gf]) rfl ⟨p5,i5,q5,by rw[HN.out,HF.out],by rw[HL.out];exact of,Bf⟩
theorem SO(l:List Int)(v:Value)(s:Int)(w:World)(O:aO w v l)(hm:∀x∈l,0<=x/\x<64)(M:0<=s)(h1:s<64):
  Calls prog 226 #[v,s] w fun e w'=>e=.returned (.bool (mR l s))/\w=w':=by
 obtain⟨a,b,R,c,rfl,K,N,hc,hb⟩:=O.view prog 24 3 underlying24 aP;go_enter func226,ntmps226;go_wp2;go_loop [5] (fun i=>∃k:Nat,k<=l.length/\i=ajJ k/\(l.take k).all (fun t=>bG t s != 0)=true) (fun i=>l.length-(intOf i).toNat)
 case atStart=>exact⟨0,Nat.zero_le _,rfl,by simp⟩
 case round=>
  obtain⟨k,hk,rfl,z⟩:=hrel;have H:=aJ z;clear z;by_cases hlt:k<l.length
  ·have J:=hm _ (List.getElem_mem hlt);have S:=eB J.1 (show l[k]<4611686018427387904 by omega) M aI;by_cases D:bG l[k] s=0
   ·have ht:(bG l[k] s==0)=true:=by simp[D]
    have F:(bG l[k] s != 0)=false:=by simp[D]
    have I:=aJ F;clear D F;go_wp2;go_ret;exact⟨aW (by unfold mR;rw[jJ _ _ _ hlt I.out]),rfl⟩
   ·have ht:(bG l[k] s==0)=false:=by simp[D]
    have F:(bG l[k] s != 0)=true:=by simp[D]
    have I:=aJ F;clear D F;go_wp2;go_round
    case rel=>exact⟨k+1,by omega,by go_num,by rw[gT _ _ _ hlt,H.out,I.out];rfl⟩
    case measure=>simp[intOf];omega
  ·go_wp2;go_ret;exact⟨aW (by unfold mR;rw[<-kM _ l k aI,H.out]),rfl⟩
theorem IQ(w:World)(g:Int)(v:Value)(l:List Int)(hv:aO w v l)(_:l.length<=1048576):
  Calls prog 114 #[.agg #[g,v]] w fun e w'=>∃ad i M,e=.returned (.tuple #[.agg #[(gW g l),ajH ad i M],.bool (bF g l)])/\aM 3 w w' (ajH ad i M) (lA g l)/\Below w w w':=by
 obtain⟨a,c,rfl⟩:=hv.shape;go_enter func114,ntmps114;go_wp2_with fail;refine bB ?_;intro V hV;have B:Below w w V:=fY hV;have K1:aR V w 31 #[g,ajH a l.length c]:=gL hV;have K2:aR V (w.heap.size+1) 31 #['0',()]:=gV hV;clear hV;refine(cP g l _ _ (hv.below B aK)).mono ?_;rintro e w1 ⟨rfl,S⟩;have K:=K1.keep S;have F:=K2.keep S;have B1:=B.after S B.size;have d8:=hv.below B1 aK;clear K1 K2 B S
 cases Z:bF g l with
 |false=>
  have G1:=K.cell;have G2:=F.cell;have F2:=F.frozen;have z2:=F.lt;have hN:gW g l=0:=by unfold gW;rw[Z];rfl
  have hL:lA g l=[]:=by unfold lA;rw[Z];rfl
  have HN:=aJ hN;have HL:=aJ hL;have HF:=aJ Z;clear hN hL;go_wp2;refine aZ ?_;intro Wf z;have a8:aR Wf (w.heap.size+1) 31 #['0',()]:=by rw[z];have:=(F.set 0 (ajJ 0)).set 1 (ajH none 0 0);simpa using this
  have Bf:Below w w Wf:=by rw[z];exact Below.setCell (Below.setCell B1 (by first|omega|(simp;done)|(simp;omega)) _) (by first|omega|(simp;done)|(simp;omega)) _
  have Gf:=a8.cell;clear z G1 G2 F2;exact bodyPost_ret (v:=.tuple #[.agg #['0',()],.bool false]) (by simp[results,results114,go_sem,Gf]) rfl ⟨none,0,0,by rw[HN.out,HF.out],by rw[HL.out];exact aM.nil _ _ _,Bf⟩
 |true=>
  obtain⟨h0,h6,_⟩:=dQ Z;have hm:=dV Z;obtain⟨n,rfl⟩:=Int.eq_ofNat_of_zero_le h0;have hn:n<=6:=aI;have hN:gW n l=n:=by unfold gW;rw[Z];rfl
  have hL:lA n l=iY (qX n l):=by unfold lA;rw[Z];rfl
  have HN:=aJ hN;have HL:=aJ hL;have HF:=aJ Z;have HM:=aJ hm;have hp:=cK n 6 hn;have i8:(2:Int)^n<=64:=by simpa using hp.1
  have j0:=hp.2;have b0:((2^n:Nat):Int)=(2:Int)^n:=by simp
  obtain⟨N,O⟩:∃N:Nat,N=2^n:=⟨_,rfl⟩;obtain⟨P,hP⟩:∃P:Nat->Bool,P=fun s:Nat=>mR l (s:Int):=⟨_,rfl⟩;have J:qX n l=bQ P N:=by rw[O,hP];rfl
  have a9:=yG n hn l;have a1:=uJ P N;have a6:=DI (bQ P N) a1 (fun x hx=>(mN P N x hx).1);rw[J]at a9;have g6:N<=64:=by rw[O];exact Nat.pow_le_pow_right (n:=2) aV hn
  rw[<-O]at b0;have b5:=aJ J;have b6:=aJ a9;have b8:=aJ a6;have HP:=aJ hP;have c5:=aJ b0;have G1:=K.cell;have z1:=K.lt;have z2:=F.lt;have o0:=aM.lit0 (E:=3) (B:=w1.heap.size) w1 aK;clear hN hL J a9 a6 a1 hm Z hp O hP b0;go_wp2_with fail;go_loopw [4,5] (fun out i wr=>∃(k:Nat) (ad:Option Addr) (nn M:Nat),k<=N/\out=ajH ad nn M/\i=ajJ k/\aM 3 w1 wr (ajH ad nn M) (bQ P k)/\Below w1 w1 wr)
   (fun _ i _=>N-(intOf i).toNat)
  case atStart=>exact⟨0,_,_,_,Nat.zero_le _,rfl,rfl,o0,aY _ _⟩
  case round=>
   obtain⟨k,ad,nn,M,hk,rfl,rfl,ho,B⟩:=hrel;have HO:=aJ ho;clear ho o0 G1;have G1:=(K.keep B).cell;have zw:=B.size;by_cases hlt:k<N
   ·have d5:(k:Int)<2^n:=by rw[<-c5.out];exact_mod_cast hlt
    have d0:=fJ P k;have d7:∀W,aO W (ajH a l.length c) l->Calls prog 226 #[ajH a l.length c,(k:Int)] W fun e w'=>e=.returned (.bool (P k))/\W=w':=fun W hW=>by rw[HP.out];exact SO l _ k W hW HM.out aI aI
    have i7:(bQ P k).length<=64:=Nat.le_trans (fG P k) aI;have b7:=aJ d0;have b9:=aJ d7;clear d0 d7
    cases R:P k with
    |false=>
     have I:=aJ R;clear R;go_wp2_with (go_at_call 226;refine(b9.out _ (d8.below B aK)).mono ?_;rintro e w' ⟨rfl,rfl⟩;rw[I.out]);go_roundw
     case rel=>exact⟨k+1,ad,nn,M,by omega,rfl,by go_num,by rw[b7.out,I.out];exact HO.out,B⟩
     case measure=>simp[intOf];omega
    |true=>
     have I:=aJ R;clear R;go_wp2_with (first
      |(go_at_call 226;refine(b9.out _ (d8.below B aK)).mono ?_;rintro e w' ⟨rfl,rfl⟩;rw[I.out])
      |(at_builtin;refine cW rfl _ _ _ rfl 3 underlying24 aP w1.heap.size _ _ (k:Int) wr.heap.size rfl rfl (aX wr #[k] 3 0 _ rfl) (HO.out.alloc _) ⟨by omega,by omega⟩ aI (by first|omega|(simp;done)|(simp;omega)) ?_;intro v' w6 a7 f8;obtain⟨av,nv,cv,rfl⟩:=a7.shape3))
     have B6:Below w1 w1 w6:=(B.alloc B.size (.cells #[k] 3)).grown f8 aS (fun q hq=>(HO.out.lt q hq).1);go_roundw
     case rel=>exact⟨k+1,av,nv,cv,by omega,rfl,by go_num,by rw[b7.out,I.out];exact a7,B6⟩
     case measure=>simp[intOf];omega
   ·have d5:¬(k:Int)<2^n:=by rw[<-c5.out];exact_mod_cast hlt
    have f9:k=N:=aI;subst f9;have d6:∀(W:World),aO W (ajH ad nn M) (bQ P k)->Calls prog 197 #[ajH ad nn M] W fun e w'=>
      ∃c6 i' c7,e=.returned (ajH c6 i' c7)/\aM 3 W w' (ajH c6 i' c7) (iY (bQ P k))/\Below W W w':=fun W hW=>by
     have:=sC (bQ P k) _ W hW b6.out.1 b6.out.2;rw[b8.out]at this;exact this
    have f2:=aJ d6;have D:=F.keep B;have y2:=D.lt;have g1:=HO.out.ints;have j6:w.heap.size<wr.heap.size:=aI;clear d6;go_wp2_with fail;have G2:=D.cell;have F2:=D.frozen;go_region_held3 (fun w'=>(∀i,w'.cell? ⟨w.heap.size,i,none⟩=(#[ajJ n,ajH a l.length c]:Array Value)[i]?)) (go_keep)
     (first
      |(go_at_call 197;refine(f2.out _ (g1.below (B:=wr.heap.size) (by repeat(first|exact Below.refl _ _|(with_reducible refine Below.setCell ?_ (by first|omega|(simp;done)|(simp;omega)) _)|(with_reducible refine Below.alloc ?_ (by first|omega|(simp;done)|(simp;omega)) _)|(with_reducible refine Below.drewN' ?_ _)|(with_reducible refine Below.drew ?_)|(with_reducible assumption)|refine Below.trans ?_ (Below.mono (by assumption) (by first|omega|(simp;done)|(simp;omega))))) aK)).mono ?_;rintro e w3 ⟨p3,i3,q3,rfl,o3,Y⟩;obtain⟨f6,f7⟩:=gZ Y wr.heap.size (by first|omega|(simp;done)|(simp;omega));have z3:=Y.size;(try simp at z3)))
    go_wp2;refine aZ ?_;intro Wf z;have a8:aR Wf (w.heap.size+1) 31 #[n,ajH p3 i3 q3]:=by rw[z];have:=(((D.drewN 1).keep Y).set 0 (ajJ n)).set 1 (ajH p3 i3 q3);simpa using this
    have yy:=B1.size;have Bf:Below w w Wf:=by rw[z];exact Below.setCell (Below.setCell (((B1.after B B1.size).drewN' 1).after Y (by first|omega|(simp;done)|(simp;omega))) (by first|omega|(simp;done)|(simp;omega)) _) (by first|omega|(simp;done)|(simp;omega)) _
    have of:aM 3 w Wf (ajH p3 i3 q3) (iY (bQ P k)):=by rw[z];exact((o3.setBelow (by first|omega|(simp;done)|(simp;omega)) _).setBelow (by first|omega|(simp;done)|(simp;omega)) _).mono (by first|omega|(simp;done)|(simp;omega))
    have Gf:=a8.cell;clear z G1 G2 F2 f6 f7;exact bodyPost_ret (v:=.tuple #[.agg #[n,ajH p3 i3 q3],.bool true]) (by simp[results,results114,go_sem,Gf]) rfl ⟨p3,i3,q3,by rw[HN.out,HF.out],by rw[HL.out,b5.out];exact of,Bf⟩
def sD:List Int->Int->Int
 |[],b=>b
 |s::r,b=>sD r (if bN s.toNat<bN b.toNat then s else b)
def kV(g:Int)(l:List Int):Bool:=bF g l&&!((lA g l).length==0)
def mE(g:Int)(l:List Int):Int:=if kV g l then sD (lA g l) ((lA g l).getD 0 0) else 0
def sZ(g:Int)(l:List Int):Int:=if kV g l then ((bN (mE g l).toNat:Nat):Int) else 0
theorem N8(S:List Int):∀(r:List Int) (b:Int),(∀x∈r,x∈S)->b∈S->sD r b∈S
 |[],_,_,h=>h
 |s::r,b,h1,h2=>by
  rw[sD];refine N8 S r _ (fun x z=>h1 x (List.mem_cons_of_mem _ z)) ?_
  split
  ·exact h1 s (by simp)
  ·exact h2
theorem GW(l:List Int)(j:Nat)(h:j<l.length)(b:Int):sD (l.drop j) b=sD (l.drop (j+1)) (if bN (l[j]).toNat<bN b.toNat then l[j] else b):=by
 rw[List.drop_eq_getElem_cons h,sD]
theorem VP(l:List Int)(h:0<l.length):sD (l.drop 1) l[0]=sD l l[0]:=by
 have:=GW l 0 h l[0];rw[List.drop_zero]at this;rw[this];simp
theorem ah9(g:Int)(l:List Int):0<=mE g l/\mE g l<64:=by
 unfold mE
 split
 ·rename_i h;unfold kV at h;simp only[Bool.and_eq_true,Bool.not_eq_true',beq_eq_false_iff_ne]at h;have hl:0<(lA g l).length:=by have:=h.2;omega
  refine LN g l _ (N8 (lA g l) _ _ (fun x z=>z) ?_);rw[List.getD_eq_getElem?_getD,List.getElem?_eq_getElem hl];simp
 ·omega
theorem UC(g:Int)(l:List Int):0<=sZ g l/\sZ g l<=8:=by
 unfold sZ;have h:=ah9 g l
 split
 ·have:=rK (mE g l).toNat aI;omega
 ·omega
theorem KM(x:Int)(w:World)(z:0<=x)(h1:x<64):Calls prog 165 #[x] w fun e w'=>e=.returned (ajJ ((bN x.toNat:Nat):Int))/\w=w':=by
 obtain⟨n,rfl⟩:=Int.eq_ofNat_of_zero_le z;exact gE n w aI
theorem KP(x:Int)(w:World)(z:0<=x)(h1:x<64):Calls prog 154 #[x] w fun e w'=>e=.returned (ajJ ((bN x.toNat:Nat):Int))/\w=w':=by
 obtain⟨n,rfl⟩:=Int.eq_ofNat_of_zero_le z;exact eK n w aI
theorem ag6(w:World)(g:Int)(v:Value)(l:List Int)(hv:aO w v l)(hl:l.length<=1048576):
  Calls prog 126 #[.agg #[g,v]] w fun e w'=>e=.returned (.tuple #[(sZ g l),(mE g l),.bool (kV g l)])/\Below w w w':=by
 have b6:=hv;obtain⟨a,c,rfl⟩:=hv.shape;have K0:=aR.new w 31 #[g,ajH a l.length c];have e6:=QR g l;have b3:=LN g l;obtain⟨L,N⟩:=aN (lA g l);have J:kV g l=(bF g l&&!(L.length==0)):=by unfold kV;rw[N]
 have hS:kV g l=true->mE g l=sD L (L.getD 0 0):=fun h=>by unfold mE;rw[if_pos h,N]
 have hN:kV g l=true->sZ g l=((bN (mE g l).toNat:Nat):Int):=fun h=>by unfold sZ;rw[if_pos h]
 have O:kV g l=false->mE g l=0/\sZ g l=0:=fun h=>by unfold sZ mE;rw[h];exact⟨rfl,rfl⟩
 rw[<-N]at e6 b3;have b4:=fun(W:World) (h:aO W (ajH a l.length c) l)=>IP W g _ l h hl;simp only[<-N]at b4;have a9:=aJ b4;clear b4 N
 cases Y:bF g l with
 |false=>
  have h0:kV g l=false:=by rw[J,Y];rfl
  have D:=O h0;have H:=aJ (And.intro D.1 (And.intro D.2 h0));have HF:=aJ Y;clear J hS hN O h0 D Y;go_enter func126,ntmps126;go_wp2_with fail;refine(a9.out _ (b6.alloc _)).mono ?_;rintro e w1 ⟨K,i1,M,rfl,o1,b1⟩;have S:i1=L.length:=o1.ints.capLe.1;subst S;have B1:Below w w w1:=(aY _ _).after b1 (by simp);have K1:=aR.new w1 31 #[(gW g l),ajH K L.length M];have B2:=B1.alloc B1.size (.cells #[(gW g l),ajH K L.length M] 31);have hI:=o1.ints.alloc (.cells #[(gW g l),ajH K L.length M] 31);rw[HF.out];go_wp2;exact bodyPost_ret (v:=.tuple #['0','0',.bool false]) (by simp[results,results126,go_sem]) rfl ⟨by rw[H.out.1,H.out.2.1,H.out.2.2],B2⟩
 |true=>
  by_cases hz:L.length=0
  ·have h0:kV g l=false:=by rw[J,Y,hz];rfl
   have D:=O h0;have H:=aJ (And.intro D.1 (And.intro D.2 h0));have HF:=aJ Y;have f7:((L.length:Int)==0)=true:=by simp[hz]
   clear J hS hN O h0 D Y hz;go_enter func126,ntmps126;go_wp2_with fail;refine(a9.out _ (b6.alloc _)).mono ?_;rintro e w1 ⟨K,i1,M,rfl,o1,b1⟩;have S:i1=L.length:=o1.ints.capLe.1;subst S;have B1:Below w w w1:=(aY _ _).after b1 (by simp);have K1:=aR.new w1 31 #[(gW g l),ajH K L.length M];have B2:=B1.alloc B1.size (.cells #[(gW g l),ajH K L.length M] 31);have hI:=o1.ints.alloc (.cells #[(gW g l),ajH K L.length M] 31);have G:=K1.cell;rw[HF.out];go_wp2;exact bodyPost_ret (v:=.tuple #['0','0',.bool false]) (by simp[results,results126,go_sem]) rfl ⟨by rw[H.out.1,H.out.2.1,H.out.2.2],B2⟩
  ·have h1:kV g l=true:=by rw[J,Y];simp[hz]
   have I:0<L.length:=aI;have hs:=hS h1;have hn:=hN h1;rw[List.getD_eq_getElem?_getD,List.getElem?_eq_getElem I,Option.getD_some]at hs;have H:=aJ (And.intro hs (And.intro hn h1));have HF:=aJ Y;have f7:((L.length:Int)==0)=false:=by rw[beq_eq_false_iff_ne];omega
   have b9:=aJ b3;clear J hS hN O h1 hs hn Y hz b3;go_enter func126,ntmps126;go_wp2_with fail;refine(a9.out _ (b6.alloc _)).mono ?_;rintro e w1 ⟨K,i1,M,rfl,o1,b1⟩;have S:i1=L.length:=o1.ints.capLe.1;subst S;have B1:Below w w w1:=(aY _ _).after b1 (by simp);have K1:=aR.new w1 31 #[(gW g l),ajH K L.length M];have B2:=B1.alloc B1.size (.cells #[(gW g l),ajH K L.length M] 31);have hI:=o1.ints.alloc (.cells #[(gW g l),ajH K L.length M] 31);have G:=K1.cell;rw[HF.out];obtain⟨pv,b,f9,cv,f2,c9,b5,hc,hb⟩:=hI.view prog 24 3 underlying24 aP;injection f2 with e1 _ e3;subst e1 e3;have e7:=hc 0 I;have g0:∀W:World,(Instr.indexAt 24 (ajH K L.length M) (ajJ 0)).run prog W=.ok (.pointer (some ⟨b,f9,none⟩)) W:=fun W=>b5 W 0 I;rw[Nat.add_zero]at e7;have HC:=aJ hc;have e4:=aJ b5;clear hc b5 c9;have R:=b9.out _ (List.getElem_mem I);have c7:=R.1;have c8:=R.2;clear R;go_wp2_with fail;go_loopw [7,30] (fun bv iv wr=>∃(j:Nat) (x:Int),j<=L.length/\iv=ajJ j/\bv=ajJ x/\0<=x/\x<64/\sD (L.drop j) x=mE g l/\wr=w1.alloc (.cells #[(gW g l),ajH K L.length M] 31)) (fun _ iv _=>L.length-(intOf iv).toNat)
   case atStart=>exact⟨0,L[0],Nat.zero_le _,rfl,rfl,c7,c8,by rw[List.drop_zero,H.out.1],rfl⟩
   case round=>
    obtain⟨j,x,hj,rfl,rfl,f3,f4,F,rfl⟩:=hrel;by_cases hlt:j<L.length
    ·have d0:(j:Int)<(L.length:Int):=aI;have e8:=HC.out j hlt;have g6:=fun W=>e4.out W j hlt;have Z:=b9.out _ (List.getElem_mem hlt);have z:=GW L j hlt x;rw[F]at z;obtain⟨y,hy⟩:=aN (L[j]);rw[<-hy]at e8 Z z;have f5:=Z.1;have f6:=Z.2;clear hy Z F;by_cases hp:bN y.toNat<bN x.toNat
     ·have e9:((bN y.toNat:Nat):Int)<((bN x.toNat:Nat):Int):=by exact_mod_cast hp
      rw[if_pos hp]at z;have a8:=aJ z;clear z hp;go_wp2_with (go_at_call 165;refine(KM _ _ ?_ ?_).mono ?_;assumption;assumption;rintro e w2 ⟨rfl,rfl⟩);go_roundw
      case rel=>exact⟨j+1,y,by omega,by go_num,rfl,f5,f6,a8.out.symm,trivial⟩
      case measure=>simp[intOf];omega
     ·have e9:¬((bN y.toNat:Nat):Int)<((bN x.toNat:Nat):Int):=by exact_mod_cast hp
      rw[if_neg hp]at z;have a8:=aJ z;clear z hp;go_wp2_with (go_at_call 165;refine(KM _ _ ?_ ?_).mono ?_;assumption;assumption;rintro e w2 ⟨rfl,rfl⟩);go_roundw
      case rel=>exact⟨j+1,x,by omega,by go_num,rfl,f3,f4,a8.out.symm,trivial⟩
      case measure=>simp[intOf];omega
    ·have d0:¬(j:Int)<(L.length:Int):=aI;have a6:x=mE g l:=by rw[<-F,show j=L.length by omega,List.drop_length];rfl
     have e0:=aJ a6;clear F a6;go_wp2_with (go_at_call 165;refine(KM _ _ ?_ ?_).mono ?_;assumption;assumption;rintro e w2 ⟨rfl,rfl⟩);exact bodyPost_ret (v:=.tuple #[ajJ ((bN x.toNat:Nat):Int),x,.bool true]) (by simp[results,results126,go_sem]) rfl ⟨by rw[H.out.2.1,H.out.2.2,e0.out],B2⟩
theorem ag7(w:World)(g:Int)(v:Value)(l:List Int)(hv:aO w v l)(hl:l.length<=1048576):
  Calls prog 131 #[.agg #[g,v]] w fun e w'=>e=.returned (.tuple #[(sZ g l),(mE g l),.bool (kV g l)])/\Below w w w':=by
 have b6:=hv;obtain⟨a,c,rfl⟩:=hv.shape;have K0:=aR.new w 31 #[g,ajH a l.length c];have e6:=QR g l;have b3:=LN g l;obtain⟨L,N⟩:=aN (lA g l);have J:kV g l=(bF g l&&!(L.length==0)):=by unfold kV;rw[N]
 have hS:kV g l=true->mE g l=sD L (L.getD 0 0):=fun h=>by unfold mE;rw[if_pos h,N]
 have hN:kV g l=true->sZ g l=((bN (mE g l).toNat:Nat):Int):=fun h=>by unfold sZ;rw[if_pos h]
 have O:kV g l=false->mE g l=0/\sZ g l=0:=fun h=>by unfold sZ mE;rw[h];exact⟨rfl,rfl⟩
 rw[<-N]at e6 b3;have b4:=fun(W:World) (h:aO W (ajH a l.length c) l)=>IQ W g _ l h hl;simp only[<-N]at b4;have a9:=aJ b4;clear b4 N
 cases Y:bF g l with
 |false=>
  have h0:kV g l=false:=by rw[J,Y];rfl
  have F:=O h0;have H:=aJ (And.intro F.1 (And.intro F.2 h0));have HF:=aJ Y;clear J hS hN O h0 F Y;go_enter func131,ntmps131;go_wp2_with fail;refine(a9.out _ (b6.alloc _)).mono ?_;rintro e w1 ⟨K,i1,M,rfl,o1,b1⟩;have S:i1=L.length:=o1.ints.capLe.1;subst S;have B1:Below w w w1:=(aY _ _).after b1 (by simp);have K1:=aR.new w1 31 #[(gW g l),ajH K L.length M];have B2:=B1.alloc B1.size (.cells #[(gW g l),ajH K L.length M] 31);have hI:=o1.ints.alloc (.cells #[(gW g l),ajH K L.length M] 31);rw[HF.out];go_wp2;exact bodyPost_ret (v:=.tuple #['0','0',.bool false]) (by simp[results,results131,go_sem]) rfl ⟨by rw[H.out.1,H.out.2.1,H.out.2.2],B2⟩
 |true=>
  by_cases hz:L.length=0
  ·have h0:kV g l=false:=by rw[J,Y,hz];rfl
   have F:=O h0;have H:=aJ (And.intro F.1 (And.intro F.2 h0));have HF:=aJ Y;have f7:((L.length:Int)==0)=true:=by simp[hz]
   clear J hS hN O h0 F Y hz;go_enter func131,ntmps131;go_wp2_with fail;refine(a9.out _ (b6.alloc _)).mono ?_;rintro e w1 ⟨K,i1,M,rfl,o1,b1⟩;have S:i1=L.length:=o1.ints.capLe.1;subst S;have B1:Below w w w1:=(aY _ _).after b1 (by simp);have K1:=aR.new w1 31 #[(gW g l),ajH K L.length M];have B2:=B1.alloc B1.size (.cells #[(gW g l),ajH K L.length M] 31);have hI:=o1.ints.alloc (.cells #[(gW g l),ajH K L.length M] 31);have G:=K1.cell;rw[HF.out];go_wp2;exact bodyPost_ret (v:=.tuple #['0','0',.bool false]) (by simp[results,results131,go_sem]) rfl ⟨by rw[H.out.1,H.out.2.1,H.out.2.2],B2⟩
  ·have h1:kV g l=true:=by rw[J,Y];simp[hz]
   have z:0<L.length:=aI;have hs:=hS h1;have hn:=hN h1;rw[List.getD_eq_getElem?_getD,List.getElem?_eq_getElem z,Option.getD_some]at hs;have H:=aJ (And.intro hs (And.intro hn h1));have HF:=aJ Y;have f7:((L.length:Int)==0)=false:=by rw[beq_eq_false_iff_ne];omega
   have b9:=aJ b3;clear J hS hN O h1 hs hn Y hz b3;go_enter func131,ntmps131;go_wp2_with fail;refine(a9.out _ (b6.alloc _)).mono ?_;rintro e w1 ⟨K,i1,M,rfl,o1,b1⟩;have S:i1=L.length:=o1.ints.capLe.1;subst S;have B1:Below w w w1:=(aY _ _).after b1 (by simp);have K1:=aR.new w1 31 #[(gW g l),ajH K L.length M];have B2:=B1.alloc B1.size (.cells #[(gW g l),ajH K L.length M] 31);have hI:=o1.ints.alloc (.cells #[(gW g l),ajH K L.length M] 31);have G:=K1.cell;rw[HF.out];obtain⟨pv,b,f9,cv,f2,c9,b5,hc,hb⟩:=hI.view prog 24 3 underlying24 aP;injection f2 with e1 _ e3;subst e1 e3;have e7:=hc 0 z;have g0:∀W:World,(Instr.indexAt 24 (ajH K L.length M) (ajJ 0)).run prog W=.ok (.pointer (some ⟨b,f9,none⟩)) W:=fun W=>b5 W 0 z;rw[Nat.add_zero]at e7;have HC:=aJ hc;have e4:=aJ b5;clear hc b5 c9;have R:=b9.out _ (List.getElem_mem z);have c7:=R.1;have c8:=R.2;clear R;go_wp2_with fail;go_loopw [7,8] (fun bv iv wr=>∃(j:Nat) (x:Int),1<=j/\j<=L.length/\iv=ajJ j/\bv=ajJ x/\0<=x/\x<64/\sD (L.drop j) x=mE g l/\wr=w1.alloc (.cells #[(gW g l),ajH K L.length M] 31)) (fun _ iv _=>L.length-(intOf iv).toNat)
   case atStart=>exact⟨1,L[0],aK,z,rfl,rfl,c7,c8,by rw[VP L z,H.out.1],rfl⟩
   case round=>
    obtain⟨j,x,g6,hj,rfl,rfl,f3,f4,I,rfl⟩:=hrel;by_cases hlt:j<L.length
    ·have d0:(j:Int)<(L.length:Int):=aI;have e8:=HC.out j hlt;have g7:=fun W=>e4.out W j hlt;have Z:=b9.out _ (List.getElem_mem hlt);have D:=GW L j hlt x;rw[I]at D;obtain⟨y,hy⟩:=aN (L[j]);rw[<-hy]at e8 Z D;have f5:=Z.1;have f6:=Z.2;clear hy Z I;by_cases hp:bN y.toNat<bN x.toNat
     ·have e9:((bN y.toNat:Nat):Int)<((bN x.toNat:Nat):Int):=by exact_mod_cast hp
      rw[if_pos hp]at D;have a8:=aJ D;clear D hp;go_wp2_with (go_at_call 154;refine(KP _ _ ?_ ?_).mono ?_;assumption;assumption;rintro e w2 ⟨rfl,rfl⟩);go_roundw
      case rel=>exact⟨j+1,y,by omega,by omega,by go_num,rfl,f5,f6,a8.out.symm,trivial⟩
      case measure=>simp[intOf];omega
     ·have e9:¬((bN y.toNat:Nat):Int)<((bN x.toNat:Nat):Int):=by exact_mod_cast hp
      rw[if_neg hp]at D;have a8:=aJ D;clear D hp;go_wp2_with (go_at_call 154;refine(KP _ _ ?_ ?_).mono ?_;assumption;assumption;rintro e w2 ⟨rfl,rfl⟩);go_roundw
      case rel=>exact⟨j+1,x,by omega,by omega,by go_num,rfl,f3,f4,a8.out.symm,trivial⟩
      case measure=>simp[intOf];omega
    ·have d0:¬(j:Int)<(L.length:Int):=aI;have a6:x=mE g l:=by rw[<-I,show j=L.length by omega,List.drop_length];rfl
     have e0:=aJ a6;clear I a6;go_wp2_with (go_at_call 154;refine(KP _ _ ?_ ?_).mono ?_;assumption;assumption;rintro e w2 ⟨rfl,rfl⟩);exact bodyPost_ret (v:=.tuple #[ajJ ((bN x.toNat:Nat):Int),x,.bool true]) (by simp[results,results131,go_sem]) rfl ⟨by rw[H.out.2.1,H.out.2.2,e0.out],B2⟩
end
end Go.Proofs.YtcpoomdoodlkjaaGreatDoor
