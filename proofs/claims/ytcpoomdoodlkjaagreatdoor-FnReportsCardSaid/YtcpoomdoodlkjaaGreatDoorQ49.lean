/- Lemmas for CardReports. No condition. -/
import Derived.Test.YtcpoomdoodlkjaaGreatDoorQ28
import Derived.Test.YtcpoomdoodlkjaaGreatDoorQ47
set_option maxRecDepth 100000
set_option maxHeartbeats 64000000
namespace Go.Proofs.YtcpoomdoodlkjaaGreatDoor
section
open Go.RowKit Go.G5 Go.Proofs.Tryz
def sN(l:List Int)(s:Int):Bool:=tG (l++[s])
theorem aiO(l:List Int)(j:Nat)(h:j<l.length)(c b:List Int):iU sN (l.drop j) c b=if c.length+(l.length-j)<=b.length then b else if sN c l[j] then iU sN (l.drop (j+1)) c (cN b (iU sN (l.drop (j+1)) (c++[l[j]]) (c++[l[j]]))) else iU sN (l.drop (j+1)) c b:=by
 rw[List.drop_eq_getElem_cons h,iU,List.length_drop,show l.length-(j+1)+1=l.length-j by omega]
theorem VP(l:List Int)(lv:Value)(hm:∀x∈l,0<=x/\x<64)(hl:l.length<=64):∀(m k:Nat) (z:List Int) (v:Value) (w:World) (B:Nat),k+m=l.length->aR w lv l->aP 3 B w v z->(∀x∈z,0<=x/\x<64)->B<=w.heap.size->z.length+m<=64 ->
  Calls prog 248 #[lv,k,v] w fun e w'=>∃a i q,e=.returned (aI a i q)/\aP 3 B w' (aI a i q) (iU sN (l.drop k) z z)/\Below w w w':=by
 have HM:=aN hm;clear hm;intro m
 induction m using Nat.strongRecOn with
 |ind m ih=>
 intro k z v w B j6 d6 own c8 hB hcm;have d7:=d6;obtain⟨a,b,g2,cp,rfl,d5,d0,hc,hb⟩:=d6.view prog 24 3 underlying24 aS;obtain⟨av,cv,rfl⟩:=own.shape;have HC:=aN hc;have f0:=aN d0;have IH:=aN ih;have e9:=aN c8;clear hc d0 ih d5 c8;go_enter func248,ntmps248;go_wp2_with fail;go_loopw [7,8] (fun bv iv wr=>∃(j:Nat) (x:List Int) (p:Option Addr) (n q:Nat),k<=j/\j<=l.length/\iv=aM j/\bv=aI p n q/\aP 3 B wr (aI p n q) x/\x.length<=64/\iU sN (l.drop j) z x=iU sN (l.drop k) z z/\Below w w wr) (fun _ iv _=>l.length-(intOf iv).toNat)
 case atStart=>exact⟨k,z,_,_,_,aO,by omega,rfl,rfl,own,by omega,rfl,Below.refl _ _⟩
 case round=>
  obtain⟨j,y,p,n,q,j5,hj,rfl,rfl,ox,a8,O,J⟩:=hrel;have f7:=ox.ints.capLe.1;subst f7;by_cases hlt:j<l.length
  ·have g8:(j:Int)<(l.length:Int):=aK;have b0:=aW HC.out hb J aO j hlt;have j4:=fun W=>f0.out W j hlt;have d9:=HM.out _ (List.getElem_mem hlt);have F:=aiO l j hlt z y;rw[O]at F;have yw:=J.size;have ol:=own.keep J;have g6:z.length<=64:=aK;obtain⟨x,hx⟩:=aQ (l[j]);rw[<-hx]at b0 d9 F;have j9:IntKind.i64.wrap ((z.length:Int)+(l.length:Int))=(z.length:Int)+(l.length:Int):=by rw[IntKind.wrap_i64];omega
   have k0:IntKind.i64.wrap ((z.length:Int)+(l.length:Int)-(j:Int))=(z.length:Int)+(l.length:Int)-(j:Int):=by rw[IntKind.wrap_i64];omega
   clear hx O;by_cases S:z.length+(l.length-j)<=y.length
   ·rw[if_pos S]at F;have d8:(z.length:Int)+(l.length:Int)-(j:Int)<=(y.length:Int):=aK;have M:=aN F;clear F S;go_wp2;go_ret;exact⟨_,_,_,rfl,by rw[M.out];exact ox,J⟩
   ·rw[if_neg S]at F
    have d8:¬(z.length:Int)+(l.length:Int)-(j:Int)<=(y.length:Int):=aK;have f8:z.length+1+(l.length-(j+1))<=64:=aK;have b5:∀e∈([]++z)++[x],0<=e/\e<64:=fun e he=>by
     rw[List.nil_append]at he;rcases List.mem_append.1 he with h|h
     ·exact e9.out e h
     ·rw[List.mem_singleton]at h;rw[h];exact d9
    have K:∀(v2:Value) (w2:World),aP 3 wr w2 v2 (([]++z)++[x])->Calls prog 234 #[v2] w2 fun e w'=>e=.returned (.bool (sN z x))/\Below w2 w2 w':=fun v2 w2 q1=>by have:=FN (([]++z)++[x]) v2 w2 q1.ints b5 aV;exact this
    obtain⟨R,hR⟩:=aQ (iU sN (l.drop (j+1)) (z++[x]) (z++[x]));have f4:R.length<=64:=by rw[hR];have h1:=xD sN (l.drop (j+1)) (z++[x]) (z++[x]);rw[List.length_append,List.length_singleton,List.length_drop]at h1;omega
    have a7:∀(v2:Value) (w2:World),aP 3 wr w2 v2 (([]++z)++[x])->Below wr wr w2 ->
      Calls prog 248 #[aI a l.length cp,aM ((j:Int)+1),v2] w2 fun e w'=>∃ad i q,e=.returned (aI ad i q)/\aP 3 wr w' (aI ad i q) R/\Below w2 w2 w':=fun v2 w2 q1 q2=>by
     rw[hR,show(j:Int)+1=((j+1:Nat):Int) by simp];have a1:=b5;rw[List.nil_append]at q1 a1;exact IH.out (l.length-(j+1)) aK (j+1) _ v2 w2 wr.heap.size aK (d7.below (J.after q2 J.size) aO) q1 a1 q2.size (by rw[List.length_append,List.length_singleton];omega)
    rw[<-hR]at F;have b9:=aN a7;have a9:=aN K;have M:=aN F;have c5:([]:List Int).length+z.length<=17592186044416:=by simp;omega
    have c6:([]++z).length + [x].length<=17592186044416:=by simp;omega
    have c7:dD x:=⟨by omega,by omega⟩;have k1:IntKind.i64.wrap ((j:Int)+1)=(j:Int)+1:=by rw[IntKind.wrap_i64];omega
    have b7:=aN c5;have b8:=aN c6;have f3:=aN c7;clear a7 F hR c5 c6 c7 b5 K S f8;go_wp2_with fail;go_region_held3 (fun w'=>w'.cell? ⟨b,g2+j,none⟩=some (aM x)) (go_keep)
     (first
      |(refine iT rfl _ _ _ rfl 3 underlying24 aS wr.heap.size (aI (some ⟨_,0,none⟩) 0 0) [] rfl (aI av z.length cv) z rfl ?_ ?_ b7.out wr ?_ aO ?_;(first|(with_reducible exact(aP.lit0 wr aO).drew')|(with_reducible exact((aP.lit0 wr aO).alloc _).drew')|(with_reducible exact(aP.lit0' wr _).drew'));(first|(with_reducible exact(ol.ints.alloc _).drew')|(with_reducible exact((ol.ints.alloc _).alloc _).drew'));(first|(with_reducible exact(bF wr _).drew)|(with_reducible exact(wM wr _ _).drew));(intro v1 w1 o1 b1 pc;have j7:=keep b1 b0))
      |(refine iT rfl _ _ _ rfl 3 underlying24 aS wr.heap.size v1 ([]++z) rfl (aI (some ⟨_,0,none⟩) 1 1) [x] rfl ?_ ?_ b8.out wr ?_ aO ?_;(first|(with_reducible exact o1)|(with_reducible exact o1.alloc _));(refine aR.one ?_ f3.out;first|(with_reducible exact bB _ _ _ _ _ rfl)|(with_reducible exact pc _ _ (sY _ _ _ _) (AJ _ _ _))|(with_reducible exact pc _ _ (uL _ _ _ _) (AK _ _ _)));(first|(with_reducible exact b1)|(with_reducible exact b1.alloc b1.size _));(intro v2 w2 o2 b2 _;have j8:=keep b2 b0))
     )
    all_goals
     obtain⟨p2,n2,c2,rfl⟩:=o2.shape3;go_wp2_with fail;refine(a9.out _ w2 o2).mono ?_;rintro e w3 ⟨rfl,b3⟩;have B3:=b2.after b3 b2.size;have o3:=o2.keep b3
     cases hT:sN z x with
     |false=>
      have D:iU sN (l.drop (j+1)) z y=iU sN (l.drop k) z z:=by rw[M.out,hT];rfl
      have I:=aN D;have Bz:=J.after B3 J.size;have oz:=ox.keep B3;clear D hT;go_wp2;go_roundw
      case rel=>exact⟨j+1,y,p,_,q,by omega,by omega,by go_num,rfl,oz,a8,I.out,Bz⟩
      case measure=>simp[intOf];omega
     |true=>
      have Z:iU sN (l.drop (j+1)) z (cN y R)=iU sN (l.drop k) z z:=by rw[M.out,hT];rfl
      have Y:=aN Z;clear Z hT;go_wp2_with fail;refine(b9.out _ w3 o3 B3).mono ?_;rintro e w4 ⟨p4,i4,q4,rfl,o4,b4⟩;have f5:i4=R.length:=o4.ints.capLe.1;subst f5;have B4:=B3.after b4 B3.size;have Bz:=J.after B4 J.size;have oz:=ox.keep B4;by_cases N:y.length<R.length
      ·have c9:(y.length:Int)<(R.length:Int):=aK;have hlo:cN y R=R:=by unfold cN;rw[if_pos N]
       have D:iU sN (l.drop (j+1)) z R=iU sN (l.drop k) z z:=by rw[<-Y.out,hlo]
       have I:=aN D;have g1:=o4.mono (B':=B) aK;clear hlo D N;go_wp2;go_roundw
       case rel=>exact⟨j+1,R,p4,_,q4,by omega,by omega,by go_num,rfl,g1,f4,I.out,Bz⟩
       case measure=>simp[intOf];omega
      ·have c9:¬(y.length:Int)<(R.length:Int):=aK;have hlo:cN y R=y:=by unfold cN;rw[if_neg N]
       have D:iU sN (l.drop (j+1)) z y=iU sN (l.drop k) z z:=by rw[<-Y.out,hlo]
       have I:=aN D;clear hlo D N;go_wp2;go_roundw
       case rel=>exact⟨j+1,y,p,_,q,by omega,by omega,by go_num,rfl,oz,a8,I.out,Bz⟩
       case measure=>simp[intOf];omega
  ·have f6:j=l.length:=aK;have a6:y=iU sN (l.drop k) z z:=by rw[<-O,f6,List.drop_length];rfl
   have f2:=aN a6;clear O a6;go_wp2;go_ret;exact⟨_,_,_,rfl,by rw[<-f2.out];exact ox,J⟩
theorem adC(w:World)(g:Int)(v:Value)(l:List Int)(hv:aR w v l):
  Calls prog 143 #[.agg #[g,v]] w fun e w'=>∃ad i cp,e=.returned (.tuple #[.agg #[(FP g l),aI ad i cp],.bool (uU g l)])/\aR w' (aI ad i cp) (sL g l)/\Below w w w':=by
 have d8:=hv;obtain⟨a,c,rfl⟩:=hv.shape;go_enter func143,ntmps143;go_wp2_with fail;refine bH ?_;intro V hV;have B:Below w w V:=gD hV;have K1:aU V w 31 #[g,aI a l.length c]:=gO hV;have K2:aU V (w.heap.size+1) 31 #[aJ,()]:=gY hV;clear hV;refine(cS g l _ _ (hv.below B aO)).mono ?_;rintro e w1 ⟨rfl,J⟩;have R:=K1.keep J;have F:=K2.keep J;have B1:=B.after J B.size;have c6:=hv.below B1 aO;clear K1 K2 B J;have G1:=R.cell;have z1:=R.lt;have z2:=F.lt
 cases D:uU g l with
 |false=>
  have Z:=And.intro (abQ D) D;have M:=aN Z;have c5:bJ g l=false∨(bJ g l=true/\¬l.length<=12):=by
   unfold uU at D
   cases I:bJ g l with
   |false=>exact .inl rfl
   |true=>rw[I]at D;simp at D;exact .inr ⟨rfl,by omega⟩
  clear Z D;have G2:=F.cell;have F2:=F.frozen;have key:∀Wf,Wf=(w1.setCell ⟨w.heap.size+1,0,none⟩ (aM 0)).setCell ⟨w.heap.size+1,1,none⟩ (aI none 0 0)->aU Wf (w.heap.size+1) 31 #[aJ,()]/\Below w w Wf:=fun Wf z=>by refine⟨?_,by rw[z];exact Below.setCell (Below.setCell B1 (by first|omega|(simp;done)|(simp;omega)) _) (by first|omega|(simp;done)|(simp;omega)) _⟩;rw[z];have:=(F.set 0 (aM 0)).set 1 (aI none 0 0);simpa using this
  rcases c5 with I|⟨I,d7⟩
  ·rw[I];go_wp2;refine bG ?_;intro Wf z;obtain⟨S,N⟩:=key Wf z;have O:=S.cell;clear z G1 G2 F2 key;exact bodyPost_ret (v:=.tuple #[.agg #[aJ,()],.bool false]) (by simp[results,results143,go_sem,O]) rfl ⟨none,0,0,by rw[M.out.1.1,M.out.2],by rw[M.out.1.2];exact aR.empty _ _ _ _ rfl aY,N⟩
  ·rw[I];have d5:(12:Int)<(l.length:Int):=aK;go_wp2;refine bG ?_;intro Wf z;obtain⟨S,N⟩:=key Wf z;have O:=S.cell;clear z G1 G2 F2 key;exact bodyPost_ret (v:=.tuple #[.agg #[aJ,()],.bool false]) (by simp[results,results143,go_sem,O]) rfl ⟨none,0,0,by rw[M.out.1.1,M.out.2],by rw[M.out.1.2];exact aR.empty _ _ _ _ rfl aY,N⟩
 |true=>
  have K:=And.intro (ES D) D;have HY:=aN K;unfold uU at D;rw[Bool.and_eq_true,decide_eq_true_eq]at D;obtain⟨I,d6⟩:=D;have d0:¬(12:Int)<(l.length:Int):=aK;have Y:∀W v,Below w1 w1 W->aP 3 w1 W v []->Calls prog 248 #[aI a l.length c,aJ,v] W fun e w'=>∃a i q,e=.returned (aI a i q)/\aP 3 w1 w' (aI a i q) (iU kV l [] [])/\Below W W w':=fun W v h1 h2=>by have:=VP l _ (dY I) aK l.length 0 [] v W w1.heap.size aK (c6.below h1 aO) h2 (by simp) h1.size aV;rw[List.drop_zero]at this;have e:iU sN l [] []=iU kV l [] []:=EF l [] [] ad2 (by simp) (fun x hx=>(dY I x hx).1);rw[e]at this;exact this
  have b5:=aN Y;rw[I];clear K I Y;go_wp2_with fail;have G2:=F.cell;have F2:=F.frozen;go_region_held3 (fun w'=>w'.cell? ⟨w.heap.size,0,none⟩=some (aM g)/\w'.cell? ⟨w.heap.size,1,none⟩=some (aI a l.length c)) (go_keep)
   (first
    |(go_at_call 248;refine(b5.out _ _ (bF w1 _).drew (aP.lit0 w1 aO).drew').mono ?_;rintro e w3 ⟨p3,i3,q3,rfl,o3,b7⟩;have b3:=(bF w1 (.cells #[] 3)).drew.after b7 (bF w1 (.cells #[] 3)).drew.size;obtain⟨b8,b9⟩:=iK b3 w1.heap.size (by first|omega|(simp;done)|(simp;omega));have z3:=b3.size;(try simp at z3)))
  go_wp2;refine bG ?_;intro Wf z;have S:aU Wf (w.heap.size+1) 31 #[g,aI p3 i3 q3]:=by rw[z];have:=((F.keep b3).set 0 (aM g)).set 1 (aI p3 i3 q3);simpa using this
  have N:Below w w Wf:=by rw[z];exact Below.setCell (Below.setCell (B1.after b3 B1.size) (by first|omega|(simp;done)|(simp;omega)) _) (by first|omega|(simp;done)|(simp;omega)) _
  have of:aP 3 w1 Wf (aI p3 i3 q3) (iU kV l [] []):=by rw[z];exact(o3.setBelow (by show w.heap.size+1<_;omega) _).setBelow (by show w.heap.size+1<_;omega) _
  have O:=S.cell;clear z G1 G2 F2 b8 b9;exact bodyPost_ret (v:=.tuple #[.agg #[g,aI p3 i3 q3],.bool true]) (by simp[results,results143,go_sem,O]) rfl ⟨_,_,_,by rw[HY.out.1.1,HY.out.2],by rw[HY.out.1.2];exact of.ints,N⟩
theorem acB(w:World)(g:Int)(v:Value)(l:List Int)(hv:aR w v l)(hl:l.length<=1048576):
  Calls prog 25 #[.agg #[g,v]] w fun e w'=>e=.returned (.string (AC g l))/\Below w w w':=by
 have J:=hv;obtain⟨a,c,rfl⟩:=hv.shape;have K0:=aU.new w 31 #[g,aI a l.length c]
 cases hf:bJ g l with
 |false=>have M:=aN (XI hf);have HF:=aN hf;clear hf;go_enter func25,ntmps25;go_wp2_with fail;refine(cS g l _ _ (J.alloc _)).mono ?_;rintro e w1 ⟨rfl,b1⟩;rw[HF.out];go_wp2;go_ret;exact⟨cI M.out.symm,(bF _ _).after b1 (by simp)⟩
 |true=>
  have hcl:=LT g l;have j5:=sH g l;have j4:=(DD g l).1;have a8:uU g l=true->FP g l=g:=fun h=>(ES h).1;have c6:=fun(W:World) (h:aR W (aI a l.length c) l)=>adL W g _ l h;have c7:=fun(W:World) (h:aR W (aI a l.length c) l)=>abT W g _ l h;have a7:=fun(W:World) (h:aR W (aI a l.length c) l)=>adC W g _ l h;have b9:=fun(W:World) (h:aR W (aI a l.length c) l)=>ai1 W g _ l h;have c8:=fun(W:World) (h:aR W (aI a l.length c) l)=>YU W g _ l h hl 3 ⟨by omega,by omega⟩;have c5:=fun(W:World) (v:Value) (h:aR W v (kA g l 3))=>VK (kA g l 3) v W h;have h1:=fun W:World=>fX ((wO g l).length:Int) ⟨by omega,by omega⟩ W;have h2:=fun W:World=>fX ((eM g l).length:Int) ⟨by omega,by omega⟩ W;have h3:=fun(W:World) (v:Value) (h:aR W v (sL g l))=>kR g (sL g l) v W h;have h4:=fun(W:World) (v:Value) (h:aR W v (nU g l))=>vJ (nU g l) v W h aK;have h5:=fun(W:World)=>kS g (mO (kA g l 3)) W;have s1:=cW ((wO g l).length:Int) ⟨by omega,by omega⟩;have s2:=cW ((eM g l).length:Int) ⟨by omega,by omega⟩;have s3:=fC g (sL g l);have s4:=JP g l;have s5:=fF g (mO (kA g l 3));have c9:H8 (bQ ((wO g l).length:Int)) (bQ ((eM g l).length:Int))=M8 g l:=rfl;have a9:AB (⟨#[97,110,116,105,99,104,97,105,110]⟩:ByteArray) (uU g l) (M8 g l) (dB g (sL g l))=M9 g l:=rfl;have b0:AB (⟨#[105,110,116,101,114,118,97,108,115]⟩:ByteArray) (xS g l) (M9 g l) (eX (nU g l))=NA g l:=rfl;have b4:AB (⟨#[115,117,110,102,108,111,119,101,114]⟩:ByteArray) (nK g l 3) (NA g l) (bZ g (mO (kA g l 3)))=AC g l:=(H9 hf).symm;have z1:=OL g l;have z2:=OM g l;have z3:=ON g l;obtain⟨bA,b5⟩:=aQ (uU g l);obtain⟨bI,b6⟩:=aQ (xS g l);obtain⟨bS,b7⟩:=aQ (nK g l 3);rw[<-b5]at a8 a9;rw[<-b6]at b0;rw[<-b7]at b4;simp only[hf]at c6 c7;simp only[<-b5]at a7;simp only[<-b6]at b9;simp only[<-b7]at c8;obtain⟨N0,e7⟩:=aQ (FP g l);simp only[<-e7]at a7 a8;obtain⟨A1,N⟩:=aQ (bQ ((wO g l).length:Int));obtain⟨A2,O⟩:=aQ (bQ ((eM g l).length:Int));obtain⟨A3,R⟩:=aQ (dB g (sL g l));obtain⟨A4,S⟩:=aQ (eX (nU g l));obtain⟨A5,Y⟩:=aQ (bZ g (mO (kA g l 3)));obtain⟨T1,Z⟩:=aQ (M8 g l);obtain⟨T2,a1⟩:=aQ (M9 g l);obtain⟨T3,a6⟩:=aQ (NA g l);obtain⟨K3,e6⟩:=aQ (mO (kA g l 3));rw[<-N,<-O,<-Z]at c9;rw[<-R,<-Z,<-a1]at a9;rw[<-S,<-a1,<-a6]at b0;rw[<-Y,<-a6]at b4;rw[<-N]at s1;rw[<-O]at s2;rw[<-R]at s3;rw[<-S]at s4;rw[<-Y]at s5;rw[<-Z]at z1;rw[<-a1]at z2;rw[<-a6]at z3;simp only[<-N]at h1;simp only[<-O]at h2;simp only[<-R]at h3;simp only[<-S]at h4;simp only[<-Y]at h5;simp only[<-e6]at c5 h5;have f8:=aN c9;have d0:=aN a9;have d5:=aN b0;have d6:=aN b4;have H1:=aN h1;have H2:=aN h2;have H3:=aN h3;have H4:=aN h4;have H5:=aN h5;have HF:=aN hf;have f4:=aN a8;have f5:=aN c6;have f6:=aN c7;have e9:=aN a7;have f2:=aN b9;have f7:=aN c8;have f3:=aN c5;clear c9 a9 b0 b4 h1 h2 h3 h4 h5 hf a8 c6 c7 a7 b9 c8 c5 b5 b6 b7 e7 N O R S Y Z a1 a6 e6;have e1:(⟨#[111,114,100,101,114,32,99,104,97,105,110,32]⟩:ByteArray).size=12:=rfl;have e2:(⟨#[32,108,101,118,101,108,115,32]⟩:ByteArray).size=8:=rfl;have e3:(⟨#[32,97,110,116,105,99,104,97,105,110,32]⟩:ByteArray).size=11:=rfl;have e4:(⟨#[32,105,110,116,101,114,118,97,108,115,32]⟩:ByteArray).size=11:=rfl;have e5:(⟨#[32,115,117,110,102,108,111,119,101,114,32]⟩:ByteArray).size=11:=rfl;go_enter func25,ntmps25;go_wp2_with fail;refine(cS g l _ _ (J.alloc _)).mono ?_;rintro e w0 ⟨rfl,b1⟩;rw[HF.out];have B:Below w w w0:=(bF _ _).after b1 (by simp);have K:=K0.keep b1;clear K0 b1;have G:=K.cell;go_wp2_with fail;refine(f5.out _ (J.below B aO)).mono ?_;rintro e w1 ⟨pC,iC,qC,rfl,oC,b2⟩;have g1:iC=(wO g l).length:=oC.ints.capLe.1;subst g1;have D:=B.after b2 B.size;have I:=K.keep b2;clear B K G b2 oC;have G:=I.cell;go_wp2_with fail;refine(f6.out _ (J.below D aO)).mono ?_;rintro e w2 ⟨pL,qL,rfl,oL,b2⟩;have B:=D.after b2 D.size;have K:=I.keep b2;clear D I G b2 oL;go_wp2_with fail;refine(H1.out w2).mono ?_;rintro e w3 ⟨rfl,z⟩;have D:=B.after z B.size;have I:=K.keep z;clear B K z;go_wp2_with fail;refine(H2.out w3).mono ?_;rintro e w4 ⟨rfl,z⟩;have B:=D.after z D.size;have K:=I.keep z;clear D I z;have F:=f8.out;unfold H8 at F;have G:=K.cell;have d7:=aN F;clear F;go_wp2_with fail;refine(e9.out _ (J.below B aO)).mono ?_;rintro e w5 ⟨pA,iA,qA,rfl,hA,z⟩;have g0:iA=(sL g l).length:=hA.capLe.1;subst g0;have D:=B.after z B.size;have I:=K.keep z;clear B K z G;go_upto_if 43 with fail;go_cut [7] (fun v wx=>v=.string T2/\Below w5 w5 wx)
  case rest=>
   obtain⟨rfl,z⟩:=hcut;have B:=D.after z D.size;have K:=I.keep z;clear D I z hA;have G:=K.cell;go_wp2_with fail;refine(f2.out _ (J.below B aO)).mono ?_;rintro e w6 ⟨pI,iI,qI,rfl,oI,z⟩;have D:=B.after z B.size;have I:=K.keep z;clear B K z G;go_upto_if 54 with fail;go_cut [7] (fun v wx=>v=.string T3/\Below w6 w6 wx)
   case rest=>
    obtain⟨rfl,z⟩:=hcut;have B:=D.after z D.size;have K:=I.keep z;clear D I z oI;have G:=K.cell;go_wp2_with fail;refine(f7.out _ (J.below B aO)).mono ?_;rintro e w7 ⟨pS,iS,qS,rfl,oS,z⟩;have D:=B.after z B.size;have I:=K.keep z;clear B K z G
    cases bS with
    |false=>have F:T3=AC g l:=d6.out;have M:=aN F;clear F;go_wp2;go_ret;exact⟨cI M.out,D⟩
    |true=>
     have F:T3++(⟨#[32,115,117,110,102,108,111,119,101,114,32]⟩:ByteArray)++A5=AC g l:=by rw[<-T9];exact d6.out
     have M:=aN F;clear F;go_wp2_with fail;refine(f3.out _ _ oS.ints).mono ?_;rintro e w8 ⟨rfl,z⟩;have B:=D.after z D.size;have K:=I.keep z;clear D I z;have G:=K.cell;go_wp2_with fail;refine(H5.out w8).mono ?_;rintro e w9 ⟨rfl,z⟩;have D:=B.after z B.size;clear B K z G;go_wp2;go_ret;exact⟨cI M.out,D⟩
   case first=>
    cases bI with
    |false=>have F:T2=T3:=d5.out;have M:=aN F;clear F;go_wp2_with fail;go_meet;exact⟨by rw[M.out],Below.refl _ _⟩
    |true=>
     have F:T2++(⟨#[32,105,110,116,101,114,118,97,108,115,32]⟩:ByteArray)++A4=T3:=by rw[<-T8];exact d5.out
     have M:=aN F;clear F;go_wp2_with fail;refine(H4.out w6 _ oI.ints).mono ?_;rintro e w8 ⟨rfl,z⟩;go_wp2_with fail;go_meet;exact⟨by rw[M.out],z⟩
  case first=>
   cases bA with
   |false=>have F:T1=T2:=d0.out;have M:=aN F;clear F;go_wp2_with fail;go_meet;exact⟨by rw[d7.out,M.out],bF _ _⟩
   |true=>
    have g2:=(f4.out rfl).symm;subst g2;have F:T1++(⟨#[32,97,110,116,105,99,104,97,105,110,32]⟩:ByteArray)++A3=T2:=by rw[<-T7];exact d0.out
    have M:=aN F;clear F;go_wp2_with fail;refine(H3.out _ _ (hA.alloc _)).mono ?_;rintro e w8 ⟨rfl,z⟩;go_wp2_with fail;go_meet;exact⟨by rw[d7.out,M.out],(bF _ _).after z (by simp)⟩
end
end Go.Proofs.YtcpoomdoodlkjaaGreatDoor
