/- Lemmas for CardConsoleResults. No condition. -/
import Derived.Test.YtkdbkjjacgigiaaGreatDoorQ24
import Derived.Test.YtkdbkjjacgigiaaGreatDoorQ43
set_option maxRecDepth 100000
set_option maxHeartbeats 64000000
namespace Go.Proofs.YtkdbkjjacgigiaaGreatDoor
section
open Go.RowKit Go.G5 Go.Proofs.Tryz
def tR(l:List Int)(s:Int):Bool:=uM (l++[s])
theorem arO(l:List Int)(j:Nat)(h:j<l.length)(c b:List Int):iJ tR (l.drop j) c b=if c.length+(l.length-j)<=b.length then b else if tR c l[j] then iJ tR (l.drop (j+1)) c (cH b (iJ tR (l.drop (j+1)) (c++[l[j]]) (c++[l[j]]))) else iJ tR (l.drop (j+1)) c b:=by
 rw[List.drop_eq_getElem_cons h,iJ,List.length_drop,show l.length-(j+1)+1=l.length-j by omega]
theorem Z7(l:List Int)(lv:Value)(hm:∀x∈l,0<=x/\x<64)(hl:l.length<=64):∀(m k:Nat) (z:List Int) (v:Value) (w:World) (B:Nat),k+m=l.length->aK w lv l->aM 3 B w v z->(∀x∈z,0<=x/\x<64)->B<=w.heap.size->z.length+m<=64 ->
  Calls prog 113 #[lv,k,v] w fun e w'=>∃a i q,e=.returned (aA a i q)/\aM 3 B w' (aA a i q) (iJ tR (l.drop k) z z)/\Below w w w':=by
 have HM:=aH hm;clear hm;intro m
 induction m using Nat.strongRecOn with
 |ind m ih=>
 intro k z v w B k5 e5 jS c9 hB hcm;have e6:=e5;obtain⟨a,b,h5,cp,rfl,e4,e0,hc,hb⟩:=e5.view prog 25 3 underlying25 aN;obtain⟨av,cv,rfl⟩:=jS.shape;have HC:=aH hc;have f7:=aH e0;have IH:=aH ih;have f6:=aH c9;clear hc e0 ih e4 c9;go_enter func113,ntmps113;go_wp2_with fail;go_loopw [7,8] (fun bv iv wr=>∃(j:Nat) (x:List Int) (p:Option Addr) (n q:Nat),k<=j/\j<=l.length/\iv=aG j/\bv=aA p n q/\aM 3 B wr (aA p n q) x/\x.length<=64/\iJ tR (l.drop j) z x=iJ tR (l.drop k) z z/\Below w w wr) (fun _ iv _=>l.length-(intOf iv).toNat)
 case atStart=>exact⟨k,z,_,_,_,aI,by omega,rfl,rfl,jS,by omega,rfl,Below.refl _ _⟩
 case round=>
  obtain⟨j,y,p,n,q,k4,hj,rfl,rfl,ox,a9,S,K⟩:=hrel;have g6:=ox.ints.capLe.1;subst g6;by_cases hlt:j<l.length
  ·have i6:(j:Int)<(l.length:Int):=aD;have b5:=aR HC.out hb K aI j hlt;have k3:=fun W=>f7.out W j hlt;have e8:=HM.out _ (List.getElem_mem hlt);have F:=arO l j hlt z y;rw[S]at F;have yw:=K.size;have ol:=jS.keep K;have h9:z.length<=64:=aD;obtain⟨x,hx⟩:=aJ (l[j]);rw[<-hx]at b5 e8 F;have k8:IntKind.i64.wrap ((z.length:Int)+(l.length:Int))=(z.length:Int)+(l.length:Int):=by rw[IntKind.wrap_i64];omega
   have k9:IntKind.i64.wrap ((z.length:Int)+(l.length:Int)-(j:Int))=(z.length:Int)+(l.length:Int)-(j:Int):=by rw[IntKind.wrap_i64];omega
   clear hx S;by_cases Y:z.length+(l.length-j)<=y.length
   ·rw[if_pos Y]at F;have e7:(z.length:Int)+(l.length:Int)-(j:Int)<=(y.length:Int):=aD;have N:=aH F;clear F Y;go_wp2;go_ret;exact⟨_,_,_,rfl,by rw[N.out];exact ox,K⟩
   ·rw[if_neg Y]at F
    have e7:¬(z.length:Int)+(l.length:Int)-(j:Int)<=(y.length:Int):=aD;have g7:z.length+1+(l.length-(j+1))<=64:=aD;have b6:∀e∈([]++z)++[x],0<=e/\e<64:=fun e he=>by
     rw[List.nil_append]at he;rcases List.mem_append.1 he with h|h
     ·exact f6.out e h
     ·rw[List.mem_singleton]at h;rw[h];exact e8
    have M:∀(v2:Value) (J:World),aM 3 wr J v2 (([]++z)++[x])->Calls prog 109 #[v2] J fun e w'=>e=.returned (.bool (tR z x))/\Below J J w':=fun v2 J q1=>by have:=KZ (([]++z)++[x]) v2 J q1.ints b6 aT;exact this
    obtain⟨R,hR⟩:=aJ (iJ tR (l.drop (j+1)) (z++[x]) (z++[x]));have g0:R.length<=64:=by rw[hR];have h1:=zP tR (l.drop (j+1)) (z++[x]) (z++[x]);rw[List.length_append,List.length_singleton,List.length_drop]at h1;omega
    have a8:∀(v2:Value) (J:World),aM 3 wr J v2 (([]++z)++[x])->Below wr wr J ->
      Calls prog 113 #[aA a l.length cp,aG ((j:Int)+1),v2] J fun e w'=>∃ad i q,e=.returned (aA ad i q)/\aM 3 wr w' (aA ad i q) R/\Below J J w':=fun v2 J q1 q2=>by
     rw[hR,show(j:Int)+1=((j+1:Nat):Int) by simp];have a6:=b6;rw[List.nil_append]at q1 a6;exact IH.out (l.length-(j+1)) aD (j+1) _ v2 J wr.heap.size aD (e6.below (K.after q2 K.size) aI) q1 a6 q2.size (by rw[List.length_append,List.length_singleton];omega)
    rw[<-hR]at F;have c5:=aH a8;have b0:=aH M;have N:=aH F;have c6:([]:List Int).length+z.length<=17592186044416:=by simp;omega
    have c7:([]++z).length + [x].length<=17592186044416:=by simp;omega
    have c8:dL x:=⟨by omega,by omega⟩;have l0:IntKind.i64.wrap ((j:Int)+1)=(j:Int)+1:=by rw[IntKind.wrap_i64];omega
    have b8:=aH c6;have b9:=aH c7;have f9:=aH c8;clear a8 F hR c6 c7 c8 b6 M Y g7;go_wp2_with fail;go_region_held3 (fun w'=>w'.cell? ⟨b,h5+j,none⟩=some (aG x)) (go_keep)
     (first
      |(refine gE rfl _ _ _ rfl 3 underlying25 aN wr.heap.size (aA (some ⟨_,0,none⟩) 0 0) [] rfl (aA av z.length cv) z rfl ?_ ?_ b8.out wr ?_ aI ?_;(first|(with_reducible exact(aM.lit0 wr aI).drew')|(with_reducible exact((aM.lit0 wr aI).alloc _).drew')|(with_reducible exact(aM.lit0' wr _).drew'));(first|(with_reducible exact(ol.ints.alloc _).drew')|(with_reducible exact((ol.ints.alloc _).alloc _).drew'));(first|(with_reducible exact(bF wr _).drew)|(with_reducible exact(wI wr _ _).drew));(intro v1 w1 o1 b1 pc;have k6:=keep b1 b5))
      |(refine gE rfl _ _ _ rfl 3 underlying25 aN wr.heap.size v1 ([]++z) rfl (aA (some ⟨_,0,none⟩) 1 1) [x] rfl ?_ ?_ b9.out wr ?_ aI ?_;(first|(with_reducible exact o1)|(with_reducible exact o1.alloc _));(refine aK.one ?_ f9.out;first|(with_reducible exact aZ _ _ _ _ _ rfl)|(with_reducible exact pc _ _ (rJ _ _ _ _) (wW _ _ _))|(with_reducible exact pc _ _ (sZ _ _ _ _) (wX _ _ _)));(first|(with_reducible exact b1)|(with_reducible exact b1.alloc b1.size _));(intro v2 J o2 b2 _;have k7:=keep b2 b5))
     )
    all_goals
     obtain⟨p2,n2,c2,rfl⟩:=o2.shape3;go_wp2_with fail;refine(b0.out _ J o2).mono ?_;rintro e w3 ⟨rfl,b3⟩;have B3:=b2.after b3 b2.size;have o3:=o2.keep b3
     cases hT:tR z x with
     |false=>
      have D:iJ tR (l.drop (j+1)) z y=iJ tR (l.drop k) z z:=by rw[N.out,hT];rfl
      have I:=aH D;have Bz:=K.after B3 K.size;have oz:=ox.keep B3;clear D hT;go_wp2;go_roundw
      case rel=>exact⟨j+1,y,p,_,q,by omega,by omega,by go_num,rfl,oz,a9,I.out,Bz⟩
      case measure=>simp[intOf];omega
     |true=>
      have a1:iJ tR (l.drop (j+1)) z (cH y R)=iJ tR (l.drop k) z z:=by rw[N.out,hT];rfl
      have Z:=aH a1;clear a1 hT;go_wp2_with fail;refine(c5.out _ w3 o3 B3).mono ?_;rintro e w4 ⟨p4,i4,q4,rfl,o4,b4⟩;have g2:i4=R.length:=o4.ints.capLe.1;subst g2;have B4:=B3.after b4 B3.size;have Bz:=K.after B4 K.size;have oz:=ox.keep B4;by_cases O:y.length<R.length
      ·have d0:(y.length:Int)<(R.length:Int):=aD;have hlo:cH y R=R:=by unfold cH;rw[if_pos O]
       have D:iJ tR (l.drop (j+1)) z R=iJ tR (l.drop k) z z:=by rw[<-Z.out,hlo]
       have I:=aH D;have h0:=o4.mono (B':=B) aD;clear hlo D O;go_wp2;go_roundw
       case rel=>exact⟨j+1,R,p4,_,q4,by omega,by omega,by go_num,rfl,h0,g0,I.out,Bz⟩
       case measure=>simp[intOf];omega
      ·have d0:¬(y.length:Int)<(R.length:Int):=aD;have hlo:cH y R=y:=by unfold cH;rw[if_neg O]
       have D:iJ tR (l.drop (j+1)) z y=iJ tR (l.drop k) z z:=by rw[<-Z.out,hlo]
       have I:=aH D;clear hlo D O;go_wp2;go_roundw
       case rel=>exact⟨j+1,y,p,_,q,by omega,by omega,by go_num,rfl,oz,a9,I.out,Bz⟩
       case measure=>simp[intOf];omega
  ·have g5:j=l.length:=aD;have a7:y=iJ tR (l.drop k) z z:=by rw[<-S,g5,List.drop_length];rfl
   have f8:=aH a7;clear S a7;go_wp2;go_ret;exact⟨_,_,_,rfl,by rw[<-f8.out];exact ox,K⟩
theorem ahB{p:Prop}(h:p:=by
  refine bN ?_;intro Wf D;obtain⟨Kf,Bf⟩:=key Wf D;have Gf:=Kf.cell;clear D G1 G2 F2 key;exact bodyPost_ret (v:=.tuple #[.agg #[aB,()],.bool false]) (by simp[results,results71,go_sem,Gf]) rfl ⟨none,0,0,by rw[HN.out.1.1,HN.out.2],by rw[HN.out.1.2];exact aK.empty _ _ _ _ rfl aQ,Bf⟩):p:=h
theorem aj9(w:World)(g:Int)(v:Value)(l:List Int)(Z:aK w v l):
  Calls prog 71 #[.agg #[g,v]] w fun e w'=>∃ad i cp,e=.returned (.tuple #[.agg #[(LB g l),aA ad i cp],.bool (vT g l)])/\aK w' (aA ad i cp) (tQ g l)/\Below w w w':=by
 have e6:=Z;obtain⟨a,c,rfl⟩:=Z.shape;go_enter func71,ntmps71;go_wp2_with fail;refine bU ?_;intro V Y;have B:Below w w V:=gO Y;have K1:aP V w 29 #[g,aA a l.length c]:=gR Y;have K2:aP V (w.heap.size+1) 29 #[aB,()]:=iP Y;clear Y;refine(cK g l _ _ (Z.below B aI)).mono ?_;rintro e w1 ⟨rfl,J⟩;have M:=K1.keep J;have F:=K2.keep J;have R:=B.after J B.size;have c5:=Z.below R aI;clear K1 K2 B J;have G1:=M.cell;have z1:=M.lt;have z2:=F.lt
 cases z:vT g l with
 |false=>
  have O:=And.intro (agF z) z;have HN:=aH O;have b9:aU g l=false∨(aU g l=true/\¬l.length<=12):=by
   unfold vT at z
   cases I:aU g l with
   |false=>exact .inl rfl
   |true=>rw[I]at z;simp at z;exact .inr ⟨rfl,by omega⟩
  clear O z;have G2:=F.cell;have F2:=F.frozen;have key:∀Wf,Wf=(w1.setCell ⟨w.heap.size+1,0,none⟩ (aG 0)).setCell ⟨w.heap.size+1,1,none⟩ (aA none 0 0)->aP Wf (w.heap.size+1) 29 #[aB,()]/\Below w w Wf:=fun Wf D=>by refine⟨?_,by rw[D];exact Below.setCell (Below.setCell R (by first|omega|(simp;done)|(simp;omega)) _) (by first|omega|(simp;done)|(simp;omega)) _⟩;rw[D];have:=(F.set 0 (aG 0)).set 1 (aA none 0 0);simpa using this
  rcases b9 with I|⟨I,e5⟩
  ·rw[I];go_wp2;exact ahB
  ·rw[I];have e0:(12:Int)<(l.length:Int):=aD;go_wp2;exact ahB
 |true=>
  have K:=And.intro (JS z) z;have HY:=aH K;unfold vT at z;rw[Bool.and_eq_true,decide_eq_true_eq]at z;obtain⟨I,e4⟩:=z;have d0:¬(12:Int)<(l.length:Int):=aD;have N:∀W v,Below w1 w1 W->aM 3 w1 W v []->Calls prog 113 #[aA a l.length c,aB,v] W fun e w'=>∃a i q,e=.returned (aA a i q)/\aM 3 w1 w' (aA a i q) (iJ kQ l [] [])/\Below W W w':=fun W v h1 h2=>by have:=Z7 l _ (dR I) aD l.length 0 [] v W w1.heap.size aD (c5.below h1 aI) h2 (by simp) h1.size aT;rw[List.drop_zero]at this;have e:iJ tR l [] []=iJ kQ l [] []:=JI l [] [] ak9 (by simp) (fun x hx=>(dR I x hx).1);rw[e]at this;exact this
  have b0:=aH N;rw[I];clear K I N;go_wp2_with fail;have G2:=F.cell;have F2:=F.frozen;go_region_held3 (fun w'=>w'.cell? ⟨w.heap.size,0,none⟩=some (aG g)/\w'.cell? ⟨w.heap.size,1,none⟩=some (aA a l.length c)) (go_keep)
   (first
    |(go_at_call 113;refine(b0.out _ _ (bF w1 _).drew (aM.lit0 w1 aI).drew').mono ?_;rintro e w3 ⟨p3,i3,q3,rfl,o3,b6⟩;have S:=(bF w1 (.cells #[] 3)).drew.after b6 (bF w1 (.cells #[] 3)).drew.size;obtain⟨b7,b8⟩:=gN S w1.heap.size (by first|omega|(simp;done)|(simp;omega));have z3:=S.size;(try simp at z3)))
  go_wp2;refine bN ?_;intro Wf D;have Kf:aP Wf (w.heap.size+1) 29 #[g,aA p3 i3 q3]:=by rw[D];have:=((F.keep S).set 0 (aG g)).set 1 (aA p3 i3 q3);simpa using this
  have Bf:Below w w Wf:=by rw[D];exact Below.setCell (Below.setCell (R.after S R.size) (by first|omega|(simp;done)|(simp;omega)) _) (by first|omega|(simp;done)|(simp;omega)) _
  have of:aM 3 w1 Wf (aA p3 i3 q3) (iJ kQ l [] []):=by rw[D];exact(o3.setBelow (by show w.heap.size+1<_;omega) _).setBelow (by show w.heap.size+1<_;omega) _
  have Gf:=Kf.cell;clear D G1 G2 F2 b7 b8;exact bodyPost_ret (v:=.tuple #[.agg #[g,aA p3 i3 q3],.bool true]) (by simp[results,results71,go_sem,Gf]) rfl ⟨_,_,_,by rw[HY.out.1.1,HY.out.2],by rw[HY.out.1.2];exact of.ints,Bf⟩
theorem ai1(w:World)(g:Int)(v:Value)(l:List Int)(hv:aK w v l)(hl:l.length<=1048576):
  Calls prog 18 #[.agg #[g,v]] w fun e w'=>e=.returned (.string (tV g l))/\Below w w w':=by
 have J:=hv;obtain⟨a,c,rfl⟩:=hv.shape;have K0:=aP.new w 29 #[g,aA a l.length c]
 cases hf:aU g l with
 |false=>have M:=aH (QD hf);have HF:=aH hf;clear hf;go_enter func18,ntmps18;go_wp2_with fail;refine(cK g l _ _ (J.alloc _)).mono ?_;rintro e w1 ⟨rfl,b1⟩;rw[HF.out];go_wp2;go_ret;exact⟨bJ M.out.symm,(bF _ _).after b1 (by simp)⟩
 |true=>
  have hcl:=PK g l;have k3:=tH g l;have k2:=(IM g l).1;have a8:vT g l=true->LB g l=g:=fun h=>(JS h).1;have c6:=fun(W:World) (h:aK W (aA a l.length c) l)=>akL W g _ l h;have c7:=fun(W:World) (h:aK W (aA a l.length c) l)=>agK W g _ l h;have a7:=fun(W:World) (h:aK W (aA a l.length c) l)=>aj9 W g _ l h;have b9:=fun(W:World) (h:aK W (aA a l.length c) l)=>ar1 W g _ l h;have c8:=fun(W:World) (h:aK W (aA a l.length c) l)=>ac0 W g _ l h hl 3 ⟨by omega,by omega⟩;have c5:=fun(W:World) (v:Value) (h:aK W v (iH g l 3))=>Z5 (iH g l 3) v W h;have h1:=fun W:World=>fS ((yQ g l).length:Int) ⟨by omega,by omega⟩ W;have h2:=fun W:World=>fS ((eA g l).length:Int) ⟨by omega,by omega⟩ W;have h3:=fun(W:World) (v:Value) (h:aK W v (tQ g l))=>nG g (tQ g l) v W h;have h4:=fun(W:World) (v:Value) (h:aK W v (oK g l))=>wV (oK g l) v W h aD;have h5:=fun(W:World)=>nH g (mV (iH g l 3)) W;have s1:=cM ((yQ g l).length:Int) ⟨by omega,by omega⟩;have s2:=cM ((eA g l).length:Int) ⟨by omega,by omega⟩;have s3:=fG g (tQ g l);have s4:=N9 g l;have s5:=fA g (mV (iH g l 3));have c9:MN (aX ((yQ g l).length:Int)) (aX ((eA g l).length:Int))=QE g l:=rfl;have a9:CT (⟨#[97,110,116,105,99,104,97,105,110]⟩:ByteArray) (vT g l) (QE g l) (bZ g (tQ g l))=QF g l:=rfl;have b0:CT (⟨#[105,110,116,101,114,118,97,108,115]⟩:ByteArray) (AK g l) (QF g l) (eR (oK g l))=QH g l:=rfl;have b4:CT (⟨#[115,117,110,102,108,111,119,101,114]⟩:ByteArray) (iE g l 3) (QH g l) (bG g (mV (iH g l 3)))=tV g l:=(E1 hf).symm;have z1:=SO g l;have z2:=SP g l;have z3:=SQ g l;obtain⟨bA,b5⟩:=aJ (vT g l);obtain⟨bI,b6⟩:=aJ (AK g l);obtain⟨bS,b7⟩:=aJ (iE g l 3);rw[<-b5]at a8 a9;rw[<-b6]at b0;rw[<-b7]at b4;simp only[hf]at c6 c7;simp only[<-b5]at a7;simp only[<-b6]at b9;simp only[<-b7]at c8;obtain⟨N0,f3⟩:=aJ (LB g l);simp only[<-f3]at a7 a8;obtain⟨A1,N⟩:=aJ (aX ((yQ g l).length:Int));obtain⟨A2,O⟩:=aJ (aX ((eA g l).length:Int));obtain⟨A3,R⟩:=aJ (bZ g (tQ g l));obtain⟨A4,S⟩:=aJ (eR (oK g l));obtain⟨A5,Y⟩:=aJ (bG g (mV (iH g l 3)));obtain⟨T1,Z⟩:=aJ (QE g l);obtain⟨T2,a1⟩:=aJ (QF g l);obtain⟨T3,a6⟩:=aJ (QH g l);obtain⟨K3,f2⟩:=aJ (mV (iH g l 3));rw[<-N,<-O,<-Z]at c9;rw[<-R,<-Z,<-a1]at a9;rw[<-S,<-a1,<-a6]at b0;rw[<-Y,<-a6]at b4;rw[<-N]at s1;rw[<-O]at s2;rw[<-R]at s3;rw[<-S]at s4;rw[<-Y]at s5;rw[<-Z]at z1;rw[<-a1]at z2;rw[<-a6]at z3;simp only[<-N]at h1;simp only[<-O]at h2;simp only[<-R]at h3;simp only[<-S]at h4;simp only[<-Y]at h5;simp only[<-f2]at c5 h5;have g6:=aH c9;have d0:=aH a9;have e0:=aH b0;have e6:=aH b4;have H1:=aH h1;have H2:=aH h2;have H3:=aH h3;have H4:=aH h4;have H5:=aH h5;have HF:=aH hf;have f9:=aH a8;have g0:=aH c6;have g2:=aH c7;have f5:=aH a7;have f7:=aH b9;have g5:=aH c8;have f8:=aH c5;clear c9 a9 b0 b4 h1 h2 h3 h4 h5 hf a8 c6 c7 a7 b9 c8 c5 b5 b6 b7 f3 N O R S Y Z a1 a6 f2;have e1:(⟨#[111,114,100,101,114,32,99,104,97,105,110,32]⟩:ByteArray).size=12:=rfl;have e2:(⟨#[32,108,101,118,101,108,115,32]⟩:ByteArray).size=8:=rfl;have e3:(⟨#[32,97,110,116,105,99,104,97,105,110,32]⟩:ByteArray).size=11:=rfl;have e4:(⟨#[32,105,110,116,101,114,118,97,108,115,32]⟩:ByteArray).size=11:=rfl;have e5:(⟨#[32,115,117,110,102,108,111,119,101,114,32]⟩:ByteArray).size=11:=rfl;go_enter func18,ntmps18;go_wp2_with fail;refine(cK g l _ _ (J.alloc _)).mono ?_;rintro e w0 ⟨rfl,b1⟩;rw[HF.out];have B:Below w w w0:=(bF _ _).after b1 (by simp);have K:=K0.keep b1;clear K0 b1;have G:=K.cell;go_wp2_with fail;refine(g0.out _ (J.below B aI)).mono ?_;rintro e w1 ⟨pC,iC,qC,rfl,oC,b2⟩;have g9:iC=(yQ g l).length:=oC.ints.capLe.1;subst g9;have D:=B.after b2 B.size;have I:=K.keep b2;clear B K G b2 oC;have G:=I.cell;go_wp2_with fail;refine(g2.out _ (J.below D aI)).mono ?_;rintro e w2 ⟨pL,qL,rfl,oL,b2⟩;have B:=D.after b2 D.size;have K:=I.keep b2;clear D I G b2 oL;go_wp2_with fail;refine(H1.out w2).mono ?_;rintro e w3 ⟨rfl,z⟩;have D:=B.after z B.size;have I:=K.keep z;clear B K z;go_wp2_with fail;refine(H2.out w3).mono ?_;rintro e w4 ⟨rfl,z⟩;have B:=D.after z D.size;have K:=I.keep z;clear D I z;have F:=g6.out;unfold MN at F;have G:=K.cell;have e7:=aH F;clear F;go_wp2_with fail;refine(f5.out _ (J.below B aI)).mono ?_;rintro e w5 ⟨pA,iA,qA,rfl,hA,z⟩;have g8:iA=(tQ g l).length:=hA.capLe.1;subst g8;have D:=B.after z B.size;have I:=K.keep z;clear B K z G;go_upto_if 43 with fail;go_cut [7] (fun v wx=>v=.string T2/\Below w5 w5 wx)
  case rest=>
   obtain⟨rfl,z⟩:=hcut;have B:=D.after z D.size;have K:=I.keep z;clear D I z hA;have G:=K.cell;go_wp2_with fail;refine(f7.out _ (J.below B aI)).mono ?_;rintro e w6 ⟨pI,iI,qI,rfl,oI,z⟩;have D:=B.after z B.size;have I:=K.keep z;clear B K z G;go_upto_if 54 with fail;go_cut [7] (fun v wx=>v=.string T3/\Below w6 w6 wx)
   case rest=>
    obtain⟨rfl,z⟩:=hcut;have B:=D.after z D.size;have K:=I.keep z;clear D I z oI;have G:=K.cell;go_wp2_with fail;refine(g5.out _ (J.below B aI)).mono ?_;rintro e w7 ⟨pS,iS,qS,rfl,oS,z⟩;have D:=B.after z B.size;have I:=K.keep z;clear B K z G
    cases bS with
    |false=>have F:T3=tV g l:=e6.out;have M:=aH F;clear F;go_wp2;go_ret;exact⟨bJ M.out,D⟩
    |true=>
     have F:T3++(⟨#[32,115,117,110,102,108,111,119,101,114,32]⟩:ByteArray)++A5=tV g l:=by rw[<-YN];exact e6.out
     have M:=aH F;clear F;go_wp2_with fail;refine(f8.out _ _ oS.ints).mono ?_;rintro e w8 ⟨rfl,z⟩;have B:=D.after z D.size;have K:=I.keep z;clear D I z;have G:=K.cell;go_wp2_with fail;refine(H5.out w8).mono ?_;rintro e w9 ⟨rfl,z⟩;have D:=B.after z B.size;clear B K z G;go_wp2;go_ret;exact⟨bJ M.out,D⟩
   case first=>
    cases bI with
    |false=>have F:T2=T3:=e0.out;have M:=aH F;clear F;go_wp2_with fail;go_meet;exact⟨by rw[M.out],Below.refl _ _⟩
    |true=>
     have F:T2++(⟨#[32,105,110,116,101,114,118,97,108,115,32]⟩:ByteArray)++A4=T3:=by rw[<-YM];exact e0.out
     have M:=aH F;clear F;go_wp2_with fail;refine(H4.out w6 _ oI.ints).mono ?_;rintro e w8 ⟨rfl,z⟩;go_wp2_with fail;go_meet;exact⟨by rw[M.out],z⟩
  case first=>
   cases bA with
   |false=>have F:T1=T2:=d0.out;have M:=aH F;clear F;go_wp2_with fail;go_meet;exact⟨by rw[e7.out,M.out],bF _ _⟩
   |true=>
    have h0:=(f9.out rfl).symm;subst h0;have F:T1++(⟨#[32,97,110,116,105,99,104,97,105,110,32]⟩:ByteArray)++A3=T2:=by rw[<-YL];exact d0.out
    have M:=aH F;clear F;go_wp2_with fail;refine(H3.out _ _ (hA.alloc _)).mono ?_;rintro e w8 ⟨rfl,z⟩;go_wp2_with fail;go_meet;exact⟨by rw[e7.out,M.out],(bF _ _).after z (by simp)⟩
end
section
open Go.RowKit Go.G5 Go.Proofs.Tryz
end
section
open Go.RowKit Go.G5 Go.Proofs.Tryz
end
end Go.Proofs.YtkdbkjjacgigiaaGreatDoor
section
namespace Go.G5
open Go Go.RowKit
theorem dK.blk{E:TypeId}{B:Nat}{w:World}{v:Value}{I:List ByteArray}(h:dK E B w v I)(D:0<I.length):∃g c,v=aA (some ⟨g,0,none⟩) I.length c/\I.length<=c/\g<w.heap.size/\∀(j:Nat) x,I[j]?=some x->w.cell? ⟨g,j,none⟩=some (.string x):=by
 rcases h.at with⟨_,_,_,F⟩|⟨g,c,K,hc,J,z⟩
 ·rw[F]at D;simp at D
 ·exact⟨g,c,K,hc,J,fun j x M=>by have:=z j x M;rw[Nat.zero_add]at this;exact this⟩
end Go.G5
namespace Go.Proofs.YtkdbkjjacgigiaaGreatDoor
open Go.RowKit Go.G5 Go.Proofs.Tryz
end Go.Proofs.YtkdbkjjacgigiaaGreatDoor
end
namespace Go.Proofs.YtkdbkjjacgigiaaGreatDoor
section
open Go.RowKit Go.G5 Go.Proofs.Tryz
theorem U4(t:ByteArray)(w:World)(z:iY w)(hm:sE w):
  Calls prog 13 #[.string t] w fun e w'=>e=.returned (.string (wA t))/\Below w w w':=
 apA t w z hm (fun W s D h1 h2=>UF s W D h1 h2) (fun s _=>apY w s)
end
end Go.Proofs.YtkdbkjjacgigiaaGreatDoor
