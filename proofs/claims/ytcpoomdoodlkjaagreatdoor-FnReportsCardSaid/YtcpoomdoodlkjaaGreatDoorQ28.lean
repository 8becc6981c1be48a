/- Lemmas for CardReports. No condition. -/
import Derived.Test.YtcpoomdoodlkjaaGreatDoorQ26
set_option maxRecDepth 100000
set_option maxHeartbeats 64000000
namespace Go.Proofs.YtcpoomdoodlkjaaGreatDoor
section
open Go.RowKit Go.G5 Go.Proofs.Tryz
theorem abT(w:World)(g:Int)(v:Value)(l:List Int)(hv:aR w v l):
  Calls prog 142 #[.agg #[g,v]] w fun e w'=>∃ad cp,e=.returned (.tuple #[.slice ad (eM g l).length cp,.bool (bJ g l)])/\dA 3 24 w.heap.size w' (.slice ad (eM g l).length cp) (eM g l)/\Below w w w':=by
 have j0:=hv;obtain⟨a,c,rfl⟩:=hv.shape;obtain⟨T,S⟩:=aQ (eM g l);rw[<-S];have d0:=aN S;clear S;go_enter func142,ntmps142;go_wp2_with fail;refine bH ?_;intro V hV;have B:Below w w V:=gD hV;have K:aU V w 31 #[g,aI a l.length c]:=gO hV;have o0:dA 3 24 w.heap.size V (aI (some ⟨w.heap.size+1,0,none⟩) 0 0) []:=by rw[hV];have:=dA.lit0 (EI:=3) (EO:=24) (B:=w.heap.size) (w.alloc (.cells #[g,aI a l.length c] 31)) (by simp);simpa using this
 clear hV;refine(cS g l _ V (hv.below B aO)).mono ?_;rintro e w1 ⟨rfl,b1⟩;have o0:=o0.keep b1;have K:=K.keep b1;have B:=B.after b1 B.size;have G:=K.cell;have z:=K.lt
 cases Z:bJ g l with
 |false=>
  have O:T=[]:=by rw[d0.out];unfold eM;rw[Z];rfl
  subst O;have HF:=aN Z;clear Z;go_wp2;go_ret2;exact⟨_,_,by rw[HF.out];rfl,o0,B⟩
 |true=>
  have O:T=aeF l:=by rw[d0.out];unfold eM;rw[Z];rfl
  have h1:=dT Z;have d6:∀s∈l,0<=s/\s<64:=fun s hs=>by obtain⟨k,hk,rfl⟩:=List.getElem_of_mem hs;exact(pY Z).2.2 k hk
  have d9:=QL Z;have b0:=h1.2.2.2;have F:T=[]++oW l.length l:=O;have l8:T.length<=64:=by rw[O];exact Nat.le_trans (G6 _ _) d9
  have HF:=aN Z;have g6:=aN F;have c7:=aN b0;have f7:=aN d6;have j2:=j0.below B aO;clear O h1 Z F b0 d6;have oz:=aP.lit0 (E:=3) (B:=w.heap.size) w1 B.size;go_wp2_with (at_builtin;refine sK rfl _ _ _ rfl 3 underlying24 aS w.heap.size _ [] rfl oz _ l rfl (j2.alloc _) aV (by first|omega|(simp;done)|(simp;omega)) ?_;intro v2 w2 o2 g2 n2);have b2:Below w w w2:=(B.alloc B.size (.cells #[] 3)).grown g2 (by first|omega|(simp;done)|(simp;omega)) (fun q N=>(oz.lt q N).1);have bz:Below w1 w1 w2:=(bF w1 (.cells #[] 3)).grown g2 (by simp) (fun q N=>by have m3:w1.heap.size=q:=Option.some.inj N;omega);have e5:=o0.keep bz;rw[List.nil_append]at o2;obtain⟨n0,n1,rfl⟩:=o2.ints.shape;clear o0 g2 n2;go_wp2_with fail;go_loopw [4,5] (fun ov rv wr=>∃(done:List (List Int)) (k:Nat) (rest:List Int) (oa:Option Addr) (oc:Nat) (ra:Option Addr) (rc:Nat),T=done++oW k rest/\rest.length<=k/\k<=64/\(rest.Pairwise (· < ·)/\∀s∈rest,0<=s/\s<64)/\ov=aI oa done.length oc/\rv=aI ra rest.length rc/\aR wr (aI ra rest.length rc) rest/\dA 3 24 w.heap.size wr (aI oa done.length oc) done/\Below w w wr) (fun _ rv _=>lenOf rv)
  case atStart=>exact⟨[],l.length,l,_,_,_,_,g6.out,aO,d9,⟨c7.out,f7.out⟩,rfl,rfl,o2.ints,e5,b2⟩
  case round=>
   obtain⟨done,k,rest,oa,oc,ra,rc,S,m4,k5,⟨ha,hm⟩,rfl,rfl,hr,ho,Bo⟩:=hrel;obtain⟨wo,rfl⟩:∃z:World,z=wr:=⟨_,rfl⟩;clear e5;by_cases J:0<rest.length
   ·have I:rest≠[]:=fun e=>by rw[e]at J;simp at J
    have b9:(0:Int)<(rest.length:Int):=aK;have hlt:=XM I ha hm;obtain⟨k',rfl⟩:∃k',k=k'+1:=⟨k-1,by omega⟩;have Y:T=(done++[jC rest])++oW k' (pJ rest):=by rw[S,OD _ _ I,List.append_assoc];rfl
    have b6:=TX ha;have b8:∀s∈pJ rest,0<=s/\s<64:=fun s hs=>hm s (ID hs);have l9:done.length<=64:=by have:=congrArg List.length S;rw[List.length_append]at this;omega
    have a6:=sF rest _ wo hr hm aK;rw[DL rest ha (fun x O=>(hm x O).1)]at a6;have a7:pJ rest=(rest.take rest.length).filter (fun s=>!fS (jC rest) s):=by rw[List.take_length];rfl
    obtain⟨M,hM⟩:=aQ (jC rest);obtain⟨R,hR⟩:=aQ (pJ rest);rw[<-hM]at a6 Y a7;rw[<-hR]at hlt Y b6 b8 a7;have g8:=aN Y;have g5:=aN a7;have g1:=aN (And.intro b6 b8);have g0:=aN a6;have HO:=aN ho;have HR:=aN hr;have g4:=aN hm;clear S Y a7 b6 b8 a6 ho hM hR ha hm I;go_wp2_with fail;refine g0.out.mono ?_;rintro e w2 ⟨p2,i2,q2,rfl,o2,b2⟩;have h7:i2=M.length:=o2.ints.capLe.1;subst h7;have i6:=HR.out.keep b2;obtain⟨_,rb,k8,_,j1,_,d7,hc,hb⟩:=i6.view prog 24 3 underlying24 aS;injection j1 with x1 _ x3;subst x1 x3;have HC:=aN hc;have f9:=aN d7;have c9:=aN o2;have e6:=aP.lit0 (E:=3) (B:=w2.heap.size) w2 aO;clear hc d7 o2;go_wp2_with fail;go_loopw [7,8] (fun lv i wr=>∃(j:Nat) (ad:Option Addr) (nn cp:Nat),j<=rest.length/\i=aM j/\lv=aI ad nn cp/\aP 3 w2 wr (aI ad nn cp) ((rest.take j).filter (fun s=>!fS M s))/\Below w2 w2 wr) (fun _ i _=>rest.length-(intOf i).toNat)
    case atStart=>exact⟨0,_,_,_,Nat.zero_le _,rfl,rfl,e6,bF _ _⟩
    case round=>
     obtain⟨j,ad,nn,cp,hj,rfl,rfl,hw,Bi⟩:=hrel;obtain⟨wi,rfl⟩:∃z:World,z=wr:=⟨_,rfl⟩;have HW:=aN hw;have zi:=Bi.size;clear hw e6;by_cases a1:j<rest.length
     ·have d8:(j:Int)<(rest.length:Int):=aK;have ck:=aW HC.out hb Bi aO j a1;have ik:=fun W=>f9.out W j a1;have c5:=OS (fun s=>!fS M s) rest j a1;have j4:=g4.out rest[j] (List.getElem_mem a1);have m2:((rest.take j).filter (fun s=>!fS M s)).length<=64:=by have h1:=List.length_filter_le (fun s=>!fS M s) (rest.take j);have h2:=List.length_take_le j rest;omega
      obtain⟨x,O⟩:=aQ (rest[j]);rw[<-O]at ck c5 j4;have b7:=kT M _ x wi (c9.out.ints.keep Bi);obtain⟨q,N⟩:=aQ (fS M x);rw[<-N]at b7;have D:(rest.take (j+1)).filter (fun s=>!fS M s)=(rest.take j).filter (fun s=>!fS M s)++(if !q then [x] else []):=by rw[c5,N]
      have c8:=aN b7;clear c5 b7 O N
      cases q with
      |true=>
       rw[if_neg (by simp),List.append_nil]at D;have b5:=aN D;clear D;go_wp2_with (go_at_call 210;refine c8.out.mono ?_;rintro e w' ⟨rfl,rfl⟩);go_roundw
       case rel=>exact⟨j+1,ad,nn,cp,by omega,by go_num,rfl,by rw[b5.out];exact HW.out,Bi⟩
       case measure=>simp[intOf];omega
      |false=>
       rw[if_pos (by simp)]at D;have b5:=aN D;clear D;go_wp2_with (first
        |(go_at_call 210;refine c8.out.mono ?_;rintro e w' ⟨rfl,rfl⟩)
        |(at_builtin;refine cZ rfl _ _ _ rfl 3 underlying24 aS w2.heap.size _ _ x wi.heap.size rfl rfl (bB wi #[x] 3 0 _ rfl) (HW.out.alloc _) ⟨by omega,by omega⟩ aK (by first|omega|(simp;done)|(simp;omega)) ?_;intro v' w6 b3 h6;obtain⟨av,nv,cv,rfl⟩:=b3.shape3))
       have B6:Below w2 w2 w6:=(Bi.alloc Bi.size (.cells #[x] 3)).grown h6 aV (fun q N=>(HW.out.lt q N).1);go_roundw
       case rel=>exact⟨j+1,av,nv,cv,by omega,by go_num,rfl,by rw[b5.out];exact b3,B6⟩
       case measure=>simp[intOf];omega
     ·have d8:¬(j:Int)<(rest.length:Int):=aK;have h8:j=rest.length:=aK;subst h8;have hw:=HW.out;rw[<-g5.out]at hw;have h9:nn=R.length:=hw.ints.capLe.1;subst h9;have g9:=aN hw;have d5:=b2.after Bi b2.size;have Bw:=Bo.after d5 Bo.size;have b4:=aN (HO.out.keep d5);have g3:=aN ((c9.out.keep Bi).mono Bo.size);clear hw;go_wp2_with (at_builtin;refine sJ rfl _ _ _ rfl 3 24 rQ underlying77 jV w.heap.size _ done (aI p2 M.length q2) M wi.heap.size rfl rfl (bB wi #[aI p2 M.length q2] 24 0 _ rfl) ((b4.out).alloc _) (g3.out.alloc _) aK (by have:=Bw.size;simp;omega) ?_;intro v7 w7 o7 g7);have rO:=b4.out.lt;obtain⟨n3,e8⟩:=(b4.out.alloc (.cells #[aI p2 M.length q2] 24)).row;have j3:=(g9.out.alloc (.cells #[aI p2 M.length q2] 24)).growL e8 rQ g7;have B7:Below w w w7:=(Bw.alloc Bw.size (.cells #[aI p2 M.length q2] 24)).grown g7 (by have:=Bw.size;simp;omega) (fun q N=>(rO q N).1);obtain⟨j6,j8,rfl,_⟩:=o7.len;have m1:(done++[M]).length=done.length+1:=by simp
      go_wp2_with fail;go_roundw
      case rel=>exact⟨done++[M],k',R,j6,j8,ad,cp,g8.out,by omega,by omega,g1.out,rfl,rfl,j3.ints,o7,B7⟩
      case measure=>simp[lenOf];omega
   ·have I:rest=[]:=by cases rest with
     |nil=>rfl
     |cons x r=>simp at J
    subst I;have b9:¬(0:Int)<(0:Int):=aK;rw[S0,List.append_nil]at S;subst S;go_wp2;go_ret2;exact⟨_,_,by rw[HF.out];rfl,ho,Bo⟩
theorem aP.litC{E:TypeId}{B:Nat}(w:World)(y:Int)(F:dD y)(hB:B<=w.heap.size):aP E B (w.alloc (.cells #[y] E)) (aI (some ⟨w,0,none⟩) 1 1) [y]:=
 ⟨World.ownsRow_lit w #[y] 1 hB aY rfl,by intro z D;rw[List.mem_singleton]at D;subst D;exact F⟩
theorem adZ(x y:Int)(r:List Int)(z:0<=x):CR (y::r) x=(bK x y==x):=by
 show(cM x y==0)=_;rw[<-GT z,Bool.eq_iff_iff,beq_iff_eq,beq_iff_eq];constructor<;>intro h<;>omega
theorem adL(w:World)(g:Int)(v:Value)(l:List Int)(hv:aR w v l):
  Calls prog 141 #[.agg #[g,v]] w fun e w'=>∃ad i cp,e=.returned (.tuple #[aI ad i cp,.bool (bJ g l)])/\aP 3 w w' (aI ad i cp) (wO g l)/\Below w w w':=by
 have g8:=hv;obtain⟨a,c,rfl⟩:=hv.shape;obtain⟨T,hT⟩:=aQ (wO g l);have a7:=sH g l;have N:=JX g l;have b3:T=wN (eM g l) (eM g l).length []:=hT;have Z:=abT (w.alloc (.cells #[g,aI a l.length c] 31)) g _ l (g8.alloc _);rw[<-hT];obtain⟨R,d0⟩:=aQ (eM g l);rw[<-d0]at a7 N b3 Z;obtain⟨bf,c7⟩:=aQ (bJ g l);rw[<-c7]at Z ⊢;have f5:=aN b3;have HM:=aN N;have e9:=aN Z;clear hT b3 N Z d0 c7;go_enter func141,ntmps141;go_wp2_with fail;refine e9.out.mono ?_;rintro e w2 ⟨ad,cp,rfl,c9,b2⟩;have B2:Below w w w2:=(bF _ _).after b2 (by simp);have e8:=aN (c9.mono (show w.heap.size<=_ by simp));clear b2 c9;have k7:IntKind.i64.wrap ((R.length:Int)-1)=(R.length:Int)-1:=by rw[IntKind.wrap_i64];omega
 have o0:=aP.lit0 (E:=3) (B:=w2.heap.size) w2 aO;go_wp2_with fail;go_loopw [6,7] (fun ov iv wr=>∃(i:Nat) (out:List Int) (p:Option Addr) (q:Nat),i<=R.length/\iv=aM ((i:Int)-1)/\ov=aI p out.length q/\aP 3 w2 wr (aI p out.length q) out/\out.length+i<=64/\wN R i out=T/\(∀x∈out,0<=x/\x<64)/\Below w2 w2 wr) (fun _ iv _=>(intOf iv+1).toNat)
 case atStart=>exact⟨R.length,[],_,_,aO,rfl,rfl,o0,by simpa using a7,f5.out.symm,by simp,bF _ _⟩
 case round=>
  obtain⟨i,out,p,q,hi,rfl,rfl,ho,g6,S,d8,J⟩:=hrel;obtain⟨wo,rfl⟩:∃z:World,z=wr:=⟨_,rfl⟩;clear o0
  cases i with
  |zero=>have F:out=T:=S;subst F;have j0:¬(0:Int)<=((0:Nat):Int)-1:=aK;clear S;go_wp2;go_ret2;exact⟨_,_,_,rfl,ho.mono B2.size,B2.after J B2.size⟩
  |succ i=>
   have g3:((i+1:Nat):Int)-1=(i:Int):=aK;rw[g3];have hlt:i<R.length:=aK;have k6:IntKind.i64.wrap ((i:Int)-1)=(i:Int)-1:=by rw[IntKind.wrap_i64];omega
   have F:=aaN R i hlt out;rw[S]at F;obtain⟨gg,u,k2,k1,a1⟩:=(e8.out.keep J).view prog 77 underlying77 jV i hlt;have hM:=HM.out R[i] (List.getElem_mem hlt);obtain⟨M,c6⟩:=aQ (R[i]);rw[<-c6]at F a1 hM;obtain⟨am,cm,rfl⟩:=a1.shape;obtain⟨_,mb,j4,_,b6,_,a8,d5,k3⟩:=a1.ints.view prog 24 3 underlying24 aS;injection b6 with x1 _ x3;subst x1 x3;have f0:=aN d5;have f3:=aN a8;have f2:=aN hM.2;have b8:=aN F;have HO:=aN ho;have b1:=aN d8;clear d5 a8 hM S F ho d8 c6 a1;go_wp2_with fail;go_loopw [6,8] (fun ov iv wi=>∃(j n:Nat),j<=M.length/\ov=aI p out.length q/\iv=aM j/\lM (M.drop j) out=lM M out/\wi=wo.drewN n) (fun _ iv _=>M.length-(intOf iv).toNat)
   case atStart=>exact⟨0,0,Nat.zero_le _,rfl,rfl,rfl,rfl⟩
   case round=>
    obtain⟨j,n,hj,rfl,rfl,O,rfl⟩:=hrel;by_cases Y:j<M.length
    ·have c8:(j:Int)<(M.length:Int):=aK;have ck:=f0.out j Y;have ik:=fun W=>f3.out W j Y;have a6:=f2.out M[j] (List.getElem_mem Y);have K:=UB M j Y out;rw[O]at K;obtain⟨x,hx⟩:=aQ (M[j]);rw[<-hx]at ck a6 K;clear hx O;have b0:CR out x=true->wN R i (x::out)=T:=fun h=>by rw[b8.out,K,h];rfl
     have d6:CR out x=false->lM (M.drop (j+1)) out=lM M out:=fun h=>by rw[K,h];rfl
     have HY:=aN b0;have HN:=aN d6;have d9:∀y∈x::out,0<=y/\y<64:=fun y hy=>by
      rcases List.mem_cons.1 hy with e|h
      ·rw[e];exact a6
      ·exact b1.out y h
     have b9:=aN d9;have e0:dD x:=⟨by omega,by omega⟩;have c5:=aN e0;have hL:[x].length+out.length<=17592186044416:=by simp;omega
     have HL:=aN hL;have zo:=J.size;clear K b0 d6 d9 e0 hL
     cases out with
     |nil=>
      go_wp2_with fail;go_quiet (fail);go_wp2_with (at_builtin;refine sK rfl _ _ _ rfl 3 underlying24 aS w2.heap.size _ [x] rfl (aP.litC _ x c5.out (by have:=J.size;simp;omega)) _ _ rfl ((HO.out.ints.drewN _).alloc _) HL.out (by have:=J.size;simp;omega) ?_;intro v' w6 D b4 _;obtain⟨av,nv,cv,rfl⟩:=D.shape3);have B6:Below w2 w2 w6:=((J.drewN' _).alloc (J.drewN' _).size (.cells #[x] 3)).grown b4 (by have:=J.size;simp;omega) (fun q hq=>by have e:=Option.some.inj hq;have:=J.size;simp at e;omega);have b5:nv=1:=by have:=D.ints.capLe.1;simpa using this
      subst b5;go_roundw
      case rel=>exact⟨i,[x],av,cv,by omega,by go_num,rfl,D,by simp;omega,HY.out rfl,b9.out,B6⟩
      case measure=>simp[intOf]
     |cons y r=>
      have g9:=b1.out y (by simp);obtain⟨_,ob,e4,_,b6,_,a9,d7,k5⟩:=HO.out.ints.view prog 24 3 underlying24 aS;injection b6 with x1 _ x3;subst x1 x3;have oc:=d7 0 (by simp);have oi:∀w',(Instr.indexAt 24 (aI p (r.length+1) q) (aM 0)).run prog w'=.ok (.pointer (some ⟨ob,e4,none⟩)) w':=fun w'=>by have:=a9 w' 0 (by simp);simpa using this
      rw[Nat.add_zero]at oc;simp only[List.getElem_cons_zero]at oc;have k9:((y::r).length:Int)=(r.length:Int)+1:=by simp
      have k4:((r.length:Int)+1==0)=false:=by simp;omega
      have g2:bits .and .i64 x y=bK x y:=eG a6.1 aK g9.1 aK;have I:=adZ x y r a6.1;obtain⟨z,hz⟩:=aQ (bK x y);rw[<-hz]at g2 I;clear hz d7 a9
      cases h0:z==x with
      |false=>
       have hN:=HN.out (by rw[I,h0]);have f4:=aN hN;clear hN I;go_wp2_with fail;go_quiet (fail);go_wp2;go_roundw
       case rel=>exact⟨j+1,n+nq,by omega,rfl,by go_num,f4.out,by simp⟩
       case measure=>simp[intOf];omega
      |true=>
       have hY:=HY.out (by rw[I,h0]);have f6:=aN hY;clear hY I;go_wp2_with fail;go_quiet (fail);go_wp2_with (at_builtin;refine sK rfl _ _ _ rfl 3 underlying24 aS w2.heap.size _ [x] rfl (aP.litC _ x c5.out (by have:=J.size;simp;omega)) _ _ rfl ((HO.out.ints.drewN _).alloc _) HL.out (by have:=J.size;simp;omega) ?_;intro v' w6 D b4 _;obtain⟨av,nv,cv,rfl⟩:=D.shape3);have B6:Below w2 w2 w6:=((J.drewN' _).alloc (J.drewN' _).size (.cells #[x] 3)).grown b4 (by have:=J.size;simp;omega) (fun q hq=>by have e:=Option.some.inj hq;have:=J.size;simp at e;omega);have b5:nv=(x::y::r).length:=by have:=D.ints.capLe.1;simpa using this
       subst b5;go_roundw
       case rel=>exact⟨i,x::y::r,av,cv,by omega,by go_num,rfl,D,by simp at g6 ⊢;omega,f6.out,b9.out,B6⟩
       case measure=>simp[intOf]
    ·have c8:¬(j:Int)<(M.length:Int):=aK;have g4:j=M.length:=aK;subst g4;rw[OY]at O;have hC:wN R i out=T:=by rw[b8.out,<-O]
     have HC:=aN hC;clear hC O;go_wp2;go_roundw
     case rel=>exact⟨i,out,p,q,by omega,by go_num,rfl,HO.out.drewN _,by omega,HC.out,b1.out,J.drewN' _⟩
     case measure=>simp[intOf]
theorem acY(p:List Int)(v:Value)(s:Nat)(w:World)(hv:aR w v p)(d6:p.length<=6)(a7:∀x∈p,0<=x/\x<6)(hs:s<64):
  Calls prog 293 #[v,(s:Int)] w fun e w'=>e=.returned (.tuple #[(pW p s p.length),(vB p s p.length),.bool (decide (0<=pW p s p.length)&&vM p s)])/\w=w':=by
 obtain⟨a,b,d8,c,rfl,b8,a1,hc,hb⟩:=hv.view prog 24 3 underlying24 aS;have HC:=aN hc;have a9:=aN a1;have b0:=aN a7;have S:=aN (eP s w aK);clear hc a1 a7;go_enter func293,ntmps293;go_wp2;go_loop [7,8,9] (fun fi la i=>∃k:Nat,k<=p.length/\i=aM k/\fi=aM (pW p s k)/\la=aM (vB p s k)) (fun _ _ i=>p.length-(intOf i).toNat)
 case atStart=>exact⟨0,Nat.zero_le _,rfl,rfl,rfl⟩
 case round=>
  obtain⟨k,hk,rfl,rfl,rfl⟩:=hrel;by_cases hlt:k<p.length
  ·have a6:(k:Int)<(p.length:Int):=aK;have ck:=HC.out k hlt;have ik:=fun W=>a9.out W k hlt;have hm:=b0.out _ (List.getElem_mem hlt);have h1:=BS p s k;have h2:=IJ p s k;have h3:=KX p s k;obtain⟨e,he⟩:∃e:Nat,p[k]=(e:Int):=⟨p[k].toNat,by omega⟩;have Z:FM p s k=dC s e:=by unfold FM;rw[List.getD_eq_getElem?_getD,List.getElem?_eq_getElem hlt,Option.getD_some,he,Int.toNat_natCast]
   rw[he]at ck hm;rw[Z]at h1 h2;have c9:e<6:=aK;have Y:=jO (s:Int) e aK aK;have D:=uC s e;obtain⟨y,hy⟩:=aQ (dO (s:Int) e);rw[<-hy]at Y D;have hp:=cO e 6 aK;have d0:(2:Int)^e<=64:=by simpa using hp.1
   have d5:=hp.2;obtain⟨F,K⟩:=aQ (pW p s k);obtain⟨L,M⟩:=aQ (vB p s k);rw[<-K]at h1 h3 ⊢;rw[<-M]at h2 ⊢;clear hp hy Z he hm K M
   cases z:dC s e with
   |false=>
    have b7:(y==1)=false:=by rw[D,z]
    rw[z,Bool.false_and,if_neg (by simp)]at h1;rw[z,if_neg (by simp)]at h2;have R:=aN h1;have H2:=aN h2;clear z D h1 h2;go_wp2;go_round
    case rel=>exact⟨k+1,by omega,by go_num,by rw[R.out],by rw[H2.out]⟩
    case measure=>simp[intOf];omega
   |true=>
    have b7:(y==1)=true:=by rw[D,z]
    rw[z,Bool.true_and]at h1;rw[z,if_pos rfl]at h2;have H2:=aN h2;clear z D h2;by_cases I:F<0
    ·rw[decide_eq_true I,if_pos rfl]at h1;have R:=aN h1;clear h1;go_wp2;go_round
     case rel=>exact⟨k+1,by omega,by go_num,by rw[R.out],by rw[H2.out]⟩
     case measure=>simp[intOf];omega
    ·rw[decide_eq_false I,if_neg (by simp)]at h1;have R:=aN h1;clear h1;go_wp2;go_round
     case rel=>exact⟨k+1,by omega,by go_num,by rw[R.out],by rw[H2.out]⟩
     case measure=>simp[intOf];omega
  ·have b4:k=p.length:=aK;have a6:¬(k:Int)<(p.length:Int):=aK;have h3:=KX p s p.length;have h4:=acW p s p.length;have N:vM p s=decide (vB p s p.length-pW p s p.length+1=(bR s:Int)):=rfl;subst b4;obtain⟨F,K⟩:=aQ (pW p s p.length);obtain⟨L,M⟩:=aQ (vB p s p.length);rw[<-K,<-M]at N ⊢;rw[<-K]at h3;rw[<-M]at h4;have e0:IntKind.i64.wrap (L-F)=L-F:=by rw[IntKind.wrap_i64];omega
   have e4:IntKind.i64.wrap (L-F+1)=L-F+1:=by rw[IntKind.wrap_i64];omega
   have b1:(L-F+1==(bR s:Int))=vM p s:=by rw[N];by_cases h:L-F+1=(bR s:Int)<;>simp[h]
   obtain⟨o,ho⟩:=aQ (vM p s);rw[<-ho]at b1;have O:=aN (And.intro K (And.intro M ho));clear N K M ho;by_cases J:0<=F
   ·go_wp2_with (go_at_call 154;refine S.out.mono ?_;rintro e w3 ⟨rfl,rfl⟩);go_ret3;exact⟨by rw[<-O.out.1,<-O.out.2.1,<-O.out.2.2,decide_eq_true J];rfl,rfl⟩
   ·have HD:=aN (decide_eq_false J);go_wp2_with (go_at_call 154;refine S.out.mono ?_;rintro e w3 ⟨rfl,rfl⟩);go_ret3;exact⟨by rw[<-O.out.1,<-O.out.2.1,<-O.out.2.2,HD.out];rfl,rfl⟩
theorem aa4(N:Nat)(hN:N<=6)(l p:List Int)(v u:Value)(w:World)(hv:aR w v l)(hu:aR w u p)(c6:p.length<=6)(b0:∀x∈p,0<=x/\x<6)(b1:∀e,e<N->(e:Int)∈p)(a6:∀s∈l,0<=s/\s<2^N):
  Calls prog 250 #[v,u] w fun e w'=>e=.returned (.bool (lZ l p))/\w=w':=by
 obtain⟨a,b,e9,c,rfl,d6,Z,hc,hb⟩:=hv.view prog 24 3 underlying24 aS;have e4:(2:Int)^N<=64:=by have:=(cO N 6 hN).1;simpa using this
 have b3:=fun(s:Nat) (hs:s<64)=>acY p _ s _ hu c6 b0 hs;obtain⟨a',c',rfl⟩:=hu.shape;have HC:=aN hc;have b4:=aN Z;have b5:=aN a6;have b8:=aN b3;have b7:=aN b1;clear hc Z a6 b3 b0 b1;go_enter func250,ntmps250;go_wp2;go_loop [5] (fun i=>∃k:Nat,k<=l.length/\i=aM k/\(∀j,(hj:j<l.length)->j<k->nX p l[j]=true)) (fun i=>l.length-(intOf i).toNat)
 case atStart=>exact⟨0,Nat.zero_le _,rfl,by intros;omega⟩
 case round=>
  obtain⟨k,hk,rfl,K⟩:=hrel;have HY:=aN K;clear K;by_cases hlt:k<l.length
  ·have a7:(k:Int)<(l.length:Int):=aK;have ck:=HC.out k hlt;have ik:=fun W=>b4.out W k hlt;have hm:=b5.out _ (List.getElem_mem hlt);obtain⟨s,S⟩:∃s:Nat,l[k]=(s:Int):=⟨l[k].toNat,by omega⟩;have z:nX p l[k]=((s:Int)==0||vM p s):=by unfold nX;rw[S,Int.toNat_natCast]
   have Y:=b8.out s aK;have I:((s:Int)==0)=false->decide (0<=pW p s p.length)=true:=fun h=>by
    have R:s≠0:=fun e=>by rw[e]at h;exact Bool.noConfusion h
    have:((2^N:Nat):Int)=(2:Int)^N:=by simp
    exact decide_eq_true (adY hN b7.out s aK R)
   have a8:nX p l[k]=false->lZ l p=false:=fun h=>by unfold lZ;rw[List.all_eq_false];exact⟨l[k],List.getElem_mem hlt,by rw[h];simp⟩
   have a9:nX p l[k]=true->∀j,(hj:j<l.length)->j<k+1->nX p l[j]=true:=fun h j hj e5=>by
    by_cases e:j=k
    ·subst e;exact h
    ·exact HY.out j hj aK
   rw[S]at ck;obtain⟨o,ho⟩:=aQ (vM p s);obtain⟨q,hq⟩:=aQ (decide (0<=pW p s p.length));rw[<-ho]at z;rw[<-ho,<-hq]at Y;rw[<-hq]at I;have b6:=aN a8;have M:=aN a9;have F:=aN Y;clear a8 a9 Y ho S hm hq
   cases R:((s:Int)==0) with
   |true=>
    have b9:((s:Int) != 0)=false:=by simp[bne,R]
    rw[R,Bool.true_or]at z;have D:=aN z;clear z I
    cases J:(q&&o) with
    |true=>
     have O:=aN J;clear J;go_wp2_with (go_at_call 293;refine F.out.mono ?_;rintro e w3 ⟨rfl,rfl⟩;rw[O.out]);go_round
     case rel=>exact⟨k+1,by omega,by go_num,M.out D.out⟩
     case measure=>simp[intOf];omega
    |false=>
     have O:=aN J;clear J;go_wp2_with (go_at_call 293;refine F.out.mono ?_;rintro e w3 ⟨rfl,rfl⟩;rw[O.out]);go_round
     case rel=>exact⟨k+1,by omega,by go_num,M.out D.out⟩
     case measure=>simp[intOf];omega
   |false=>
    have b9:((s:Int) != 0)=true:=by simp[bne,R]
    have c8:=I R;subst c8;rw[R,Bool.false_or]at z;have D:=aN z;clear z I
    cases o with
    |true=>
     go_wp2_with (go_at_call 293;refine F.out.mono ?_;rintro e w3 ⟨rfl,rfl⟩);go_round
     case rel=>exact⟨k+1,by omega,by go_num,M.out D.out⟩
     case measure=>simp[intOf];omega
    |false=>go_wp2_with (go_at_call 293;refine F.out.mono ?_;rintro e w3 ⟨rfl,rfl⟩);go_ret;exact⟨by rw[b6.out D.out];rfl,rfl⟩
  ·have a7:¬(k:Int)<(l.length:Int):=aK;have hr:lZ l p=true:=by unfold lZ;rw[List.all_eq_true];intro x hx;obtain⟨j,hj,rfl⟩:=List.getElem_of_mem hx;exact HY.out j hj aK
   have HR:=aN hr;clear hr;go_wp2;go_ret;exact⟨by rw[HR.out];rfl,rfl⟩
theorem ai1(w:World)(g:Int)(v:Value)(l:List Int)(hv:aR w v l):
  Calls prog 144 #[.agg #[g,v]] w fun e w'=>∃ad i cp,e=.returned (.tuple #[aI ad i cp,.bool (xS g l)])/\aP 3 w w' (aI ad i cp) (nU g l)/\Below w w w':=by
 have f7:=hv;obtain⟨a,c,rfl⟩:=hv.shape;go_enter func144,ntmps144;go_wp2_with fail;refine bH ?_;intro V hV;have B:Below w w V:=fU hV;have K:aU V w 31 #[g,aI a l.length c]:=eJ hV;clear hV;refine(cS g l _ V (hv.below B aO)).mono ?_;rintro e w1 ⟨rfl,b1⟩;have K:=K.keep b1;have B:=B.after b1 B.size;have G:=K.cell;have z:=K.lt
 cases hf:bJ g l with
 |false=>
  have hx:xS g l=false/\nU g l=[]:=by unfold xS nU;rw[hf];exact⟨rfl,rfl⟩
  have HX:=aN hx;have o0:=aP.lit0 (E:=3) (B:=w.heap.size) w1 B.size;clear hx hf;go_wp2;go_ret2;exact⟨_,_,_,by rw[HX.out.1];rfl,by rw[HX.out.2];exact o0,B.alloc B.size _⟩
 |true=>
  obtain⟨h7,h8,c7,_⟩:=dT hf;obtain⟨N,rfl⟩:∃N:Nat,g=N:=⟨g.toNat,by omega⟩;have J:=qJ N N;have hR:wQ (N:Int) l=(cY N N).find? (lZ l):=by unfold wQ;rw[Int.toNat_natCast]
  have hB:xS (N:Int) l=(wQ (N:Int) l).isSome:=by unfold xS;rw[hf];rfl
  have hL:nU (N:Int) l=(wQ (N:Int) l).getD []:=by unfold nU;rw[hf];rfl
  have a6:=QA N aK N [] (aI (some ⟨w1,0,none⟩) 0 0) (w1.alloc (.cells #[] 3)) w1.heap.size (by simp) (aP.lit0 w1 aO) (by simp);rw[aeV]at a6;have b7:=aN a6;clear a6;obtain⟨D,Y⟩:=aQ (cY N N);have R:=Y;have c8:=yA N aK N;have e9:(6:Nat)^N<=6^6:=Nat.pow_le_pow_right aY aK;rw[<-Y]at hR J b7 c8;have g4:D.length<=46656:=aK;have b9:=aN hR;have b0:=aN hB;have b4:=aN hL;have e5:=aN J;have e4:=aN (show ∀s∈l,0<=s/\s<(2:Int)^N from fun s hs=>by have:=c7 s hs;rw[Int.toNat_natCast]at this;exact this);have b8:=aN (show ∀p∈cY N N,∀e,e<N->(e:Int)∈p from fun p hp e he=>acD aK hp he);rw[<-R]at b8;clear hf c7 J hR hB hL Y R c8 e9;go_wp2_with fail;refine b7.out.mono ?_;rintro e w2 ⟨pO,iO,qO,rfl,oO,b2⟩;obtain⟨_,_,d6,_⟩:=oO.len;have f4:iO=D.length:=by injection d6
  subst f4;have z1:=B.size;have Bx:=B.alloc B.size (.cells #[] 3);have K:=(K.alloc (.cells #[] 3)).keep b2;have B:=Bx.after b2 Bx.size;clear G z d6;have zk:=K.lt;go_wp2_with fail;go_loopw [5] (fun i wr=>∃k:Nat,k<=D.length/\i=aM k/\(∀j,(hj:j<D.length)->j<k->lZ l D[j]=false)/\Below w2 w2 wr) (fun i _=>D.length-(intOf i).toNat)
  case atStart=>exact⟨0,Nat.zero_le _,rfl,by intros;omega,Below.refl _ _⟩
  case round=>
   obtain⟨k,hk,rfl,d0,Br⟩:=hrel;obtain⟨wo,rfl⟩:∃z:World,z=wr:=⟨_,rfl⟩;have HN:=aN d0;clear d0;have Bw:=B.after Br B.size;by_cases hlt:k<D.length
   ·have c9:(k:Int)<(D.length:Int):=aK;obtain⟨gg,u,h9,F,hu⟩:=(oO.keep Br).view prog 77 underlying77 jV k hlt;have hm:=e5.out _ (List.getElem_mem hlt);have O:=fun y:Ext wo=>aa4 N aK l D[k] _ _ y.w (y.ints (f7.below Bw aO)) (y.ints hu.ints) aK (fun x hx=>by have:=hm.2 x hx;omega) (fun e he=>b8.out _ (List.getElem_mem hlt) e he) e4.out;have I:lZ l D[k]=true->wQ (N:Int) l=some D[k]:=fun h=>by rw[b9.out];exact RO k hlt HN.out h
    have Z:lZ l D[k]=false->∀j,(hj:j<D.length)->j<k+1->lZ l D[j]=false:=fun h j hj i1=>by
     by_cases e:j=k
     ·subst e;exact h
     ·exact HN.out j hj aK
    have b6:=aN Z;obtain⟨p,hp⟩:=aQ (D[k]);simp only[<-hp]at O;rw[<-hp]at I hu Z b6;obtain⟨o,ho⟩:=aQ (lZ l p);simp only[<-ho]at O;have M:=aN O;have b3:=aN I;have S:=aN ho;have HU:=aN (hu.mono (show w.heap.size<=w1.heap.size from z1));obtain⟨ua,un,uc,rfl⟩:=hu.shape3;have Kw:=K.keep Br;have G:=Kw.cell;have zz:=Kw.lt;clear Z I O ho hp hm hu;have a1:=Kw.cell 1;simp only[List.getElem?_toArray,List.getElem?_cons_zero,List.getElem?_cons_succ]at a1;have p1:∀y:Ext wo,y.w.cell? ⟨w.heap.size,1,none⟩=some (aI a l.length c):=fun y=>y.cell a1;have p2:∀y:Ext wo,y.w.cell? ⟨gg,k,none⟩=some (aI ua un uc):=fun y=>y.cell F;clear a1
    cases o with
    |true=>
     go_wp2_with fail;refine bN _ aT aT ?_
     repeat(first|go_big_quiet_skip|(go_big_quiet_want;go_big_quiet_op;first|go_big_quiet_on|(apply Exists.intro;refine⟨fun _=>?_,?_⟩;(go_at_call 250;exact cR (M.out _));go_big_quiet_on)))
     refine wpQuiet_nil ?_;rintro w5 ⟨⟨w5,b5⟩,rfl⟩
     try dsimp only
     have p3:=(Ext.mk w5 b5).cell F;clear p1 p2 M G zz;go_wp2;go_ret2;exact⟨ua,un,uc,by rw[b0.out,b3.out S.out.symm];rfl,by rw[b4.out,b3.out S.out.symm];exact HU.out.keep b5,Bw.after b5 Bw.size⟩
    |false=>
     go_wp2_with fail;refine bN _ aT aT ?_
     repeat(first|go_big_quiet_skip|(go_big_quiet_want;go_big_quiet_op;first|go_big_quiet_on|(apply Exists.intro;refine⟨fun _=>?_,?_⟩;(go_at_call 250;exact cR (M.out _));go_big_quiet_on)))
     refine wpQuiet_nil ?_;rintro w5 ⟨⟨w5,b5⟩,rfl⟩
     try dsimp only
     clear p1 p2 M G zz;go_wp2;go_roundw
     case rel=>exact⟨k+1,by omega,by go_num,b6.out S.out.symm,Br.after b5 Br.size⟩
     case measure=>simp[intOf];omega
   ·have c9:¬(k:Int)<(D.length:Int):=aK;have hr:wQ (N:Int) l=none:=by rw[b9.out];exact NZ (fun j hj=>HN.out j hj aK)
    have HR:=aN hr;have o0:=aP.lit0 (E:=3) (B:=w.heap.size) wo Bw.size;clear hr;go_wp2;go_ret2;exact⟨_,_,_,by rw[b0.out,HR.out];rfl,by rw[b4.out,HR.out];exact o0,Bw.alloc Bw.size _⟩
end
end Go.Proofs.YtcpoomdoodlkjaaGreatDoor
