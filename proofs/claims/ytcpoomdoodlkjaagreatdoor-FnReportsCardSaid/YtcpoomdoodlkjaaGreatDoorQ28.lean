/- Lemmas for CardReports. No condition. -/
import Derived.Test.YtcpoomdoodlkjaaGreatDoorQ26
set_option maxRecDepth 100000
set_option maxHeartbeats 64000000
namespace Go.Proofs.YtcpoomdoodlkjaaGreatDoor
section
open Go.RowKit Go.G5 Go.Proofs.Tryz
theorem abP(w:World)(g:Int)(v:Value)(l:List Int)(hv:aO w v l):
  Calls prog 142 #[.agg #[g,v]] w fun e w'=>∃ad cp,e=.returned (.tuple #[.slice ad (eI g l).length cp,.bool (bF g l)])/\cX 3 24 w.heap.size w' (.slice ad (eI g l).length cp) (eI g l)/\Below w w w':=by
 have j0:=hv;obtain⟨a,c,rfl⟩:=hv.shape;obtain⟨T,S⟩:=aN (eI g l);rw[<-S];have d0:=aJ S;clear S;go_enter func142,ntmps142;go_wp2_with fail;refine bB ?_;intro V hV;have B:Below w w V:=fY hV;have K:aR V w 31 #[g,ajH a l.length c]:=gL hV;have o0:cX 3 24 w.heap.size V (ajH (some ⟨w.heap.size+1,0,none⟩) 0 0) []:=by rw[hV];have:=cX.lit0 (EI:=3) (EO:=24) (B:=w.heap.size) (w.alloc (.cells #[g,ajH a l.length c] 31)) (by simp);simpa using this
 clear hV;refine(cP g l _ V (hv.below B aK)).mono ?_;rintro e w1 ⟨rfl,b1⟩;have o0:=o0.keep b1;have K:=K.keep b1;have B:=B.after b1 B.size;have G:=K.cell;have z:=K.lt
 cases Z:bF g l with
 |false=>
  have O:T=[]:=by rw[d0.out];unfold eI;rw[Z];rfl
  subst O;have HF:=aJ Z;clear Z;go_wp2;go_ret2;exact⟨_,_,by rw[HF.out];rfl,o0,B⟩
 |true=>
  have O:T=aeB l:=by rw[d0.out];unfold eI;rw[Z];rfl
  have h1:=dQ Z;have d6:∀s∈l,0<=s/\s<64:=fun s hs=>by obtain⟨k,hk,rfl⟩:=List.getElem_of_mem hs;exact(pV Z).2.2 k hk
  have d9:=QH Z;have b0:=h1.2.2.2;have F:T=[]++oN l.length l:=O;have l8:T.length<=64:=by rw[O];exact Nat.le_trans (GX _ _) d9
  have HF:=aJ Z;have g6:=aJ F;have c7:=aJ b0;have f7:=aJ d6;have j2:=j0.below B aK;clear O h1 Z F b0 d6;have oz:=aM.lit0 (E:=3) (B:=w.heap.size) w1 B.size;go_wp2_with (at_builtin;refine sH rfl _ _ _ rfl 3 underlying24 aP w.heap.size _ [] rfl oz _ l rfl (j2.alloc _) aS (by first|omega|(simp;done)|(simp;omega)) ?_;intro v2 w2 o2 g2 n2);have b2:Below w w w2:=(B.alloc B.size (.cells #[] 3)).grown g2 (by first|omega|(simp;done)|(simp;omega)) (fun q N=>(oz.lt q N).1);have bz:Below w1 w1 w2:=(aY w1 (.cells #[] 3)).grown g2 (by simp) (fun q N=>by have m3:w1.heap.size=q:=Option.some.inj N;omega);have e5:=o0.keep bz;rw[List.nil_append]at o2;obtain⟨n0,n1,rfl⟩:=o2.ints.shape;clear o0 g2 n2;go_wp2_with fail;go_loopw [4,5] (fun ov rv wr=>∃(done:List (List Int)) (k:Nat) (rest:List Int) (oa:Option Addr) (oc:Nat) (ra:Option Addr) (rc:Nat),T=done++oN k rest/\rest.length<=k/\k<=64/\(rest.Pairwise (· < ·)/\∀s∈rest,0<=s/\s<64)/\ov=ajH oa done.length oc/\rv=ajH ra rest.length rc/\aO wr (ajH ra rest.length rc) rest/\cX 3 24 w.heap.size wr (ajH oa done.length oc) done/\Below w w wr) (fun _ rv _=>lenOf rv)
  case atStart=>exact⟨[],l.length,l,_,_,_,_,g6.out,aK,d9,⟨c7.out,f7.out⟩,rfl,rfl,o2.ints,e5,b2⟩
  case round=>
   obtain⟨done,k,rest,oa,oc,ra,rc,S,m4,k5,⟨ha,hm⟩,rfl,rfl,hr,ho,Bo⟩:=hrel;obtain⟨wo,rfl⟩:∃z:World,z=wr:=⟨_,rfl⟩;clear e5;by_cases J:0<rest.length
   ·have I:rest≠[]:=fun e=>by rw[e]at J;simp at J
    have b9:(0:Int)<(rest.length:Int):=aI;have hlt:=XI I ha hm;obtain⟨k',rfl⟩:∃k',k=k'+1:=⟨k-1,by omega⟩;have Y:T=(done++[iY rest])++oN k' (oY rest):=by rw[S,N9 _ _ I,List.append_assoc];rfl
    have b6:=TS ha;have b8:∀s∈oY rest,0<=s/\s<64:=fun s hs=>hm s (IA hs);have l9:done.length<=64:=by have:=congrArg List.length S;rw[List.length_append]at this;omega
    have a6:=sC rest _ wo hr hm aI;rw[DI rest ha (fun x O=>(hm x O).1)]at a6;have a7:oY rest=(rest.take rest.length).filter (fun s=>!fP (iY rest) s):=by rw[List.take_length];rfl
    obtain⟨M,hM⟩:=aN (iY rest);obtain⟨R,hR⟩:=aN (oY rest);rw[<-hM]at a6 Y a7;rw[<-hR]at hlt Y b6 b8 a7;have g8:=aJ Y;have g5:=aJ a7;have g1:=aJ (And.intro b6 b8);have g0:=aJ a6;have HO:=aJ ho;have HR:=aJ hr;have g4:=aJ hm;clear S Y a7 b6 b8 a6 ho hM hR ha hm I;go_wp2_with fail;refine g0.out.mono ?_;rintro e w2 ⟨p2,i2,q2,rfl,o2,b2⟩;have h7:i2=M.length:=o2.ints.capLe.1;subst h7;have i6:=HR.out.keep b2;obtain⟨_,rb,k8,_,j1,_,d7,hc,hb⟩:=i6.view prog 24 3 underlying24 aP;injection j1 with x1 _ x3;subst x1 x3;have HC:=aJ hc;have f9:=aJ d7;have c9:=aJ o2;have e6:=aM.lit0 (E:=3) (B:=w2.heap.size) w2 aK;clear hc d7 o2;go_wp2_with fail;go_loopw [7,8] (fun lv i wr=>∃(j:Nat) (ad:Option Addr) (nn cp:Nat),j<=rest.length/\i=ajJ j/\lv=ajH ad nn cp/\aM 3 w2 wr (ajH ad nn cp) ((rest.take j).filter (fun s=>!fP M s))/\Below w2 w2 wr) (fun _ i _=>rest.length-(intOf i).toNat)
    case atStart=>exact⟨0,_,_,_,Nat.zero_le _,rfl,rfl,e6,aY _ _⟩
    case round=>
     obtain⟨j,ad,nn,cp,hj,rfl,rfl,hw,Bi⟩:=hrel;obtain⟨wi,rfl⟩:∃z:World,z=wr:=⟨_,rfl⟩;have HW:=aJ hw;have zi:=Bi.size;clear hw e6;by_cases a1:j<rest.length
     ·have d8:(j:Int)<(rest.length:Int):=aI;have ck:=aT HC.out hb Bi aK j a1;have ik:=fun W=>f9.out W j a1;have c5:=OO (fun s=>!fP M s) rest j a1;have j4:=g4.out rest[j] (List.getElem_mem a1);have m2:((rest.take j).filter (fun s=>!fP M s)).length<=64:=by have h1:=List.length_filter_le (fun s=>!fP M s) (rest.take j);have h2:=List.length_take_le j rest;omega
      obtain⟨x,O⟩:=aN (rest[j]);rw[<-O]at ck c5 j4;have b7:=kQ M _ x wi (c9.out.ints.keep Bi);obtain⟨q,N⟩:=aN (fP M x);rw[<-N]at b7;have D:(rest.take (j+1)).filter (fun s=>!fP M s)=(rest.take j).filter (fun s=>!fP M s)++(if !q then [x] else []):=by rw[c5,N]
      have c8:=aJ b7;clear c5 b7 O N
      cases q with
      |true=>
       rw[if_neg (by simp),List.append_nil]at D;have b5:=aJ D;clear D;go_wp2_with (go_at_call 210;refine c8.out.mono ?_;rintro e w' ⟨rfl,rfl⟩);go_roundw
       case rel=>exact⟨j+1,ad,nn,cp,by omega,by go_num,rfl,by rw[b5.out];exact HW.out,Bi⟩
       case measure=>simp[intOf];omega
      |false=>
       rw[if_pos (by simp)]at D;have b5:=aJ D;clear D;go_wp2_with (first
        |(go_at_call 210;refine c8.out.mono ?_;rintro e w' ⟨rfl,rfl⟩)
        |(at_builtin;refine cW rfl _ _ _ rfl 3 underlying24 aP w2.heap.size _ _ x wi.heap.size rfl rfl (aX wi #[x] 3 0 _ rfl) (HW.out.alloc _) ⟨by omega,by omega⟩ aI (by first|omega|(simp;done)|(simp;omega)) ?_;intro v' w6 b3 h6;obtain⟨av,nv,cv,rfl⟩:=b3.shape3))
       have B6:Below w2 w2 w6:=(Bi.alloc Bi.size (.cells #[x] 3)).grown h6 aS (fun q N=>(HW.out.lt q N).1);go_roundw
       case rel=>exact⟨j+1,av,nv,cv,by omega,by go_num,rfl,by rw[b5.out];exact b3,B6⟩
       case measure=>simp[intOf];omega
     ·have d8:¬(j:Int)<(rest.length:Int):=aI;have h8:j=rest.length:=aI;subst h8;have hw:=HW.out;rw[<-g5.out]at hw;have h9:nn=R.length:=hw.ints.capLe.1;subst h9;have g9:=aJ hw;have d5:=b2.after Bi b2.size;have Bw:=Bo.after d5 Bo.size;have b4:=aJ (HO.out.keep d5);have g3:=aJ ((c9.out.keep Bi).mono Bo.size);clear hw;go_wp2_with (at_builtin;refine sG rfl _ _ _ rfl 3 24 rJ underlying77 jS w.heap.size _ done (ajH p2 M.length q2) M wi.heap.size rfl rfl (aX wi #[ajH p2 M.length q2] 24 0 _ rfl) ((b4.out).alloc _) (g3.out.alloc _) aI (by have:=Bw.size;simp;omega) ?_;intro v7 w7 o7 g7);have rO:=b4.out.lt;obtain⟨n3,e8⟩:=(b4.out.alloc (.cells #[ajH p2 M.length q2] 24)).row;have j3:=(g9.out.alloc (.cells #[ajH p2 M.length q2] 24)).growL e8 rJ g7;have B7:Below w w w7:=(Bw.alloc Bw.size (.cells #[ajH p2 M.length q2] 24)).grown g7 (by have:=Bw.size;simp;omega) (fun q N=>(rO q N).1);obtain⟨j6,j8,rfl,_⟩:=o7.len;have m1:(done++[M]).length=done.length+1:=by simp
      go_wp2_with fail;go_roundw
      case rel=>exact⟨done++[M],k',R,j6,j8,ad,cp,g8.out,by omega,by omega,g1.out,rfl,rfl,j3.ints,o7,B7⟩
      case measure=>simp[lenOf];omega
   ·have I:rest=[]:=by cases rest with
     |nil=>rfl
     |cons x r=>simp at J
    subst I;have b9:¬(0:Int)<(0:Int):=aI;rw[SW,List.append_nil]at S;subst S;go_wp2;go_ret2;exact⟨_,_,by rw[HF.out];rfl,ho,Bo⟩
theorem aM.litC{E:TypeId}{B:Nat}(w:World)(y:Int)(F:dA y)(hB:B<=w.heap.size):aM E B (w.alloc (.cells #[y] E)) (ajH (some ⟨w,0,none⟩) 1 1) [y]:=
 ⟨World.ownsRow_lit w #[y] 1 hB aV rfl,by intro z D;rw[List.mem_singleton]at D;subst D;exact F⟩
theorem adV(x y:Int)(r:List Int)(z:0<=x):CO (y::r) x=(bG x y==x):=by
 show(cI x y==0)=_;rw[<-GQ z,Bool.eq_iff_iff,beq_iff_eq,beq_iff_eq];constructor<;>intro h<;>omega
theorem adH(w:World)(g:Int)(v:Value)(l:List Int)(hv:aO w v l):
  Calls prog 141 #[.agg #[g,v]] w fun e w'=>∃ad i cp,e=.returned (.tuple #[ajH ad i cp,.bool (bF g l)])/\aM 3 w w' (ajH ad i cp) (wL g l)/\Below w w w':=by
 have g8:=hv;obtain⟨a,c,rfl⟩:=hv.shape;obtain⟨T,hT⟩:=aN (wL g l);have a7:=sE g l;have N:=JT g l;have b3:T=wK (eI g l) (eI g l).length []:=hT;have Z:=abP (w.alloc (.cells #[g,ajH a l.length c] 31)) g _ l (g8.alloc _);rw[<-hT];obtain⟨R,d0⟩:=aN (eI g l);rw[<-d0]at a7 N b3 Z;obtain⟨bf,c7⟩:=aN (bF g l);rw[<-c7]at Z ⊢;have f5:=aJ b3;have HM:=aJ N;have e9:=aJ Z;clear hT b3 N Z d0 c7;go_enter func141,ntmps141;go_wp2_with fail;refine e9.out.mono ?_;rintro e w2 ⟨ad,cp,rfl,c9,b2⟩;have B2:Below w w w2:=(aY _ _).after b2 (by simp);have e8:=aJ (c9.mono (show w.heap.size<=_ by simp));clear b2 c9;have k7:IntKind.i64.wrap ((R.length:Int)-1)=(R.length:Int)-1:=by rw[IntKind.wrap_i64];omega
 have o0:=aM.lit0 (E:=3) (B:=w2.heap.size) w2 aK;go_wp2_with fail;go_loopw [6,7] (fun ov iv wr=>∃(i:Nat) (out:List Int) (p:Option Addr) (q:Nat),i<=R.length/\iv=ajJ ((i:Int)-1)/\ov=ajH p out.length q/\aM 3 w2 wr (ajH p out.length q) out/\out.length+i<=64/\wK R i out=T/\(∀x∈out,0<=x/\x<64)/\Below w2 w2 wr) (fun _ iv _=>(intOf iv+1).toNat)
 case atStart=>exact⟨R.length,[],_,_,aK,rfl,rfl,o0,by simpa using a7,f5.out.symm,by simp,aY _ _⟩
 case round=>
  obtain⟨i,out,p,q,hi,rfl,rfl,ho,g6,S,d8,J⟩:=hrel;obtain⟨wo,rfl⟩:∃z:World,z=wr:=⟨_,rfl⟩;clear o0
  cases i with
  |zero=>have F:out=T:=S;subst F;have j0:¬(0:Int)<=((0:Nat):Int)-1:=aI;clear S;go_wp2;go_ret2;exact⟨_,_,_,rfl,ho.mono B2.size,B2.after J B2.size⟩
  |succ i=>
   have g3:((i+1:Nat):Int)-1=(i:Int):=aI;rw[g3];have hlt:i<R.length:=aI;have k6:IntKind.i64.wrap ((i:Int)-1)=(i:Int)-1:=by rw[IntKind.wrap_i64];omega
   have F:=aaJ R i hlt out;rw[S]at F;obtain⟨gg,u,k2,k1,a1⟩:=(e8.out.keep J).view prog 77 underlying77 jS i hlt;have hM:=HM.out R[i] (List.getElem_mem hlt);obtain⟨M,c6⟩:=aN (R[i]);rw[<-c6]at F a1 hM;obtain⟨am,cm,rfl⟩:=a1.shape;obtain⟨_,mb,j4,_,b6,_,a8,d5,k3⟩:=a1.ints.view prog 24 3 underlying24 aP;injection b6 with x1 _ x3;subst x1 x3;have f0:=aJ d5;have f3:=aJ a8;have f2:=aJ hM.2;have b8:=aJ F;have HO:=aJ ho;have b1:=aJ d8;clear d5 a8 hM S F ho d8 c6 a1;go_wp2_with fail;go_loopw [6,8] (fun ov iv wi=>∃(j n:Nat),j<=M.length/\ov=ajH p out.length q/\iv=ajJ j/\lJ (M.drop j) out=lJ M out/\wi=wo.drewN n) (fun _ iv _=>M.length-(intOf iv).toNat)
   case atStart=>exact⟨0,0,Nat.zero_le _,rfl,rfl,rfl,rfl⟩
   case round=>
    obtain⟨j,n,hj,rfl,rfl,O,rfl⟩:=hrel;by_cases Y:j<M.length
    ·have c8:(j:Int)<(M.length:Int):=aI;have ck:=f0.out j Y;have ik:=fun W=>f3.out W j Y;have a6:=f2.out M[j] (List.getElem_mem Y);have K:=T7 M j Y out;rw[O]at K;obtain⟨x,hx⟩:=aN (M[j]);rw[<-hx]at ck a6 K;clear hx O;have b0:CO out x=true->wK R i (x::out)=T:=fun h=>by rw[b8.out,K,h];rfl
     have d6:CO out x=false->lJ (M.drop (j+1)) out=lJ M out:=fun h=>by rw[K,h];rfl
     have HY:=aJ b0;have HN:=aJ d6;have d9:∀y∈x::out,0<=y/\y<64:=fun y hy=>by
      rcases List.mem_cons.1 hy with e|h
      ·rw[e];exact a6
      ·exact b1.out y h
     have b9:=aJ d9;have e0:dA x:=⟨by omega,by omega⟩;have c5:=aJ e0;have hL:[x].length+out.length<=17592186044416:=by simp;omega
     have HL:=aJ hL;have zo:=J.size;clear K b0 d6 d9 e0 hL
     cases out with
     |nil=>
      go_wp2_with fail;go_quiet (fail);go_wp2_with (at_builtin;refine sH rfl _ _ _ rfl 3 underlying24 aP w2.heap.size _ [x] rfl (aM.litC _ x c5.out (by have:=J.size;simp;omega)) _ _ rfl ((HO.out.ints.drewN _).alloc _) HL.out (by have:=J.size;simp;omega) ?_;intro v' w6 D b4 _;obtain⟨av,nv,cv,rfl⟩:=D.shape3);have B6:Below w2 w2 w6:=((J.drewN' _).alloc (J.drewN' _).size (.cells #[x] 3)).grown b4 (by have:=J.size;simp;omega) (fun q hq=>by have e:=Option.some.inj hq;have:=J.size;simp at e;omega);have b5:nv=1:=by have:=D.ints.capLe.1;simpa using this
      subst b5;go_roundw
      case rel=>exact⟨i,[x],av,cv,by omega,by go_num,rfl,D,by simp;omega,HY.out rfl,b9.out,B6⟩
      case measure=>simp[intOf]
     |cons y r=>
      have g9:=b1.out y (by simp);obtain⟨_,ob,e4,_,b6,_,a9,d7,k5⟩:=HO.out.ints.view prog 24 3 underlying24 aP;injection b6 with x1 _ x3;subst x1 x3;have oc:=d7 0 (by simp);have oi:∀w',(Instr.indexAt 24 (ajH p (r.length+1) q) (ajJ 0)).run prog w'=.ok (.pointer (some ⟨ob,e4,none⟩)) w':=fun w'=>by have:=a9 w' 0 (by simp);simpa using this
      rw[Nat.add_zero]at oc;simp only[List.getElem_cons_zero]at oc;have k9:((y::r).length:Int)=(r.length:Int)+1:=by simp
      have k4:((r.length:Int)+1==0)=false:=by simp;omega
      have g2:bits .and .i64 x y=bG x y:=eB a6.1 aI g9.1 aI;have I:=adV x y r a6.1;obtain⟨z,hz⟩:=aN (bG x y);rw[<-hz]at g2 I;clear hz d7 a9
      cases h0:z==x with
      |false=>
       have hN:=HN.out (by rw[I,h0]);have f4:=aJ hN;clear hN I;go_wp2_with fail;go_quiet (fail);go_wp2;go_roundw
       case rel=>exact⟨j+1,n+nq,by omega,rfl,by go_num,f4.out,by simp⟩
       case measure=>simp[intOf];omega
      |true=>
       have hY:=HY.out (by rw[I,h0]);have f6:=aJ hY;clear hY I;go_wp2_with fail;go_quiet (fail);go_wp2_with (at_builtin;refine sH rfl _ _ _ rfl 3 underlying24 aP w2.heap.size _ [x] rfl (aM.litC _ x c5.out (by have:=J.size;simp;omega)) _ _ rfl ((HO.out.ints.drewN _).alloc _) HL.out (by have:=J.size;simp;omega) ?_;intro v' w6 D b4 _;obtain⟨av,nv,cv,rfl⟩:=D.shape3);have B6:Below w2 w2 w6:=((J.drewN' _).alloc (J.drewN' _).size (.cells #[x] 3)).grown b4 (by have:=J.size;simp;omega) (fun q hq=>by have e:=Option.some.inj hq;have:=J.size;simp at e;omega);have b5:nv=(x::y::r).length:=by have:=D.ints.capLe.1;simpa using this
       subst b5;go_roundw
       case rel=>exact⟨i,x::y::r,av,cv,by omega,by go_num,rfl,D,by simp at g6 ⊢;omega,f6.out,b9.out,B6⟩
       case measure=>simp[intOf]
    ·have c8:¬(j:Int)<(M.length:Int):=aI;have g4:j=M.length:=aI;subst g4;rw[OU]at O;have hC:wK R i out=T:=by rw[b8.out,<-O]
     have HC:=aJ hC;clear hC O;go_wp2;go_roundw
     case rel=>exact⟨i,out,p,q,by omega,by go_num,rfl,HO.out.drewN _,by omega,HC.out,b1.out,J.drewN' _⟩
     case measure=>simp[intOf]
theorem acT(p:List Int)(v:Value)(s:Nat)(w:World)(hv:aO w v p)(d6:p.length<=6)(a7:∀x∈p,0<=x/\x<6)(hs:s<64):
  Calls prog 293 #[v,(s:Int)] w fun e w'=>e=.returned (.tuple #[(pT p s p.length),(uY p s p.length),.bool (decide (0<=pT p s p.length)&&vJ p s)])/\w=w':=by
 obtain⟨a,b,d8,c,rfl,b8,a1,hc,hb⟩:=hv.view prog 24 3 underlying24 aP;have HC:=aJ hc;have a9:=aJ a1;have b0:=aJ a7;have S:=aJ (eK s w aI);clear hc a1 a7;go_enter func293,ntmps293;go_wp2;go_loop [7,8,9] (fun fi la i=>∃k:Nat,k<=p.length/\i=ajJ k/\fi=ajJ (pT p s k)/\la=ajJ (uY p s k)) (fun _ _ i=>p.length-(intOf i).toNat)
 case atStart=>exact⟨0,Nat.zero_le _,rfl,rfl,rfl⟩
 case round=>
  obtain⟨k,hk,rfl,rfl,rfl⟩:=hrel;by_cases hlt:k<p.length
  ·have a6:(k:Int)<(p.length:Int):=aI;have ck:=HC.out k hlt;have ik:=fun W=>a9.out W k hlt;have hm:=b0.out _ (List.getElem_mem hlt);have h1:=BP p s k;have h2:=IF p s k;have h3:=KR p s k;obtain⟨e,he⟩:∃e:Nat,p[k]=(e:Int):=⟨p[k].toNat,by omega⟩;have Z:FJ p s k=cZ s e:=by unfold FJ;rw[List.getD_eq_getElem?_getD,List.getElem?_eq_getElem hlt,Option.getD_some,he,Int.toNat_natCast]
   rw[he]at ck hm;rw[Z]at h1 h2;have c9:e<6:=aI;have Y:=jL (s:Int) e aI aI;have D:=tZ s e;obtain⟨y,hy⟩:=aN (dL (s:Int) e);rw[<-hy]at Y D;have hp:=cK e 6 aI;have d0:(2:Int)^e<=64:=by simpa using hp.1
   have d5:=hp.2;obtain⟨F,K⟩:=aN (pT p s k);obtain⟨L,M⟩:=aN (uY p s k);rw[<-K]at h1 h3 ⊢;rw[<-M]at h2 ⊢;clear hp hy Z he hm K M
   cases z:cZ s e with
   |false=>
    have b7:(y==1)=false:=by rw[D,z]
    rw[z,Bool.false_and,if_neg (by simp)]at h1;rw[z,if_neg (by simp)]at h2;have R:=aJ h1;have H2:=aJ h2;clear z D h1 h2;go_wp2;go_round
    case rel=>exact⟨k+1,by omega,by go_num,by rw[R.out],by rw[H2.out]⟩
    case measure=>simp[intOf];omega
   |true=>
    have b7:(y==1)=true:=by rw[D,z]
    rw[z,Bool.true_and]at h1;rw[z,if_pos rfl]at h2;have H2:=aJ h2;clear z D h2;by_cases I:F<0
    ·rw[decide_eq_true I,if_pos rfl]at h1;have R:=aJ h1;clear h1;go_wp2;go_round
     case rel=>exact⟨k+1,by omega,by go_num,by rw[R.out],by rw[H2.out]⟩
     case measure=>simp[intOf];omega
    ·rw[decide_eq_false I,if_neg (by simp)]at h1;have R:=aJ h1;clear h1;go_wp2;go_round
     case rel=>exact⟨k+1,by omega,by go_num,by rw[R.out],by rw[H2.out]⟩
     case measure=>simp[intOf];omega
  ·have b4:k=p.length:=aI;have a6:¬(k:Int)<(p.length:Int):=aI;have h3:=KR p s p.length;have h4:=acQ p s p.length;have N:vJ p s=decide (uY p s p.length-pT p s p.length+1=(bN s:Int)):=rfl;subst b4;obtain⟨F,K⟩:=aN (pT p s p.length);obtain⟨L,M⟩:=aN (uY p s p.length);rw[<-K,<-M]at N ⊢;rw[<-K]at h3;rw[<-M]at h4;have e0:IntKind.i64.wrap (L-F)=L-F:=by rw[IntKind.wrap_i64];omega
   have e4:IntKind.i64.wrap (L-F+1)=L-F+1:=by rw[IntKind.wrap_i64];omega
   have b1:(L-F+1==(bN s:Int))=vJ p s:=by rw[N];by_cases h:L-F+1=(bN s:Int)<;>simp[h]
   obtain⟨o,ho⟩:=aN (vJ p s);rw[<-ho]at b1;have O:=aJ (And.intro K (And.intro M ho));clear N K M ho;by_cases J:0<=F
   ·go_wp2_with (go_at_call 154;refine S.out.mono ?_;rintro e w3 ⟨rfl,rfl⟩);go_ret3;exact⟨by rw[<-O.out.1,<-O.out.2.1,<-O.out.2.2,decide_eq_true J];rfl,rfl⟩
   ·have HD:=aJ (decide_eq_false J);go_wp2_with (go_at_call 154;refine S.out.mono ?_;rintro e w3 ⟨rfl,rfl⟩);go_ret3;exact⟨by rw[<-O.out.1,<-O.out.2.1,<-O.out.2.2,HD.out];rfl,rfl⟩
theorem aa0(N:Nat)(hN:N<=6)(l p:List Int)(v u:Value)(w:World)(hv:aO w v l)(hu:aO w u p)(c6:p.length<=6)(b0:∀x∈p,0<=x/\x<6)(b1:∀e,e<N->(e:Int)∈p)(a6:∀s∈l,0<=s/\s<2^N):
  Calls prog 250 #[v,u] w fun e w'=>e=.returned (.bool (lW l p))/\w=w':=by
 obtain⟨a,b,e9,c,rfl,d6,Z,hc,hb⟩:=hv.view prog 24 3 underlying24 aP;have e4:(2:Int)^N<=64:=by have:=(cK N 6 hN).1;simpa using this
 have b3:=fun(s:Nat) (hs:s<64)=>acT p _ s _ hu c6 b0 hs;obtain⟨a',c',rfl⟩:=hu.shape;have HC:=aJ hc;have b4:=aJ Z;have b5:=aJ a6;have b8:=aJ b3;have b7:=aJ b1;clear hc Z a6 b3 b0 b1;go_enter func250,ntmps250;go_wp2;go_loop [5] (fun i=>∃k:Nat,k<=l.length/\i=ajJ k/\(∀j,(hj:j<l.length)->j<k->nU p l[j]=true)) (fun i=>l.length-(intOf i).toNat)
 case atStart=>exact⟨0,Nat.zero_le _,rfl,by intros;omega⟩
 case round=>
  obtain⟨k,hk,rfl,K⟩:=hrel;have HY:=aJ K;clear K;by_cases hlt:k<l.length
  ·have a7:(k:Int)<(l.length:Int):=aI;have ck:=HC.out k hlt;have ik:=fun W=>b4.out W k hlt;have hm:=b5.out _ (List.getElem_mem hlt);obtain⟨s,S⟩:∃s:Nat,l[k]=(s:Int):=⟨l[k].toNat,by omega⟩;have z:nU p l[k]=((s:Int)==0||vJ p s):=by unfold nU;rw[S,Int.toNat_natCast]
   have Y:=b8.out s aI;have I:((s:Int)==0)=false->decide (0<=pT p s p.length)=true:=fun h=>by
    have R:s≠0:=fun e=>by rw[e]at h;exact Bool.noConfusion h
    have:((2^N:Nat):Int)=(2:Int)^N:=by simp
    exact decide_eq_true (adU hN b7.out s aI R)
   have a8:nU p l[k]=false->lW l p=false:=fun h=>by unfold lW;rw[List.all_eq_false];exact⟨l[k],List.getElem_mem hlt,by rw[h];simp⟩
   have a9:nU p l[k]=true->∀j,(hj:j<l.length)->j<k+1->nU p l[j]=true:=fun h j hj e5=>by
    by_cases e:j=k
    ·subst e;exact h
    ·exact HY.out j hj aI
   rw[S]at ck;obtain⟨o,ho⟩:=aN (vJ p s);obtain⟨q,hq⟩:=aN (decide (0<=pT p s p.length));rw[<-ho]at z;rw[<-ho,<-hq]at Y;rw[<-hq]at I;have b6:=aJ a8;have M:=aJ a9;have F:=aJ Y;clear a8 a9 Y ho S hm hq
   cases R:((s:Int)==0) with
   |true=>
    have b9:((s:Int) != 0)=false:=by simp[bne,R]
    rw[R,Bool.true_or]at z;have D:=aJ z;clear z I
    cases J:(q&&o) with
    |true=>
     have O:=aJ J;clear J;go_wp2_with (go_at_call 293;refine F.out.mono ?_;rintro e w3 ⟨rfl,rfl⟩;rw[O.out]);go_round
     case rel=>exact⟨k+1,by omega,by go_num,M.out D.out⟩
     case measure=>simp[intOf];omega
    |false=>
     have O:=aJ J;clear J;go_wp2_with (go_at_call 293;refine F.out.mono ?_;rintro e w3 ⟨rfl,rfl⟩;rw[O.out]);go_round
     case rel=>exact⟨k+1,by omega,by go_num,M.out D.out⟩
     case measure=>simp[intOf];omega
   |false=>
    have b9:((s:Int) != 0)=true:=by simp[bne,R]
    have c8:=I R;subst c8;rw[R,Bool.false_or]at z;have D:=aJ z;clear z I
    cases o with
    |true=>
     go_wp2_with (go_at_call 293;refine F.out.mono ?_;rintro e w3 ⟨rfl,rfl⟩);go_round
     case rel=>exact⟨k+1,by omega,by go_num,M.out D.out⟩
     case measure=>simp[intOf];omega
    |false=>go_wp2_with (go_at_call 293;refine F.out.mono ?_;rintro e w3 ⟨rfl,rfl⟩);go_ret;exact⟨by rw[b6.out D.out];rfl,rfl⟩
  ·have a7:¬(k:Int)<(l.length:Int):=aI;have hr:lW l p=true:=by unfold lW;rw[List.all_eq_true];intro x hx;obtain⟨j,hj,rfl⟩:=List.getElem_of_mem hx;exact HY.out j hj aI
   have HR:=aJ hr;clear hr;go_wp2;go_ret;exact⟨by rw[HR.out];rfl,rfl⟩
theorem aiX(w:World)(g:Int)(v:Value)(l:List Int)(hv:aO w v l):
  Calls prog 144 #[.agg #[g,v]] w fun e w'=>∃ad i cp,e=.returned (.tuple #[ajH ad i cp,.bool (xP g l)])/\aM 3 w w' (ajH ad i cp) (nR g l)/\Below w w w':=by
 have f7:=hv;obtain⟨a,c,rfl⟩:=hv.shape;go_enter func144,ntmps144;go_wp2_with fail;refine bB ?_;intro V hV;have B:Below w w V:=fR hV;have K:aR V w 31 #[g,ajH a l.length c]:=eG hV;clear hV;refine(cP g l _ V (hv.below B aK)).mono ?_;rintro e w1 ⟨rfl,b1⟩;have K:=K.keep b1;have B:=B.after b1 B.size;have G:=K.cell;have z:=K.lt
 cases hf:bF g l with
 |false=>
  have hx:xP g l=false/\nR g l=[]:=by unfold xP nR;rw[hf];exact⟨rfl,rfl⟩
  have HX:=aJ hx;have o0:=aM.lit0 (E:=3) (B:=w.heap.size) w1 B.size;clear hx hf;go_wp2;go_ret2;exact⟨_,_,_,by rw[HX.out.1];rfl,by rw[HX.out.2];exact o0,B.alloc B.size _⟩
 |true=>
  obtain⟨h7,h8,c7,_⟩:=dQ hf;obtain⟨N,rfl⟩:∃N:Nat,g=N:=⟨g.toNat,by omega⟩;have J:=pY N N;have hR:wN (N:Int) l=(cV N N).find? (lW l):=by unfold wN;rw[Int.toNat_natCast]
  have hB:xP (N:Int) l=(wN (N:Int) l).isSome:=by unfold xP;rw[hf];rfl
  have hL:nR (N:Int) l=(wN (N:Int) l).getD []:=by unfold nR;rw[hf];rfl
  have a6:=P6 N aI N [] (ajH (some ⟨w1,0,none⟩) 0 0) (w1.alloc (.cells #[] 3)) w1.heap.size (by simp) (aM.lit0 w1 aK) (by simp);rw[aeR]at a6;have b7:=aJ a6;clear a6;obtain⟨D,Y⟩:=aN (cV N N);have R:=Y;have c8:=xX N aI N;have e9:(6:Nat)^N<=6^6:=Nat.pow_le_pow_right aV aI;rw[<-Y]at hR J b7 c8;have g4:D.length<=46656:=aI;have b9:=aJ hR;have b0:=aJ hB;have b4:=aJ hL;have e5:=aJ J;have e4:=aJ (show ∀s∈l,0<=s/\s<(2:Int)^N from fun s hs=>by have:=c7 s hs;rw[Int.toNat_natCast]at this;exact this);have b8:=aJ (show ∀p∈cV N N,∀e,e<N->(e:Int)∈p from fun p hp e he=>ab9 aI hp he);rw[<-R]at b8;clear hf c7 J hR hB hL Y R c8 e9;go_wp2_with fail;refine b7.out.mono ?_;rintro e w2 ⟨pO,iO,qO,rfl,oO,b2⟩;obtain⟨_,_,d6,_⟩:=oO.len;have f4:iO=D.length:=by injection d6
  subst f4;have z1:=B.size;have Bx:=B.alloc B.size (.cells #[] 3);have K:=(K.alloc (.cells #[] 3)).keep b2;have B:=Bx.after b2 Bx.size;clear G z d6;have zk:=K.lt;go_wp2_with fail;go_loopw [5] (fun i wr=>∃k:Nat,k<=D.length/\i=ajJ k/\(∀j,(hj:j<D.length)->j<k->lW l D[j]=false)/\Below w2 w2 wr) (fun i _=>D.length-(intOf i).toNat)
  case atStart=>exact⟨0,Nat.zero_le _,rfl,by intros;omega,Below.refl _ _⟩
  case round=>
   obtain⟨k,hk,rfl,d0,Br⟩:=hrel;obtain⟨wo,rfl⟩:∃z:World,z=wr:=⟨_,rfl⟩;have HN:=aJ d0;clear d0;have Bw:=B.after Br B.size;by_cases hlt:k<D.length
   ·have c9:(k:Int)<(D.length:Int):=aI;obtain⟨gg,u,h9,F,hu⟩:=(oO.keep Br).view prog 77 underlying77 jS k hlt;have hm:=e5.out _ (List.getElem_mem hlt);have O:=fun y:Ext wo=>aa0 N aI l D[k] _ _ y.w (y.ints (f7.below Bw aK)) (y.ints hu.ints) aI (fun x hx=>by have:=hm.2 x hx;omega) (fun e he=>b8.out _ (List.getElem_mem hlt) e he) e4.out;have I:lW l D[k]=true->wN (N:Int) l=some D[k]:=fun h=>by rw[b9.out];exact RK k hlt HN.out h
    have Z:lW l D[k]=false->∀j,(hj:j<D.length)->j<k+1->lW l D[j]=false:=fun h j hj i1=>by
     by_cases e:j=k
     ·subst e;exact h
     ·exact HN.out j hj aI
    have b6:=aJ Z;obtain⟨p,hp⟩:=aN (D[k]);simp only[<-hp]at O;rw[<-hp]at I hu Z b6;obtain⟨o,ho⟩:=aN (lW l p);simp only[<-ho]at O;have M:=aJ O;have b3:=aJ I;have S:=aJ ho;have HU:=aJ (hu.mono (show w.heap.size<=w1.heap.size from z1));obtain⟨ua,un,uc,rfl⟩:=hu.shape3;have Kw:=K.keep Br;have G:=Kw.cell;have zz:=Kw.lt;clear Z I O ho hp hm hu;have a1:=Kw.cell 1;simp only[List.getElem?_toArray,List.getElem?_cons_zero,List.getElem?_cons_succ]at a1;have p1:∀y:Ext wo,y.w.cell? ⟨w.heap.size,1,none⟩=some (ajH a l.length c):=fun y=>y.cell a1;have p2:∀y:Ext wo,y.w.cell? ⟨gg,k,none⟩=some (ajH ua un uc):=fun y=>y.cell F;clear a1
    cases o with
    |true=>
     go_wp2_with fail;refine bJ _ aQ aQ ?_
     repeat(first|go_big_quiet_skip|(go_big_quiet_want;go_big_quiet_op;first|go_big_quiet_on|(apply Exists.intro;refine⟨fun _=>?_,?_⟩;(go_at_call 250;exact cO (M.out _));go_big_quiet_on)))
     refine wpQuiet_nil ?_;rintro w5 ⟨⟨w5,b5⟩,rfl⟩
     try dsimp only
     have p3:=(Ext.mk w5 b5).cell F;clear p1 p2 M G zz;go_wp2;go_ret2;exact⟨ua,un,uc,by rw[b0.out,b3.out S.out.symm];rfl,by rw[b4.out,b3.out S.out.symm];exact HU.out.keep b5,Bw.after b5 Bw.size⟩
    |false=>
     go_wp2_with fail;refine bJ _ aQ aQ ?_
     repeat(first|go_big_quiet_skip|(go_big_quiet_want;go_big_quiet_op;first|go_big_quiet_on|(apply Exists.intro;refine⟨fun _=>?_,?_⟩;(go_at_call 250;exact cO (M.out _));go_big_quiet_on)))
     refine wpQuiet_nil ?_;rintro w5 ⟨⟨w5,b5⟩,rfl⟩
     try dsimp only
     clear p1 p2 M G zz;go_wp2;go_roundw
     case rel=>exact⟨k+1,by omega,by go_num,b6.out S.out.symm,Br.after b5 Br.size⟩
     case measure=>simp[intOf];omega
   ·have c9:¬(k:Int)<(D.length:Int):=aI;have hr:wN (N:Int) l=none:=by rw[b9.out];exact NV (fun j hj=>HN.out j hj aI)
    have HR:=aJ hr;have o0:=aM.lit0 (E:=3) (B:=w.heap.size) wo Bw.size;clear hr;go_wp2;go_ret2;exact⟨_,_,_,by rw[b0.out,HR.out];rfl,by rw[b4.out,HR.out];exact o0,Bw.alloc Bw.size _⟩
end
end Go.Proofs.YtcpoomdoodlkjaaGreatDoor
