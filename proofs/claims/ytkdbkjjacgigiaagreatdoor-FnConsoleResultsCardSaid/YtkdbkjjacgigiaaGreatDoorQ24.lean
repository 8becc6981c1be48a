/- Lemmas for CardConsoleResults. No condition. -/
import Derived.Test.YtkdbkjjacgigiaaGreatDoorQ15
import Derived.Test.YtkdbkjjacgigiaaGreatDoorRows
set_option maxRecDepth 100000
set_option maxHeartbeats 64000000
namespace Go.Proofs.YtkdbkjjacgigiaaGreatDoor
section
open Go.RowKit Go.G5 Go.Proofs.Tryz
theorem agK(w:World)(g:Int)(v:Value)(l:List Int)(hv:aK w v l):
  Calls prog 70 #[.agg #[g,v]] w fun e w'=>∃ad cp,e=.returned (.tuple #[.slice ad (eA g l).length cp,.bool (aU g l)])/\cV 3 25 w.heap.size w' (.slice ad (eA g l).length cp) (eA g l)/\Below w w w':=by
 have j9:=hv;obtain⟨a,c,rfl⟩:=hv.shape;obtain⟨T,Y⟩:=aJ (eA g l);rw[<-Y];have e0:=aH Y;clear Y;go_enter func70,ntmps70;go_wp2_with fail;refine bU ?_;intro V hV;have B:Below w w V:=gO hV;have K:aP V w 29 #[g,aA a l.length c]:=gR hV;have o0:cV 3 25 w.heap.size V (aA (some ⟨w.heap.size+1,0,none⟩) 0 0) []:=by rw[hV];have:=cV.lit0 (EI:=3) (EO:=25) (B:=w.heap.size) (w.alloc (.cells #[g,aA a l.length c] 29)) (by simp);simpa using this
 clear hV;refine(cK g l _ V (hv.below B aI)).mono ?_;rintro e w1 ⟨rfl,b1⟩;have o0:=o0.keep b1;have K:=K.keep b1;have B:=B.after b1 B.size;have G:=K.cell;have z:=K.lt
 cases hf:aU g l with
 |false=>
  have S:T=[]:=by rw[e0.out];unfold eA;rw[hf];rfl
  subst S;have HF:=aH hf;clear hf;go_wp2;go_ret2;exact⟨_,_,by rw[HF.out];rfl,o0,B⟩
 |true=>
  have S:T=alP l:=by rw[e0.out];unfold eA;rw[hf];rfl
  have h1:=dB hf;have e5:∀s∈l,0<=s/\s<64:=fun s hs=>by obtain⟨k,hk,rfl⟩:=List.getElem_of_mem hs;exact(oH hf).2.2 k hk
  have e8:=T7 hf;have b3:=h1.2.2.2;have F:T=[]++qJ l.length l:=S;have m9:T.length<=64:=by rw[S];exact Nat.le_trans (MJ _ _) e8
  have HF:=aH hf;have i1:=aH F;have c8:=aH b3;have g8:=aH e5;have k1:=j9.below B aI;clear S h1 hf F b3 e5;have oz:=aM.lit0 (E:=3) (B:=w.heap.size) w1 B.size;go_wp2_with (at_builtin;refine mD rfl _ _ _ rfl 3 underlying25 aN w.heap.size _ [] rfl oz _ l rfl (k1.alloc _) aT (by first|omega|(simp;done)|(simp;omega)) ?_;intro v2 O o2 g2 n2);have b2:Below w w O:=(B.alloc B.size (.cells #[] 3)).grown g2 (by first|omega|(simp;done)|(simp;omega)) (fun q N=>(oz.lt q N).1);have bz:Below w1 w1 O:=(bF w1 (.cells #[] 3)).grown g2 (by simp) (fun q N=>by have o1:w1.heap.size=q:=Option.some.inj N;omega);have f2:=o0.keep bz;rw[List.nil_append]at o2;obtain⟨p5,p6,rfl⟩:=o2.ints.shape;clear o0 g2 n2;go_wp2_with fail;go_loopw [4,5] (fun ov rv wr=>∃(done:List (List Int)) (k:Nat) (rest:List Int) (oa:Option Addr) (oc:Nat) (ra:Option Addr) (rc:Nat),T=done++qJ k rest/\rest.length<=k/\k<=64/\(rest.Pairwise (· < ·)/\∀s∈rest,0<=s/\s<64)/\ov=aA oa done.length oc/\rv=aA ra rest.length rc/\aK wr (aA ra rest.length rc) rest/\cV 3 25 w.heap.size wr (aA oa done.length oc) done/\Below w w wr) (fun _ rv _=>lenOf rv)
  case atStart=>exact⟨[],l.length,l,_,_,_,_,i1.out,aI,e8,⟨c8.out,g8.out⟩,rfl,rfl,o2.ints,f2,b2⟩
  case round=>
   obtain⟨done,k,rest,oa,oc,ra,rc,Y,o3,l4,⟨ha,hm⟩,rfl,rfl,hr,ho,Bo⟩:=hrel;obtain⟨wo,rfl⟩:∃z:World,z=wr:=⟨_,rfl⟩;clear f2;by_cases J:0<rest.length
   ·have I:rest≠[]:=fun e=>by rw[e]at J;simp at J
    have c5:(0:Int)<(rest.length:Int):=aD;have hlt:=abT I ha hm;obtain⟨k',rfl⟩:∃k',k=k'+1:=⟨k-1,by omega⟩;have Z:T=(done++[jR rest])++qJ k' (qV rest):=by rw[Y,SE _ _ I,List.append_assoc];rfl
    have b7:=YE ha;have b9:∀s∈qV rest,0<=s/\s<64:=fun s hs=>hm s (MV hs);have n0:done.length<=64:=by have:=congrArg List.length Y;rw[List.length_append]at this;omega
    have a7:=wR rest _ wo hr hm aD;rw[SL rest ha (fun x S=>(hm x S).1)]at a7;have a8:qV rest=(rest.take rest.length).filter (fun s=>!gQ (jR rest) s):=by rw[List.take_length];rfl
    obtain⟨M,hM⟩:=aJ (jR rest);obtain⟨R,hR⟩:=aJ (qV rest);rw[<-hM]at a7 Z a8;rw[<-hR]at hlt Z b7 b9 a8;have i6:=aH Z;have h9:=aH a8;have h6:=aH (And.intro b7 b9);have h5:=aH a7;have HO:=aH ho;have HR:=aH hr;have h8:=aH hm;clear Y Z a8 b7 b9 a7 ho hM hR ha hm I;go_wp2_with fail;refine h5.out.mono ?_;rintro e O ⟨p2,i2,q2,rfl,o2,b2⟩;have j2:i2=M.length:=o2.ints.capLe.1;subst j2;have j6:=HR.out.keep b2;obtain⟨_,rb,l7,_,k0,_,e6,hc,hb⟩:=j6.view prog 25 3 underlying25 aN;injection k0 with x1 _ x3;subst x1 x3;have HC:=aH hc;have h0:=aH e6;have d0:=aH o2;have f3:=aM.lit0 (E:=3) (B:=O.heap.size) O aI;clear hc e6 o2;go_wp2_with fail;go_loopw [7,8] (fun lv i wr=>∃(j:Nat) (ad:Option Addr) (nn cp:Nat),j<=rest.length/\i=aG j/\lv=aA ad nn cp/\aM 3 O wr (aA ad nn cp) ((rest.take j).filter (fun s=>!gQ M s))/\Below O O wr) (fun _ i _=>rest.length-(intOf i).toNat)
    case atStart=>exact⟨0,_,_,_,Nat.zero_le _,rfl,rfl,f3,bF _ _⟩
    case round=>
     obtain⟨j,ad,nn,cp,hj,rfl,rfl,hw,Bi⟩:=hrel;obtain⟨wi,rfl⟩:∃z:World,z=wr:=⟨_,rfl⟩;have HW:=aH hw;have zi:=Bi.size;clear hw f3;by_cases a6:j<rest.length
     ·have e7:(j:Int)<(rest.length:Int):=aD;have ck:=aR HC.out hb Bi aI j a6;have ik:=fun W=>h0.out W j a6;have c6:=SU (fun s=>!gQ M s) rest j a6;have k3:=h8.out rest[j] (List.getElem_mem a6);have n3:((rest.take j).filter (fun s=>!gQ M s)).length<=64:=by have h1:=List.length_filter_le (fun s=>!gQ M s) (rest.take j);have h2:=List.length_take_le j rest;omega
      obtain⟨x,S⟩:=aJ (rest[j]);rw[<-S]at ck c6 k3;have b8:=qH M _ x wi (d0.out.ints.keep Bi);obtain⟨q,N⟩:=aJ (gQ M x);rw[<-N]at b8;have D:(rest.take (j+1)).filter (fun s=>!gQ M s)=(rest.take j).filter (fun s=>!gQ M s)++(if !q then [x] else []):=by rw[c6,N]
      have c9:=aH b8;clear c6 b8 S N
      cases q with
      |true=>
       rw[if_neg (by simp),List.append_nil]at D;have b6:=aH D;clear D;go_wp2_with (go_at_call 110;refine c9.out.mono ?_;rintro e w' ⟨rfl,rfl⟩);go_roundw
       case rel=>exact⟨j+1,ad,nn,cp,by omega,by go_num,rfl,by rw[b6.out];exact HW.out,Bi⟩
       case measure=>simp[intOf];omega
      |false=>
       rw[if_pos (by simp)]at D;have b6:=aH D;clear D;go_wp2_with (first
        |(go_at_call 110;refine c9.out.mono ?_;rintro e w' ⟨rfl,rfl⟩)
        |(at_builtin;refine dA rfl _ _ _ rfl 3 underlying25 aN O.heap.size _ _ x wi.heap.size rfl rfl (aZ wi #[x] 3 0 _ rfl) (HW.out.alloc _) ⟨by omega,by omega⟩ aD (by first|omega|(simp;done)|(simp;omega)) ?_;intro v' w6 b4 j1;obtain⟨av,nv,cv,rfl⟩:=b4.shape3))
       have B6:Below O O w6:=(Bi.alloc Bi.size (.cells #[x] 3)).grown j1 aT (fun q N=>(HW.out.lt q N).1);go_roundw
       case rel=>exact⟨j+1,av,nv,cv,by omega,by go_num,rfl,by rw[b6.out];exact b4,B6⟩
       case measure=>simp[intOf];omega
     ·have e7:¬(j:Int)<(rest.length:Int):=aD;have j3:j=rest.length:=aD;subst j3;have hw:=HW.out;rw[<-h9.out]at hw;have j4:nn=R.length:=hw.ints.capLe.1;subst j4;have i7:=aH hw;have e4:=b2.after Bi b2.size;have Bw:=Bo.after e4 Bo.size;have b5:=aH (HO.out.keep e4);have h7:=aH ((d0.out.keep Bi).mono Bo.size);clear hw;go_wp2_with (at_builtin;refine xF rfl _ _ _ rfl 3 25 yD underlying77 lY w.heap.size _ done (aA p2 M.length q2) M wi.heap.size rfl rfl (aZ wi #[aA p2 M.length q2] 25 0 _ rfl) ((b5.out).alloc _) (h7.out.alloc _) aD (by have:=Bw.size;simp;omega) ?_;intro v7 w7 o7 g7);have rO:=b5.out.lt;obtain⟨p7,f5⟩:=(b5.out.alloc (.cells #[aA p2 M.length q2] 25)).row;have k2:=(i7.out.alloc (.cells #[aA p2 M.length q2] 25)).growL f5 yD g7;have B7:Below w w w7:=(Bw.alloc Bw.size (.cells #[aA p2 M.length q2] 25)).grown g7 (by have:=Bw.size;simp;omega) (fun q N=>(rO q N).1);obtain⟨k5,k7,rfl,_⟩:=o7.len;have n1:(done++[M]).length=done.length+1:=by simp
      go_wp2_with fail;go_roundw
      case rel=>exact⟨done++[M],k',R,k5,k7,ad,cp,i6.out,by omega,by omega,h6.out,rfl,rfl,k2.ints,o7,B7⟩
      case measure=>simp[lenOf];omega
   ·have I:rest=[]:=by cases rest with
     |nil=>rfl
     |cons x r=>simp at J
    subst I;have c5:¬(0:Int)<(0:Int):=aD;rw[WT,List.append_nil]at Y;subst Y;go_wp2;go_ret2;exact⟨_,_,by rw[HF.out];rfl,ho,Bo⟩
theorem aM.litC{E:TypeId}{B:Nat}(w:World)(y:Int)(F:dL y)(hB:B<=w.heap.size):aM E B (w.alloc (.cells #[y] E)) (aA (some ⟨w,0,none⟩) 1 1) [y]:=
 ⟨World.ownsRow_lit w #[y] 1 hB aQ rfl,by intro z D;rw[List.mem_singleton]at D;subst D;exact F⟩
theorem ak8(x y:Int)(r:List Int)(z:0<=x):H6 (y::r) x=(bB x y==x):=by
 show(cG x y==0)=_;rw[<-ME z,Bool.eq_iff_iff,beq_iff_eq,beq_iff_eq];constructor<;>intro h<;>omega
theorem akL(w:World)(g:Int)(v:Value)(l:List Int)(hv:aK w v l):
  Calls prog 69 #[.agg #[g,v]] w fun e w'=>∃ad i cp,e=.returned (.tuple #[aA ad i cp,.bool (aU g l)])/\aM 3 w w' (aA ad i cp) (yQ g l)/\Below w w w':=by
 have i7:=hv;obtain⟨a,c,rfl⟩:=hv.shape;obtain⟨T,hT⟩:=aJ (yQ g l);have a8:=tH g l;have O:=OE g l;have b4:T=yP (eA g l) (eA g l).length []:=hT;have a1:=agK (w.alloc (.cells #[g,aA a l.length c] 29)) g _ l (i7.alloc _);rw[<-hT];obtain⟨S,e0⟩:=aJ (eA g l);rw[<-e0]at a8 O b4 a1;obtain⟨bf,c8⟩:=aJ (aU g l);rw[<-c8]at a1 ⊢;have g2:=aH b4;have HM:=aH O;have f6:=aH a1;clear hT b4 O a1 e0 c8;go_enter func69,ntmps69;go_wp2_with fail;refine f6.out.mono ?_;rintro e K ⟨ad,cp,rfl,d0,b2⟩;have B2:Below w w K:=(bF _ _).after b2 (by simp);have f5:=aH (d0.mono (show w.heap.size<=_ by simp));clear b2 d0;have l6:IntKind.i64.wrap ((S.length:Int)-1)=(S.length:Int)-1:=by rw[IntKind.wrap_i64];omega
 have o0:=aM.lit0 (E:=3) (B:=K.heap.size) K aI;go_wp2_with fail;go_loopw [6,7] (fun ov iv wr=>∃(i:Nat) (out:List Int) (p:Option Addr) (q:Nat),i<=S.length/\iv=aG ((i:Int)-1)/\ov=aA p out.length q/\aM 3 K wr (aA p out.length q) out/\out.length+i<=64/\yP S i out=T/\(∀x∈out,0<=x/\x<64)/\Below K K wr) (fun _ iv _=>(intOf iv+1).toNat)
 case atStart=>exact⟨S.length,[],_,_,aI,rfl,rfl,o0,by simpa using a8,g2.out.symm,by simp,bF _ _⟩
 case round=>
  obtain⟨i,out,p,q,hi,rfl,rfl,ho,i1,Y,e7,J⟩:=hrel;obtain⟨wo,rfl⟩:∃z:World,z=wr:=⟨_,rfl⟩;clear o0
  cases i with
  |zero=>have F:out=T:=Y;subst F;have j9:¬(0:Int)<=((0:Nat):Int)-1:=aD;clear Y;go_wp2;go_ret2;exact⟨_,_,_,rfl,ho.mono B2.size,B2.after J B2.size⟩
  |succ i=>
   have h7:((i+1:Nat):Int)-1=(i:Int):=aD;rw[h7];have hlt:i<S.length:=aD;have l5:IntKind.i64.wrap ((i:Int)-1)=(i:Int)-1:=by rw[IntKind.wrap_i64];omega
   have F:=afB S i hlt out;rw[Y]at F;obtain⟨gg,u,l1,l0,a6⟩:=(f5.out.keep J).view prog 77 underlying77 lY i hlt;have hM:=HM.out S[i] (List.getElem_mem hlt);obtain⟨M,c7⟩:=aJ (S[i]);rw[<-c7]at F a6 hM;obtain⟨am,cm,rfl⟩:=a6.shape;obtain⟨_,mb,k3,_,b7,_,a9,e4,l2⟩:=a6.ints.view prog 25 3 underlying25 aN;injection b7 with x1 _ x3;subst x1 x3;have f7:=aH e4;have f9:=aH a9;have f8:=aH hM.2;have b9:=aH F;have HO:=aH ho;have b3:=aH e7;clear e4 a9 hM Y F ho e7 c7 a6;go_wp2_with fail;go_loopw [6,8] (fun ov iv wi=>∃(j n:Nat),j<=M.length/\ov=aA p out.length q/\iv=aG j/\lS (M.drop j) out=lS M out/\wi=wo.drewN n) (fun _ iv _=>M.length-(intOf iv).toNat)
   case atStart=>exact⟨0,0,Nat.zero_le _,rfl,rfl,rfl,rfl⟩
   case round=>
    obtain⟨j,n,hj,rfl,rfl,R,rfl⟩:=hrel;by_cases Z:j<M.length
    ·have c9:(j:Int)<(M.length:Int):=aD;have ck:=f7.out j Z;have ik:=fun W=>f9.out W j Z;have a7:=f8.out M[j] (List.getElem_mem Z);have N:=YP M j Z out;rw[R]at N;obtain⟨x,hx⟩:=aJ (M[j]);rw[<-hx]at ck a7 N;clear hx R;have b1:H6 out x=true->yP S i (x::out)=T:=fun h=>by rw[b9.out,N,h];rfl
     have e5:H6 out x=false->lS (M.drop (j+1)) out=lS M out:=fun h=>by rw[N,h];rfl
     have HY:=aH b1;have HN:=aH e5;have e8:∀y∈x::out,0<=y/\y<64:=fun y hy=>by
      rcases List.mem_cons.1 hy with e|h
      ·rw[e];exact a7
      ·exact b3.out y h
     have c5:=aH e8;have e9:dL x:=⟨by omega,by omega⟩;have c6:=aH e9;have hL:[x].length+out.length<=17592186044416:=by simp;omega
     have HL:=aH hL;have zo:=J.size;clear N b1 e5 e8 e9 hL
     cases out with
     |nil=>
      go_wp2_with fail;go_quiet (fail);go_wp2_with (at_builtin;refine mD rfl _ _ _ rfl 3 underlying25 aN K.heap.size _ [x] rfl (aM.litC _ x c6.out (by have:=J.size;simp;omega)) _ _ rfl ((HO.out.ints.drewN _).alloc _) HL.out (by have:=J.size;simp;omega) ?_;intro v' w6 D b5 _;obtain⟨av,nv,cv,rfl⟩:=D.shape3);have B6:Below K K w6:=((J.drewN' _).alloc (J.drewN' _).size (.cells #[x] 3)).grown b5 (by have:=J.size;simp;omega) (fun q hq=>by have e:=Option.some.inj hq;have:=J.size;simp at e;omega);have b6:nv=1:=by have:=D.ints.capLe.1;simpa using this
      subst b6;go_roundw
      case rel=>exact⟨i,[x],av,cv,by omega,by go_num,rfl,D,by simp;omega,HY.out rfl,c5.out,B6⟩
      case measure=>simp[intOf]
     |cons y r=>
      have i8:=b3.out y (by simp);obtain⟨_,ob,f0,_,b7,_,b0,e6,l4⟩:=HO.out.ints.view prog 25 3 underlying25 aN;injection b7 with x1 _ x3;subst x1 x3;have oc:=e6 0 (by simp);have oi:∀w',(Instr.indexAt 25 (aA p (r.length+1) q) (aG 0)).run prog w'=.ok (.pointer (some ⟨ob,f0,none⟩)) w':=fun w'=>by have:=b0 w' 0 (by simp);simpa using this
      rw[Nat.add_zero]at oc;simp only[List.getElem_cons_zero]at oc;have l8:((y::r).length:Int)=(r.length:Int)+1:=by simp
      have l3:((r.length:Int)+1==0)=false:=by simp;omega
      have h6:bits .and .i64 x y=bB x y:=dU a7.1 aD i8.1 aD;have I:=ak8 x y r a7.1;obtain⟨z,hz⟩:=aJ (bB x y);rw[<-hz]at h6 I;clear hz e6 b0
      cases h0:z==x with
      |false=>
       have hN:=HN.out (by rw[I,h0]);have g0:=aH hN;clear hN I;go_wp2_with fail;go_quiet (fail);go_wp2;go_roundw
       case rel=>exact⟨j+1,n+nq,by omega,rfl,by go_num,g0.out,by simp⟩
       case measure=>simp[intOf];omega
      |true=>
       have hY:=HY.out (by rw[I,h0]);have g5:=aH hY;clear hY I;go_wp2_with fail;go_quiet (fail);go_wp2_with (at_builtin;refine mD rfl _ _ _ rfl 3 underlying25 aN K.heap.size _ [x] rfl (aM.litC _ x c6.out (by have:=J.size;simp;omega)) _ _ rfl ((HO.out.ints.drewN _).alloc _) HL.out (by have:=J.size;simp;omega) ?_;intro v' w6 D b5 _;obtain⟨av,nv,cv,rfl⟩:=D.shape3);have B6:Below K K w6:=((J.drewN' _).alloc (J.drewN' _).size (.cells #[x] 3)).grown b5 (by have:=J.size;simp;omega) (fun q hq=>by have e:=Option.some.inj hq;have:=J.size;simp at e;omega);have b6:nv=(x::y::r).length:=by have:=D.ints.capLe.1;simpa using this
       subst b6;go_roundw
       case rel=>exact⟨i,x::y::r,av,cv,by omega,by go_num,rfl,D,by simp at i1 ⊢;omega,g5.out,c5.out,B6⟩
       case measure=>simp[intOf]
    ·have c9:¬(j:Int)<(M.length:Int):=aD;have h8:j=M.length:=aD;subst h8;rw[S0]at R;have hC:yP S i out=T:=by rw[b9.out,<-R]
     have HC:=aH hC;clear hC R;go_wp2;go_roundw
     case rel=>exact⟨i,out,p,q,by omega,by go_num,rfl,HO.out.drewN _,by omega,HC.out,b3.out,J.drewN' _⟩
     case measure=>simp[intOf]
theorem XA{p:Prop}(h:p:=by
  go_round
  case rel=>exact⟨k+1,by omega,by go_num,by rw[H1.out],by rw[H2.out]⟩
  case measure=>simp[intOf];omega):p:=h
theorem ajV(p:List Int)(v:Value)(s:Nat)(w:World)(hv:aK w v p)(e4:p.length<=6)(a6:∀x∈p,0<=x/\x<6)(hs:s<64):
  Calls prog 157 #[v,(s:Int)] w fun e w'=>e=.returned (.tuple #[(rH p s p.length),(wK p s p.length),.bool (decide (0<=rH p s p.length)&&xC p s)])/\w=w':=by
 obtain⟨a,b,e6,c,rfl,b8,Z,hc,hb⟩:=hv.view prog 25 3 underlying25 aN;have HC:=aH hc;have a8:=aH Z;have a9:=aH a6;have R:=aH (lQ s w aD);clear hc Z a6;go_enter func157,ntmps157;go_wp2;go_loop [7,8,9] (fun fi la i=>∃k:Nat,k<=p.length/\i=aG k/\fi=aG (rH p s k)/\la=aG (wK p s k)) (fun _ _ i=>p.length-(intOf i).toNat)
 case atStart=>exact⟨0,Nat.zero_le _,rfl,rfl,rfl⟩
 case round=>
  obtain⟨k,hk,rfl,rfl,rfl⟩:=hrel;by_cases hlt:k<p.length
  ·have a1:(k:Int)<(p.length:Int):=aD;have ck:=HC.out k hlt;have ik:=fun W=>a8.out W k hlt;have hm:=a9.out _ (List.getElem_mem hlt);have h1:=FJ p s k;have h2:=M1 p s k;have h3:=O5 p s k;obtain⟨e,he⟩:∃e:Nat,p[k]=(e:Int):=⟨p[k].toNat,by omega⟩;have Y:KY p s k=cZ s e:=by unfold KY;rw[List.getD_eq_getElem?_getD,List.getElem?_eq_getElem hlt,Option.getD_some,he,Int.toNat_natCast]
   rw[he]at ck hm;rw[Y]at h1 h2;have c9:e<6:=aD;have S:=jN (s:Int) e aD aD;have D:=oP s e;obtain⟨y,hy⟩:=aJ (dI (s:Int) e);rw[<-hy]at S D;have hp:=cJ e 6 aD;have d0:(2:Int)^e<=64:=by simpa using hp.1
   have e0:=hp.2;obtain⟨F,K⟩:=aJ (rH p s k);obtain⟨L,M⟩:=aJ (wK p s k);rw[<-K]at h1 h3 ⊢;rw[<-M]at h2 ⊢;clear hp hy Y he hm K M
   cases z:cZ s e with
   |false=>
    have b6:(y==1)=false:=by rw[D,z]
    rw[z,Bool.false_and,if_neg (by simp)]at h1;rw[z,if_neg (by simp)]at h2;have H1:=aH h1;have H2:=aH h2;clear z D h1 h2;go_wp2;exact XA
   |true=>
    have b6:(y==1)=true:=by rw[D,z]
    rw[z,Bool.true_and]at h1;rw[z,if_pos rfl]at h2;have H2:=aH h2;clear z D h2;by_cases I:F<0
    ·rw[decide_eq_true I,if_pos rfl]at h1;have H1:=aH h1;clear h1;go_wp2;exact XA
    ·rw[decide_eq_false I,if_neg (by simp)]at h1;have H1:=aH h1;clear h1;go_wp2;exact XA
  ·have b3:k=p.length:=aD;have a1:¬(k:Int)<(p.length:Int):=aD;have h3:=O5 p s p.length;have h4:=ajS p s p.length;have N:xC p s=decide (wK p s p.length-rH p s p.length+1=(bY s:Int)):=rfl;subst b3;obtain⟨F,K⟩:=aJ (rH p s p.length);obtain⟨L,M⟩:=aJ (wK p s p.length);rw[<-K,<-M]at N ⊢;rw[<-K]at h3;rw[<-M]at h4;have e8:IntKind.i64.wrap (L-F)=L-F:=by rw[IntKind.wrap_i64];omega
   have e9:IntKind.i64.wrap (L-F+1)=L-F+1:=by rw[IntKind.wrap_i64];omega
   have b0:(L-F+1==(bY s:Int))=xC p s:=by rw[N];by_cases h:L-F+1=(bY s:Int)<;>simp[h]
   obtain⟨o,ho⟩:=aJ (xC p s);rw[<-ho]at b0;have O:=aH (And.intro K (And.intro M ho));clear N K M ho;by_cases J:0<=F
   ·go_wp2_with (go_at_call 84;refine R.out.mono ?_;rintro e w3 ⟨rfl,rfl⟩);go_ret3;exact⟨by rw[<-O.out.1,<-O.out.2.1,<-O.out.2.2,decide_eq_true J];rfl,rfl⟩
   ·have HD:=aH (decide_eq_false J);go_wp2_with (go_at_call 84;refine R.out.mono ?_;rintro e w3 ⟨rfl,rfl⟩);go_ret3;exact⟨by rw[<-O.out.1,<-O.out.2.1,<-O.out.2.2,HD.out];rfl,rfl⟩
theorem ahT{p:Prop}(h:p:=by
  have b7:=aH b0;clear b0;go_wp2_with (go_at_call 157;refine J.out.mono ?_;rintro e w3 ⟨rfl,rfl⟩;rw[b7.out]);go_round
  case rel=>exact⟨k+1,by omega,by go_num,R.out D.out⟩
  case measure=>simp[intOf];omega):p:=h
theorem afU(N:Nat)(hN:N<=6)(l p:List Int)(v u:Value)(w:World)(hv:aK w v l)(hu:aK w u p)(c6:p.length<=6)(a8:∀x∈p,0<=x/\x<6)(a9:∀e,e<N->(e:Int)∈p)(Z:∀s∈l,0<=s/\s<2^N):
  Calls prog 115 #[v,u] w fun e w'=>e=.returned (.bool (mE l p))/\w=w':=by
 obtain⟨a,b,f5,c,rfl,e0,S,hc,hb⟩:=hv.view prog 25 3 underlying25 aN;have e9:(2:Int)^N<=64:=by have:=(cJ N 6 hN).1;simpa using this
 have b1:=fun(s:Nat) (hs:s<64)=>ajV p _ s _ hu c6 a8 hs;obtain⟨a',c',rfl⟩:=hu.shape;have HC:=aH hc;have b3:=aH S;have b4:=aH Z;have b8:=aH b1;have b6:=aH a9;clear hc S Z b1 a8 a9;go_enter func115,ntmps115;go_wp2;go_loop [5] (fun i=>∃k:Nat,k<=l.length/\i=aG k/\(∀j,(Y:j<l.length)->j<k->oW p l[j]=true)) (fun i=>l.length-(intOf i).toNat)
 case atStart=>exact⟨0,Nat.zero_le _,rfl,by intros;omega⟩
 case round=>
  obtain⟨k,hk,rfl,I⟩:=hrel;have HY:=aH I;clear I;by_cases hlt:k<l.length
  ·have a1:(k:Int)<(l.length:Int):=aD;have ck:=HC.out k hlt;have ik:=fun W=>b3.out W k hlt;have hm:=b4.out _ (List.getElem_mem hlt);obtain⟨s,M⟩:∃s:Nat,l[k]=(s:Int):=⟨l[k].toNat,by omega⟩;have z:oW p l[k]=((s:Int)==0||xC p s):=by unfold oW;rw[M,Int.toNat_natCast]
   have O:=b8.out s aD;have F:((s:Int)==0)=false->decide (0<=rH p s p.length)=true:=fun h=>by
    have K:s≠0:=fun e=>by rw[e]at h;exact Bool.noConfusion h
    have:((2^N:Nat):Int)=(2:Int)^N:=by simp
    exact decide_eq_true (ak7 hN b6.out s aD K)
   have a6:oW p l[k]=false->mE l p=false:=fun h=>by unfold mE;rw[List.all_eq_false];exact⟨l[k],List.getElem_mem hlt,by rw[h];simp⟩
   have a7:oW p l[k]=true->∀j,(Y:j<l.length)->j<k+1->oW p l[j]=true:=fun h j Y f0=>by
    by_cases e:j=k
    ·subst e;exact h
    ·exact HY.out j Y aD
   rw[M]at ck;obtain⟨o,ho⟩:=aJ (xC p s);obtain⟨q,hq⟩:=aJ (decide (0<=rH p s p.length));rw[<-ho]at z;rw[<-ho,<-hq]at O;rw[<-hq]at F;have b5:=aH a6;have R:=aH a7;have J:=aH O;clear a6 a7 O ho M hm hq
   cases K:((s:Int)==0) with
   |true=>
    have b9:((s:Int) != 0)=false:=by simp[bne,K]
    rw[K,Bool.true_or]at z;have D:=aH z;clear z F
    cases b0:(q&&o) with
    |true=>exact ahT
    |false=>exact ahT
   |false=>
    have b9:((s:Int) != 0)=true:=by simp[bne,K]
    have c8:=F K;subst c8;rw[K,Bool.false_or]at z;have D:=aH z;clear z F
    cases o with
    |true=>
     go_wp2_with (go_at_call 157;refine J.out.mono ?_;rintro e w3 ⟨rfl,rfl⟩);go_round
     case rel=>exact⟨k+1,by omega,by go_num,R.out D.out⟩
     case measure=>simp[intOf];omega
    |false=>go_wp2_with (go_at_call 157;refine J.out.mono ?_;rintro e w3 ⟨rfl,rfl⟩);go_ret;exact⟨by rw[b5.out D.out];rfl,rfl⟩
  ·have a1:¬(k:Int)<(l.length:Int):=aD;have hr:mE l p=true:=by unfold mE;rw[List.all_eq_true];intro x hx;obtain⟨j,Y,rfl⟩:=List.getElem_of_mem hx;exact HY.out j Y aD
   have HR:=aH hr;clear hr;go_wp2;go_ret;exact⟨by rw[HR.out];rfl,rfl⟩
theorem ar1(w:World)(g:Int)(v:Value)(l:List Int)(hv:aK w v l):
  Calls prog 72 #[.agg #[g,v]] w fun e w'=>∃ad i cp,e=.returned (.tuple #[aA ad i cp,.bool (AK g l)])/\aM 3 w w' (aA ad i cp) (oK g l)/\Below w w w':=by
 have g5:=hv;obtain⟨a,c,rfl⟩:=hv.shape;go_enter func72,ntmps72;go_wp2_with fail;refine bU ?_;intro V hV;have B:Below w w V:=gY hV;have K:aP V w 29 #[g,aA a l.length c]:=gJ hV;clear hV;refine(cK g l _ V (hv.below B aI)).mono ?_;rintro e w1 ⟨rfl,b1⟩;have K:=K.keep b1;have B:=B.after b1 B.size;have G:=K.cell;have z:=K.lt
 cases hf:aU g l with
 |false=>
  have hx:AK g l=false/\oK g l=[]:=by unfold AK oK;rw[hf];exact⟨rfl,rfl⟩
  have HX:=aH hx;have o0:=aM.lit0 (E:=3) (B:=w.heap.size) w1 B.size;clear hx hf;go_wp2;go_ret2;exact⟨_,_,_,by rw[HX.out.1];rfl,by rw[HX.out.2];exact o0,B.alloc B.size _⟩
 |true=>
  obtain⟨j1,j2,c7,_⟩:=dB hf;obtain⟨N,rfl⟩:∃N:Nat,g=N:=⟨g.toNat,by omega⟩;have J:=uI N N;have hR:yT (N:Int) l=(cY N N).find? (mE l):=by unfold yT;rw[Int.toNat_natCast]
  have hB:AK (N:Int) l=(yT (N:Int) l).isSome:=by unfold AK;rw[hf];rfl
  have hL:oK (N:Int) l=(yT (N:Int) l).getD []:=by unfold oK;rw[hf];rfl
  have a6:=TS N aD N [] (aA (some ⟨w1,0,none⟩) 0 0) (w1.alloc (.cells #[] 3)) w1.heap.size (by simp) (aM.lit0 w1 aI) (by simp);rw[al3]at a6;have b7:=aH a6;clear a6;obtain⟨D,Y⟩:=aJ (cY N N);have R:=Y;have c8:=AU N aD N;have f5:(6:Nat)^N<=6^6:=Nat.pow_le_pow_right aQ aD;rw[<-Y]at hR J b7 c8;have h6:D.length<=46656:=aD;have b9:=aH hR;have b0:=aH hB;have b4:=aH hL;have f0:=aH J;have e9:=aH (show ∀s∈l,0<=s/\s<(2:Int)^N from fun s hs=>by have:=c7 s hs;rw[Int.toNat_natCast]at this;exact this);have b8:=aH (show ∀p∈cY N N,∀e,e<N->(e:Int)∈p from fun p hp e he=>ai4 aD hp he);rw[<-R]at b8;clear hf c7 J hR hB hL Y R c8 f5;go_wp2_with fail;refine b7.out.mono ?_;rintro e w2 ⟨pO,iO,qO,rfl,oO,b2⟩;obtain⟨_,_,e4,_⟩:=oO.len;have f9:iO=D.length:=by injection e4
  subst f9;have z1:=B.size;have Bx:=B.alloc B.size (.cells #[] 3);have K:=(K.alloc (.cells #[] 3)).keep b2;have B:=Bx.after b2 Bx.size;clear G z e4;have zk:=K.lt;go_wp2_with fail;go_loopw [5] (fun i wr=>∃k:Nat,k<=D.length/\i=aG k/\(∀j,(hj:j<D.length)->j<k->mE l D[j]=false)/\Below w2 w2 wr) (fun i _=>D.length-(intOf i).toNat)
  case atStart=>exact⟨0,Nat.zero_le _,rfl,by intros;omega,Below.refl _ _⟩
  case round=>
   obtain⟨k,hk,rfl,d0,Br⟩:=hrel;obtain⟨wo,rfl⟩:∃z:World,z=wr:=⟨_,rfl⟩;have HN:=aH d0;clear d0;have Bw:=B.after Br B.size;by_cases hlt:k<D.length
   ·have c9:(k:Int)<(D.length:Int):=aD;obtain⟨gg,u,j3,F,hu⟩:=(oO.keep Br).view prog 77 underlying77 lY k hlt;have hm:=f0.out _ (List.getElem_mem hlt);have O:=fun y:Ext wo=>afU N aD l D[k] _ _ y.w (y.ints (g5.below Bw aI)) (y.ints hu.ints) aD (fun x hx=>by have:=hm.2 x hx;omega) (fun e he=>b8.out _ (List.getElem_mem hlt) e he) e9.out;have I:mE l D[k]=true->yT (N:Int) l=some D[k]:=fun h=>by rw[b9.out];exact VS k hlt HN.out h
    have Z:mE l D[k]=false->∀j,(hj:j<D.length)->j<k+1->mE l D[j]=false:=fun h j hj j4=>by
     by_cases e:j=k
     ·subst e;exact h
     ·exact HN.out j hj aD
    have b6:=aH Z;obtain⟨p,hp⟩:=aJ (D[k]);simp only[<-hp]at O;rw[<-hp]at I hu Z b6;obtain⟨o,ho⟩:=aJ (mE l p);simp only[<-ho]at O;have M:=aH O;have b3:=aH I;have S:=aH ho;have HU:=aH (hu.mono (show w.heap.size<=w1.heap.size from z1));obtain⟨ua,un,uc,rfl⟩:=hu.shape3;have Kw:=K.keep Br;have G:=Kw.cell;have zz:=Kw.lt;clear Z I O ho hp hm hu;have a1:=Kw.cell 1;simp only[List.getElem?_toArray,List.getElem?_cons_zero,List.getElem?_cons_succ]at a1;have p1:∀y:Ext wo,y.w.cell? ⟨w.heap.size,1,none⟩=some (aA a l.length c):=fun y=>y.cell a1;have p2:∀y:Ext wo,y.w.cell? ⟨gg,k,none⟩=some (aA ua un uc):=fun y=>y.cell F;clear a1
    cases o with
    |true=>
     go_wp2_with fail;refine bH _ aO aO ?_
     repeat(first|go_big_quiet_skip|(go_big_quiet_want;go_big_quiet_op;first|go_big_quiet_on|(apply Exists.intro;refine⟨fun _=>?_,?_⟩;(go_at_call 115;exact dN (M.out _));go_big_quiet_on)))
     refine wpQuiet_nil ?_;rintro w5 ⟨⟨w5,b5⟩,rfl⟩
     try dsimp only
     have p3:=(Ext.mk w5 b5).cell F;clear p1 p2 M G zz;go_wp2;go_ret2;exact⟨ua,un,uc,by rw[b0.out,b3.out S.out.symm];rfl,by rw[b4.out,b3.out S.out.symm];exact HU.out.keep b5,Bw.after b5 Bw.size⟩
    |false=>
     go_wp2_with fail;refine bH _ aO aO ?_
     repeat(first|go_big_quiet_skip|(go_big_quiet_want;go_big_quiet_op;first|go_big_quiet_on|(apply Exists.intro;refine⟨fun _=>?_,?_⟩;(go_at_call 115;exact dN (M.out _));go_big_quiet_on)))
     refine wpQuiet_nil ?_;rintro w5 ⟨⟨w5,b5⟩,rfl⟩
     try dsimp only
     clear p1 p2 M G zz;go_wp2;go_roundw
     case rel=>exact⟨k+1,by omega,by go_num,b6.out S.out.symm,Br.after b5 Br.size⟩
     case measure=>simp[intOf];omega
   ·have c9:¬(k:Int)<(D.length:Int):=aD;have hr:yT (N:Int) l=none:=by rw[b9.out];exact RX (fun j hj=>HN.out j hj aD)
    have HR:=aH hr;have o0:=aM.lit0 (E:=3) (B:=w.heap.size) wo Bw.size;clear hr;go_wp2;go_ret2;exact⟨_,_,_,by rw[b0.out,HR.out];rfl,by rw[b4.out,HR.out];exact o0,Bw.alloc Bw.size _⟩
end
end Go.Proofs.YtkdbkjjacgigiaaGreatDoor
section
namespace Go.G5
open Go Go.RowKit
def wL(w:World)(v:Value)(l:List Nat):Prop:=
 ∃a c,v=aA a l.length c/\l.length<=c/\c<=maxLen/\(∀x∈l,x<256) /\
  (l=[]∨∃b z,a=some ⟨b,z,none⟩/\b<w.heap.size/\∀k,(h:k<l.length)->w.cell? ⟨b,z+k,none⟩=some (.int .u8 (l[k]:Int)))
structure ByteElem (P:Program) (E:TypeId):Prop where
 info:(P.info? E).map (fun i=>(i.zero,i.size,i.bytes))=some (some (.int .u8 0),1,1)
theorem ByteElem.get{P:Program}{E:TypeId}(h:ByteElem P E):∃i,P.info? E=some i/\i.zero=some (.int .u8 0)/\i.size=1/\i.bytes=1:=by
 exact W6
theorem wL.view{w:World}{v:Value}{l:List Nat}(h:wL w v l)(P:Program)(T E:TypeId)(I:P.underlying T=some (.slice E))(K:ByteElem P E):
  ∃a b z c,v=aA a l.length c/\l.length<=9223372036854775807 /\
   (∀(w':World) (k:Nat),k<l.length->(Instr.indexAt T (aA a l.length c) (aG (k:Int))).run P w'=.ok (.pointer (some ⟨b,z+k,none⟩)) w') /\
   (∀k,(h:k<l.length)->w.cell? ⟨b,z+k,none⟩=some (.int .u8 (l[k]:Int)))/\(l≠[]->b<w.heap.size/\a=some ⟨b,z,none⟩)/\(∀x∈l,x<256):=by
 obtain⟨a,c,rfl,h1,h2,h3,h4⟩:=h;have F:P.elem T=E:=by simp[Program.elem,I]
 obtain⟨i,J,_,D,_⟩:=K.get;rcases h4 with rfl|⟨b,z,rfl,hb,hc⟩
 ·exact⟨a,0,0,c,rfl,by simp,fun w' k hk=>by simp at hk,fun k hk=>by simp at hk,fun h=>absurd rfl h,h3⟩
 ·refine⟨_,b,z,c,rfl,by unfold maxLen at h2;omega,fun w' k hk=>?_,hc,fun _=>⟨hb,rfl⟩,h3⟩;rw[run_indexAt_slice w' T ⟨b,z,none⟩ l.length c .i64 k (by rw[F];exact I),if_pos ⟨by omega,by omega⟩,F];simp[sizeOf,typeInfo,J,D,Addr.add]
theorem wL.below{B:Nat}{w w':World}{v:Value}{l:List Nat}(h:wL w v l)(hb:Below B w w')(hB:w.heap.size<=B):wL w' v l:=by
 exact ahF
theorem wL.grow{w w':World}{row:Option Nat}{v:Value}{l:List Nat}(h:wL w v l)(F:w.grownBy w' row)(D:l≠[]->∀b z n c,v=.slice (some ⟨b,z,none⟩) n c->row≠some b):wL w' v l:=by
 obtain⟨a,c,rfl,h1,h2,h3,h4⟩:=h;refine⟨a,c,rfl,h1,h2,h3,?_⟩;rcases h4 with rfl|⟨b,z,rfl,hlt,hc⟩
 ·exact .inl rfl
 ·refine .inr ⟨b,z,rfl,Nat.lt_of_lt_of_le hlt F.size,fun k hk=>?_⟩;exact grown_keep F (hc k hk) (fun q I e=>D (fun e2=>by rw[e2]at hk;simp at hk) b z _ c rfl (by rw[I,<-e]))
end Go.G5
namespace Go.Proofs.YtkdbkjjacgigiaaGreatDoor
open Go.RowKit Go.G5 Go.Proofs.Tryz
theorem akG:ByteElem prog 5:=⟨by kernel_rfl⟩
end Go.Proofs.YtkdbkjjacgigiaaGreatDoor
end
namespace Go.Proofs.YtkdbkjjacgigiaaGreatDoor
section
open Go.Proofs.Tryz
open Go.ChangeShapes Go.WideShapes Go.ChangeAt Go.RowKit Go.G5
set_option maxRecDepth 100000
theorem jS:ownKnob prog.godebug=none:=aO
theorem aoK:laidOutB prog=true:=aO
section
variable {H:Type} {enc:TypeId×Value->H} {P:Program} {w:World} {base:Nat} {spare:Nat->Bool} {held:Bool}
theorem adM{w:World}{a:Addr}{v:Value}(h:w.cell? a=some v):a.block<w.heap.size:=World.block_lt_of_cell? w a h
theorem YO{w:World}{a:Addr}{v:Value}(h:w.cell? a=some v):a.spot=none:=by
 unfold World.cell? at h
 split at h
 ·split at h
  ·simp at h
  ·rename_i z;simpa using z
 ·simp at h
end
theorem LJ{H:Type}{enc:TypeId×Value->H}{P:Program}{w:World}{base:Nat}{spare:Nat->Bool}{held:Bool}:
  ∀{ts:List TypeId} {I:List Value} {z:List (DataW H)} {F:List MemPlace},DataW.TrodAll enc P w base spare held ts I z F->z.length=ts.length
 |[],_,_,_,h=>by
  obtain⟨rfl,rfl,rfl⟩:=trodAll_nil h
  rfl
 |t::ts,_,_,_,h=>by obtain⟨v,J,d,D,a,b,rfl,rfl,rfl,h1,h2⟩:=trodAll_cons h;simp[LJ h2]
theorem FY{H:Type}{enc:TypeId×Value->H}{P:Program}(hl:laidOutB P=true){W W':World}(hb:Below W W W'):
  ∀{ts:List TypeId} {I:List Value} {F:List (DataW H)} {D:List MemPlace},(ts.all fun t=>P.readableRec t&&decide (t<P.types.size))=true ->
   DataW.TrodAll enc P W 0 (fun _=>true) true ts I F D->(∀x∈D,x.block<W.heap.size)->DataW.TrodAll enc P W' 0 (fun b=>decide (b<W.heap.size)) true ts I F D
 |[],_,_,_,_,h,_=>by obtain⟨rfl,rfl,rfl⟩:=trodAll_nil h;exact trodAll_mk0
 |t::ts,_,_,_,hr,h,hlt=>by obtain⟨v,K,d,J,a,b,rfl,rfl,rfl,h1,h2⟩:=trodAll_cons h;simp only[List.all_cons,Bool.and_eq_true,decide_eq_true_eq]at hr;exact trodAll_cons_mk (Below.trod hl hr.1.1 hr.1.2 h1 hb fun x z=>hlt x (by simp[z])) (FY hl hb (by simpa using hr.2) h2 fun x z=>hlt x (by simp[z]))
section
variable {H:Type} {enc:TypeId×Value->H} {W:World} {base:Nat} {v:Value} {d:DataW H} {p:List MemPlace}
end
end
section
open Go.Proofs.Tryz
open Go.ChangeShapes Go.WideShapes Go.ChangeAt Go.RowKit Go.G5
set_option maxRecDepth 100000
theorem akJ:prog.cellsOf 5=1:=aO
theorem YY{n:Int}(h:(Lit.int .u8 n).wf=true):0<=n/\n<256:=by
 simp only[Lit.wf,Bool.and_eq_true,decide_eq_true_eq]at h;have h1:=h.1;have h2:=h.2;simp[IntKind.min,IntKind.max,IntKind.signed,IntKind.bits]at h1 h2;exact⟨by omega,by omega⟩
theorem ajK{H:Type}{enc:TypeId×Value->H}{w:World}{base:Nat}{spare:Nat->Bool}{held:Bool}{fuel:Nat}{c:Value}{x:DataW H×List MemPlace}(h:DataW.trod enc prog w base spare held fuel 22 [c]=some x):∃l,wL w c l:=by
 rcases open_ints underlying22 underlying5 akJ h with⟨F,_⟩|⟨a,len,cap,I,F,_,S,M,Y,_,D,O⟩
 ·simp at F;subst F;exact⟨[],none,0,rfl,aI,Nat.zero_le _,by simp,.inl rfl⟩
 ·simp at F;subst F;have a7:len<=I.length:=by rw[Y];split<;>omega
  have J:((I.take len).map Int.toNat).length=len:=by simp;omega
  refine⟨(I.take len).map Int.toNat,some a,cap,by rw[J],by rw[J];exact S,M,fun y hy=>?_,?_⟩
  ·obtain⟨z,Z,rfl⟩:=List.mem_map.1 hy;have:=YY (O z (List.mem_of_mem_take Z));omega
  ·by_cases h0:len=0
   ·left;subst h0;simp
   ·right
    have K:=D 0 aD;have hs:=YO K;have hb:=adM K;simp[Addr.add]at hs hb;refine⟨a.block,a.off,by cases a;simp_all,hb,fun k hk=>?_⟩;rw[J]at hk;have:=D k aD;have e:(a.add k)=⟨a.block,a.off+k,none⟩:=by
     unfold Addr.add;by_cases N:k=0
     ·subst N;cases a;simp_all
     ·simp[N]
    rw[e]at this;rw[this];have Z:=YY (O I[k] (List.getElem_mem _));have hg:I.getD k 0=I[k]:=by simp[List.getD_eq_getElem?_getD,List.getElem?_eq_getElem (show k<I.length by omega)]
    have R:((I.take len).map Int.toNat)[k]=I[k].toNat:=by simp
    rw[hg,R,show((I[k].toNat:Nat):Int)=I[k] by omega]
theorem amC{H:Type}{enc:TypeId×Value->H}{W:World}{base:Nat}{v:Value}{d:DataW H}{p:List MemPlace}(D:Value.okWide prog W .any base 22 v)(h:DataW.Trod enc prog W 0 (fun _=>true) true 22 v d p):∃l,wL W v l:=by
 obtain⟨a,n,c,rfl⟩:=okWide_slice underlying22 D;obtain⟨fuel,z⟩:=h;exact ajK z
theorem anW(w:World)(v:Value)(l:List Nat)(z:wL w v l):
  Calls prog 5 #[v] w fun e w'=>e=.returned (.bool (decide ((1048576:Int)<l.length)))/\w=w':=by
 obtain⟨a,c,rfl,_⟩:=z;go_enter func5,ntmps5;go_wp2;go_ret;exact⟨rfl,rfl⟩
end
section
open Go.RowKit Go.G5 Go.Proofs.Tryz
theorem UH(w:World)(v:Value)(l:List Nat)(R:wL w v l)(hl:l.length<=1048576)(i:Int)(M:0<=i)(h1:i<=1000000):
  Calls prog 6 #[v,i] w fun e w'=>∃x:Int,e=.returned x/\0<=x/\x<256/\w=w':=by
 obtain⟨a,b,Y,c,rfl,I,z,hc,hb,D⟩:=R.view prog 22 5 underlying22 akG;obtain⟨k,rfl⟩:=Int.eq_ofNat_of_zero_le M;by_cases hlt:k<l.length
 ·have F:(k:Int)<(l.length:Int):=aD;have K:=hc k hlt;have Z:=fun W=>z W k hlt;have S:=D l[k] (List.getElem_mem _);obtain⟨y,J⟩:=aJ (l[k]);rw[<-J]at K S;clear hc z J;go_enter func6,ntmps6;go_wp2;go_ret;exact⟨(y:Int),rfl,by omega,by omega,rfl⟩
 ·have F:¬(k:Int)<(l.length:Int):=aD;obtain⟨t,ht⟩:∃t:Int,t=(k:Int)*37+(l.length:Int)*11:=⟨_,rfl⟩;have N:Int.tmod t 256=t%256:=Int.tmod_eq_emod_of_nonneg aD;have O:0<=t%256/\t%256<256:=aD;clear hc z;go_enter func6,ntmps6;go_wp2;rw[<-ht];go_ret;exact⟨t%256,rfl,by omega,by omega,rfl⟩
end
end Go.Proofs.YtkdbkjjacgigiaaGreatDoor
