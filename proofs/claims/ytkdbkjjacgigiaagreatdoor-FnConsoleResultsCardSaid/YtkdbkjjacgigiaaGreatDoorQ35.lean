/- Lemmas for CardConsoleResults. No condition. -/
import Derived.Test.YtkdbkjjacgigiaaGreatDoorQ21
import Derived.Test.YtkdbkjjacgigiaaGreatDoorQ30
set_option maxRecDepth 100000
set_option maxHeartbeats 64000000
namespace Go.Proofs.YtkdbkjjacgigiaaGreatDoor
section
open Go.RowKit Go.G5 Go.Proofs.Tryz
theorem ajA(w:World)(n:Int)(v:Value)(l:List Int)(hv:aK w v l)(hl:l.length<=1048576)(m:Int)(u:Value)(k:List Int)(hu:aK w u k)(hk:k.length<=1048576)(hp:iY w):
  Calls prog 140 #[.agg #[n,v],.agg #[m,u]] w fun e w'=>e=.returned (.string (E6 n l m k))/\Below w w w':=by
 have a7:=hv;have a6:=hu;obtain⟨a,c,rfl⟩:=hv.shape;obtain⟨a',c',rfl⟩:=hu.shape;have D:=fun(W:World) (h1:aK W (aA a l.length c) l) (h2:aK W (aA a' k.length c') k)=>AN W n _ l h1 hl m _ k h2 hk;have Y:=fun(W:World) (h1:aK W (aA a l.length c) l) (h2:aK W (aA a' k.length c') k)=>CY W n _ l h1 hl m _ k h2 hk;have Z:=fun(W:World) (h1:aK W (aA a l.length c) l) (h2:aK W (aA a' k.length c') k)=>amZ W n _ l h1 hl m _ k h2 hk;have a1:=fun(W:World) (h1:aK W (aA a l.length c) l) (h2:aK W (aA a' k.length c') k)=>arP W n _ l h1 hl m _ k h2 hk;have B0:Below w w ((w.alloc (.cells #[n,aA a l.length c] 27)).alloc (.cells #[m,aA a' k.length c'] 27)):=wI _ _ _;have F:=(aP.new w 27 #[n,aA a l.length c]).alloc (.cells #[m,aA a' k.length c'] 27);have I:aP ((w.alloc (.cells #[n,aA a l.length c] 27)).alloc (.cells #[m,aA a' k.length c'] 27)) (w.heap.size+1) 27 #[m,aA a' k.length c']:=by
  have:=aP.new (w.alloc (.cells #[n,aA a l.length c] 27)) 27 #[m,aA a' k.length c'];simpa using this
 cases hf:fE n l m k with
 |false=>have HX:=aH (abN hf);have D:=D _ (a7.below B0 aI) (a6.below B0 aI);rw[hf]at D;have f3:=aH D;clear hf D Y Z a1 F I;go_enter func140,ntmps140;go_wp2_with fail;refine f3.out.mono ?_;rintro e w1 ⟨rfl,b1⟩;go_wp2;go_ret;exact⟨bJ HX.out.symm,B0.after b1 B0.size⟩
 |true=>
  have m6:=ae6 n l m k;obtain⟨TT,e0⟩:=aJ (E6 n l m k);have o3:TT.size<=10600:=by rw[e0,MP hf];exact XW n l m k
  have hx:bR dW (plL n l m k)=TT:=by rw[e0,MP hf];exact ar7 n l m k
  unfold plL plP at hx;simp only[hf]at D Y Z a1;obtain⟨S1,g2⟩:=aJ (yU n l m k);obtain⟨S2,g5⟩:=aJ (BH n l m k);obtain⟨S3,g6⟩:=aJ (SH n l m k);obtain⟨N1,d0⟩:=aJ (FO n l m k);obtain⟨M,hM⟩:=aJ (GU n l m k);obtain⟨L,hL⟩:=aJ (GT n l m k);simp only[<-g2]at D;simp only[<-g5,<-d0]at Y;simp only[<-g6]at Z;simp only[<-hM,<-hL]at a1;rw[<-g2,<-g5,<-g6,<-d0,<-hM,<-hL]at hx;rw[<-d0]at m6;have f3:=aH D;have l1:=aH Y;have l2:=aH Z;have l3:=aH a1;have HX:=aH hx;have l4:=aH e0;clear D Y Z a1 hx e0 hf g2 g5 g6 d0 hM hL;go_enter func140,ntmps140;go_wp2_with fail;refine(f3.out _ (a7.below B0 aI) (a6.below B0 aI)).mono ?_;rintro e w1 ⟨rfl,b1⟩;have B1:=B0.after b1 B0.size;have F:=F.keep b1;have I:=I.keep b1;clear B0 b1;have G1:=F.cell;have G2:=I.cell;have z1:=F.lt;have z2:=I.lt;go_wp2_with fail;refine(l1.out _ (a7.below B1 aI) (a6.below B1 aI)).mono ?_;rintro e w2 ⟨rfl,b2⟩;have B2:=B1.after b2 B1.size;have F:=F.keep b2;have I:=I.keep b2;clear B1 b2 G1 G2 z1 z2;have G1:=F.cell;have G2:=I.cell;have z1:=F.lt;have z2:=I.lt;go_wp2_with fail;refine(l2.out _ (a7.below B2 aI) (a6.below B2 aI)).mono ?_;rintro e w3 ⟨rfl,b3⟩;have B3:=B2.after b3 B2.size;have F:=F.keep b3;have I:=I.keep b3;clear B2 b3 G1 G2 z1 z2;have G1:=F.cell;have G2:=I.cell;have z1:=F.lt;have z2:=I.lt;go_wp2_with fail;refine(l3.out _ (a7.below B3 aI) (a6.below B3 aI)).mono ?_;rintro e w4 ⟨pB,iB,qB,rfl,oB,b4⟩;have o1:iB=L.length:=oB.ints.capLe.1;subst o1;have B4:=B3.after b4 B3.size;have F:=F.keep b4;clear B3 b4 G1 G2 z1 z2 I;have KB:=aP.new w4 29 #[M,aA pB L.length qB];have hB:=oB.ints.alloc (.cells #[M,aA pB L.length qB] 29);have b0:=B4.alloc B4.size (.cells #[M,aA pB L.length qB] 29);have O:=F.alloc (.cells #[M,aA pB L.length qB] 29);have G1:=O.cell;have z1:=O.lt;go_wp2_with fail;refine bU ?_;intro V hV;obtain⟨W5,g7⟩:=aJ (w4.alloc (.cells #[M,aA pB L.length qB] 29));obtain⟨S,R⟩:=aJ W5.heap.size;obtain⟨gB,g9⟩:=aJ w4.heap.size;have e7:S=w4.heap.size+1:=by rw[R,g7];simp
  rw[<-g7]at hV KB hB b0 O;have L5:gI S V []:=by rw[hV,R];exact gI.new _
  have B5:Below w w V:=by rw[hV];exact b0.alloc b0.size _
  have C5:Below S W5 V:=by rw[hV,R];exact bF W5 _
  rw[<-g9]at KB;have zb:w.heap.size<S:=by rw[R];exact O.lt
  have zB:gB<S:=by rw[R];exact KB.lt
  have zc:W5.heap.size<=S:=aD;have I:=O;simp only[<-e7];simp only[<-g9];clear hV g7 R e7 g9 G1 z1 F O B4 b0;refine(fC n S1 _ (hp.keep B5)).mono ?_;rintro e o4 ⟨rfl,c5⟩;have e8:=B5.after c5 B5.size;have j1:=C5.after c5 (Nat.le_of_lt L5.lt);have f7:=L5.keep c5;clear B5 C5 L5 c5;go_wp2_with fail;have k0:=f7.lt;refine(dF S [] [(⟨#[112,97,105,114]⟩:ByteArray),(⟨#[99,111,109,109,111,110]⟩:ByteArray),bG n S1] o4.heap.size 3 3 _ (f7.keep (bF _ _)) rfl (UQ _ [(⟨#[112,97,105,114]⟩:ByteArray),(⟨#[99,111,109,109,111,110]⟩:ByteArray),bG n S1] _) (by simp only[List.length_cons,List.length_nil];omega)).mono ?_;rintro e r4 ⟨rfl,f8,j5⟩;have e9:=(e8.alloc e8.size _).after j5 aD;have j2:=(j1.alloc (Nat.le_of_lt k0) _).after j5 aI;clear e8 j1 f7;obtain⟨f9,J⟩:=aJ ([]++[(⟨#[112,97,105,114]⟩:ByteArray),(⟨#[99,111,109,109,111,110]⟩:ByteArray),bG n S1]);rw[<-J]at f8;have p7:f9.length<=3:=by rw[J,List.length_append];first|(simp only[List.length_cons,List.length_nil];omega)|(have:=cN _ _;omega)|(simp[yes];omega)
  go_wp2_with fail;refine(eQ S f9 (⟨#[98,111,117,110,100]⟩:ByteArray) (N1) ⟨by omega,by omega⟩ _ f8 (hp.keep e9) aD).mono ?_;rintro e z ⟨rfl,b8,j6⟩;have N:=e9.after j6 aD;have b5:=j2.after j6 aI;clear e9 j2 f8;obtain⟨g0,K⟩:=aJ (f9++[(⟨#[98,111,117,110,100]⟩:ByteArray),aX (N1)]);rw[<-K]at b8;have p8:g0.length<=5:=by rw[K,List.length_append];first|(simp only[List.length_cons,List.length_nil];omega)|(have:=cN _ _;omega)|(simp[yes];omega)
  have b7:=cB KB b5 zB;have j7:=(hB.below b5 zc).drewN 1;have bV:Below z z (z.drewN 1):=(Below.refl z.heap.size z).drewN' 1;have e5:=(hp.keep N).keep bV;have LV:=b8.keep bV;have j9:=b8.lt;have r9:=b7.lt;have GB:=b7.cell;have f4:=aH (fun(W:World) (h:Below (z.drewN 1).heap.size (z.drewN 1) W)=>fC n S2 W (e5.keep h));have f5:=aH (fun(W:World) (h:Below (z.drewN 1).heap.size (z.drewN 1) W)=>fC n S3 W (e5.keep h));have f6:=aH (fun(W:World) (h:Below (z.drewN 1).heap.size (z.drewN 1) W)=>jJ M L _ W (j7.keep h) (e5.keep h));have f2:=aH (fun(W:World) (h:Below (z.drewN 1).heap.size (z.drewN 1) W)=>dF S g0 [(⟨#[97,116]⟩:ByteArray),bG n S2,(⟨#[117,110,105,111,110]⟩:ByteArray),bG n S3,(⟨#[98,97,115,101,115]⟩:ByteArray),bZ M L] W.heap.size 6 6 _ ((LV.keep h).keep (bF W (.cells #[.string (⟨#[97,116]⟩:ByteArray),.string (bG n S2),.string (⟨#[117,110,105,111,110]⟩:ByteArray),.string (bG n S3),.string (⟨#[98,97,115,101,115]⟩:ByteArray),.string (bZ M L)] 9))) rfl (UQ W [(⟨#[97,116]⟩:ByteArray),bG n S2,(⟨#[117,110,105,111,110]⟩:ByteArray),bG n S3,(⟨#[98,97,115,101,115]⟩:ByteArray),bZ M L] _) (by simp only[List.length_cons,List.length_nil];omega));obtain⟨F1,c7⟩:=aJ (bG n S2);obtain⟨F2,c8⟩:=aJ (bG n S3);obtain⟨F3,c9⟩:=aJ (bZ M L);simp only[<-c7]at f4;simp only[<-c8]at f5;simp only[<-c9]at f6;simp only[<-c7,<-c8,<-c9]at f2;have h0:=HX.out;rw[<-c7,<-c8,<-c9]at h0;have HX:=aH h0;clear h0 c7 c8 c9;go_wp2_with fail;go_region_held3 (fun w'=>(∀i,w'.cell? ⟨gB,i,none⟩=(#[aG M,aA pB L.length qB]:Array Value)[i]?)) (go_keep)
   (first
    |(go_at_call_of 197 (Value.int .i64 S2);refine(f4.out _ (Below.refl _ _)).mono ?_;rintro e wa ⟨rfl,ba⟩;obtain⟨m7,n1⟩:=gN ba z.heap.size (by first|omega|(simp;done)|(simp;omega));have za:=ba.size;(try simp at za))
    |(go_at_call_of 197 (Value.int .i64 S3);refine(f5.out wa ba).mono ?_;rintro e wb ⟨rfl,bb⟩;have bb:=ba.after bb ba.size;obtain⟨m8,n2⟩:=gN bb z.heap.size (by first|omega|(simp;done)|(simp;omega));have o5:=bb.size;(try simp at o5))
    |(go_at_call 196;refine(f6.out wb bb).mono ?_;rintro e wd ⟨rfl,bd⟩;have bd:=bb.after bd bb.size;have m5:=fun o=>(((b7.drewN 1).keep bd).alloc o).cell;obtain⟨n0,o0⟩:=gN bd z.heap.size (by first|omega|(simp;done)|(simp;omega));have zd:=bd.size;(try simp at zd))
    |(go_at_call 177;refine(f2.out wd bd).mono ?_;rintro e wc ⟨rfl,L6,b6⟩;obtain⟨m9,n3⟩:=gN b6 S aI))
  have Bw:=(N.after bV N.size).after bd (N.after bV N.size).size;have Cw:=(b5.after bV (Nat.le_of_lt j9)).after bd (Nat.le_of_lt j9);have zl:=(LV.keep bd).lt;have B6:=(Bw.alloc Bw.size _).after b6 aD;have C6:=(Cw.alloc (Nat.le_of_lt zl) _).after b6 aI;clear Bw Cw N b5 bV bb bd b6 j7 e5 LV b8 b7 GB m7 n1 m8 n2 n0 o0 m5 m9 n3 f4 f5 f6 f2 ba;obtain⟨X6,e4⟩:=aJ (g0++[(⟨#[97,116]⟩:ByteArray),F1,(⟨#[117,110,105,111,110]⟩:ByteArray),F2,(⟨#[98,97,115,101,115]⟩:ByteArray),F3]);rw[<-e4]at L6;have q9:X6.length<=11:=by rw[e4,List.length_append];simp only[List.length_cons,List.length_nil];omega
  have hT:bR dW X6=TT:=by rw[e4,K,J];exact HX.out
  have hz:=o3;rw[<-hT]at hz;have HT:=aH hT;clear hT J K e4;obtain⟨lv,KL,oL⟩:=L6;have G:=KL.cell;go_wp2_with fail;clear G;refine(dE (S+1) lv X6 _ oL aD aD).mono ?_;rintro e wz ⟨rfl,bz⟩;go_wp2;go_ret;exact⟨bJ (HT.out.trans l4.out),B6.after bz B6.size⟩
theorem ahU{p:Prop}(h:p:=by
  rw[D];exact(GrownIn.of_row (jW w3 ⟨w.heap.size+1,0,none⟩ _) (fun k hk=>(Option.some.inj hk).symm)).trans (GrownIn.of_row (jW _ ⟨w.heap.size+1,1,none⟩ _) (fun k hk=>(Option.some.inj hk).symm))):p:=h
theorem LH(w:World)(g:Int)(v:Value)(l:List Int)(hv:aK w v l)(hm:∀x∈l,0<=x/\x<64)(hl:l.length<=64)(s:Int)(S:0<=s/\s<64):
  Calls prog 304 #[.agg #[g,v],s] w fun e w'=>∃ad i c,e=.returned (.agg #[g,aA ad i c])/\bK 3 w.heap.size w' (aA ad i c) (yW l s)/\Below w w w':=by
 obtain⟨a,b,j9,c,rfl,h8,b0,hc,hb⟩:=hv.view prog 25 3 underlying25 aN;obtain⟨V,I⟩:=aJ ((w.alloc (.cells #[g,aA a l.length c] 29)).alloc (.cells #[aB,()] 29));have B:Below w w V:=gO I;have K1:aP V w 29 #[g,aA a l.length c]:=gR I;have K2:aP V (w.heap.size+1) 29 #[aB,()]:=iP I;have HV:=aH I;have HC:=aH hc;have f4:=aH b0;have HM:=aH hm;have z1:=K1.lt;have z2:=K2.lt;have j6:l.length<=1048576:=aD;clear I hc b0 hm;go_enter func304,ntmps304;go_wp2_with fail;rw[HV.out.symm];go_loopw [5,11] (fun ov iv wr=>∃(j:Nat) (p:Option Addr) (r m:Nat),j<=l.length/\iv=aG j/\ov=aA p r m/\aM 3 V wr (aA p r m) ((l.take j).map fun t=>bB s t)/\Below V V wr) (fun _ iv _=>l.length-(intOf iv).toNat)
 case atStart=>exact⟨0,_,_,_,Nat.zero_le _,rfl,rfl,aM.nil _ _ _,Below.refl _ _⟩
 case round=>
  obtain⟨j,p,r,m,hj,rfl,rfl,jS,K⟩:=hrel;have F:=aH jS;have zw:=K.size;clear jS;by_cases hlt:j<l.length
  ·have b5:(j:Int)<(l.length:Int):=aD;have ck:=aR HC.out hb (B.after K B.size) aI j hlt;have ik:=fun W=>f4.out W j hlt;have hx:=HM.out _ (List.getElem_mem hlt);have J:(l.take (j+1)).map (fun t=>bB s t)=(l.take j).map (fun t=>bB s t)++[bB s l[j]]:=by rw[List.take_succ_eq_append_getElem hlt,List.map_append];rfl
   obtain⟨x,c6⟩:=aJ (l[j]);rw[<-c6]at ck hx J;have a7:=dU S.1 (show s<4611686018427387904 by omega) hx.1 (show x<4611686018427387904 by omega);have g9:=BS s x S.1 S.2;obtain⟨y,hy⟩:=aJ (bB s x);rw[<-hy]at a7 g9 J;have f6:=aH J;have b4:((l.take j).map (fun t=>bB s t)).length<100:=by rw[List.length_map,List.length_take];omega
   clear c6 hy J;go_wp2_with (at_builtin;refine dA rfl _ _ _ rfl 3 underlying25 aN V.heap.size _ ((l.take j).map fun t=>bB s t) y wr.heap.size rfl rfl (aZ _ _ _ _ _ rfl) (F.out.alloc _) ⟨by omega,by omega⟩ aD aT ?_;intro v' w6 M g6;obtain⟨av,nv,cv,rfl⟩:=M.shape3);have b7:=F.out.lt;have B6:Below V V w6:=(K.alloc K.size (.cells #[y] 3)).grown g6 aT (fun q hq=>(b7 q hq).1);go_roundw
   case rel=>exact⟨j+1,av,nv,cv,by omega,by go_num,rfl,by rw[f6.out];exact M,B6⟩
   case measure=>simp[intOf];omega
  ·have b5:¬(j:Int)<(l.length:Int):=aD;have hT:yW l s=dT ((l.take j).map fun t=>bB s t):=by rw[List.take_of_length_le aD];rfl
   have b4:((l.take j).map (fun t=>bB s t)).length<=1048576:=by rw[List.length_map,List.length_take];omega
   have O:=zJ g _ _ wr F.out.ints b4;rw[<-hT]at O;have f3:=aH O;have f9:=K1.keep K;have g0:=K2.keep K;have G:=f9.cell;clear hT O;go_wp2_with fail;refine f3.out.mono ?_;rintro e w3 ⟨p3,i3,Z,rfl,o3,b3⟩;have z:=g0.keep b3;have B3:=(B.after K B.size).after b3 (B.after K B.size).size;have z3:=z.lt;have G2:=z.cell;have F2:=z.frozen;clear G;go_wp2;refine bN ?_;intro Wf D;have Kf:aP Wf (w.heap.size+1) 29 #[g,aA p3 i3 Z]:=by rw[D];have:=(z.set 0 (aG g)).set 1 (aA p3 i3 Z);simpa using this
   have Bf:Below w w Wf:=by rw[D];exact Below.setCell (Below.setCell B3 (by first|omega|(simp;done)|(simp;omega)) _) (by first|omega|(simp;done)|(simp;omega)) _
   have gf:GrownIn w3 Wf (fun k=>k=w.heap.size+1):=by exact ahU
   have R:=o3.lt;have of:=o3.growIn gf (fun k hk e=>by have:=(R k hk).1;omega);have Gf:=Kf.cell;clear D G2 F2;exact bodyPost_ret (v:=.agg #[g,aA p3 i3 Z]) (by simp[results,results304,go_sem,Gf]) rfl ⟨_,_,_,rfl,of.mono aD,Bf⟩
theorem T5(w:World)(N:Nat)(v:Value)(l:List Int)(hv:aK w v l)(hf:aU (N:Int) l=true)(s:Int)(S:eB N s=true):
  Calls prog 374 #[.agg #[(N:Int),v],s] w fun e w'=>∃ad i c,e=.returned (.tuple #[.agg #[(N:Int),aA ad i c],.bool true])/\bK 3 w.heap.size w' (aA ad i c) (yW l s)/\Below w w w':=by
 have hm:=dR hf;have hl:=iL hf;obtain⟨h0,h6,g7,g8⟩:=dB hf;have hN:N<=6:=aD;have b8:=jQ.1 S;have hp:=cJ N 6 hN;have b6:=hp.1;simp at b6;obtain⟨a,c,rfl⟩:=hv.shape;obtain⟨V,I⟩:=aJ ((w.alloc (.cells #[(N:Int),aA a l.length c] 29)).alloc (.cells #[aB,()] 29));have B:Below w w V:=gO I;have K1:aP V w 29 #[(N:Int),aA a l.length c]:=gR I;have K2:aP V (w.heap.size+1) 29 #[aB,()]:=iP I;have a9:∀W,W=V->Calls prog 146 #[.agg #[(N:Int),aA a l.length c]] W fun e w'=>e=.returned (.bool true)/\Below W W w':=fun W h=>by rw[h];have:=cQ (N:Int) l _ V (hv.below B aI);rw[hf]at this;exact this
 have Y:=fun W=>rK N s W aD;simp only[S]at Y;have b9:=fun(W:World) (h:aK W (aA a l.length c) l)=>LH W (N:Int) _ l h hm hl s ⟨b8.1,by omega⟩;have HV:=aH I;have f2:=aH a9;have f5:=aH Y;have f7:=aH b9;clear I a9 Y b9 hf S b8 hm g7 g8 hp b6;go_enter func374,ntmps374;go_wp2_with fail;refine(f2.out _ HV.out.symm).mono ?_;rintro e w1 ⟨rfl,b1⟩;rw[HV.out.symm]at b1;have B1:=B.after b1 B.size;have f8:=K1.keep b1;have a1:=K2.keep b1;have G1:=f8.cell;go_wp2_with (go_at_call 273;refine(f5.out _).mono ?_;rintro e w' ⟨rfl,rfl⟩);refine(f7.out w1 (hv.below B1 aI)).mono ?_;rintro e w3 ⟨p3,i3,Z,rfl,o3,b3⟩;have z:=a1.keep b3;have B3:=B1.after b3 B1.size;have z2:=a1.lt;have z3:=z.lt;have G2:=z.cell;have F2:=z.frozen;clear G1;go_wp2;refine bN ?_;intro Wf D;have Kf:aP Wf (w.heap.size+1) 29 #[(N:Int),aA p3 i3 Z]:=by rw[D];have:=(z.set 0 (aG (N:Int))).set 1 (aA p3 i3 Z);simpa using this
 have Bf:Below w w Wf:=by rw[D];exact Below.setCell (Below.setCell B3 (by first|omega|(simp;done)|(simp;omega)) _) (by first|omega|(simp;done)|(simp;omega)) _
 have gf:GrownIn w3 Wf (fun k=>k=w.heap.size+1):=by exact ahU
 have R:=o3.lt;have of:=o3.growIn gf (fun k hk e=>by have:=(R k hk).1;omega);have Gf:=Kf.cell;clear D G2 F2;exact bodyPost_ret (v:=.tuple #[.agg #[(N:Int),aA p3 i3 Z],.bool true]) (by simp[results,results374,go_sem,Gf]) rfl ⟨_,_,_,rfl,of.mono aD,Bf⟩
theorem Z2(w:World)(N:Nat)(v:Value)(l:List Int)(hv:aK w v l)(Y:aU (N:Int) l=true)(s:Nat)(hs:s<2^N):
  Calls prog 353 #[.agg #[(N:Int),v],(s:Int)] w fun e w'=>e=.returned (.bool (yG l s))/\Below w w w':=by
 obtain⟨h0,h6,a7,a8⟩:=dB Y;have hN:N<=6:=aD;have S:(2:Nat)^N<=2^6:=Nat.pow_le_pow_right aQ hN;have J:((2:Int)^N)=((2^N:Nat):Int):=by simp
 have M:eB N (s:Int)=true:=jQ.2 ⟨by omega,by rw[J];omega⟩;obtain⟨a,c,rfl⟩:=hv.shape;have F:=T5 (w.alloc (.cells #[(N:Int),aA a l.length c] 29)) N _ l (hv.alloc _) Y (s:Int) M;have K:=UA N aD s hs;have O:yG l s=((yW l (s:Int)).length==2^bY s):=rfl;have z:=aH (fun W=>fH s W aD);obtain⟨T,hT⟩:=aJ (yW l (s:Int));rw[<-hT]at F O;obtain⟨p,hp⟩:=aJ (bY s);rw[<-hp]at K O;simp only[<-hp]at z;have D:=cJ p 6 aD;have a6:=D.1;have b8:=D.2;simp at a6;have I:((T.length:Int)==(2:Int)^p)=(T.length==2^p):=by
  have e:((2:Int)^p)=((2^p:Nat):Int):=by simp
  rw[e,Bool.eq_iff_iff,beq_iff_eq,beq_iff_eq];omega
 rw[<-I]at O;have HX:=aH O;have R:=aH F;have b9:p<=6:=aD;clear O F hT hp K M J Y a7 a8 I D S hs;go_enter func353,ntmps353;go_wp2_with fail;refine R.out.mono ?_;rintro e w1 ⟨p1,i1,q1,rfl,o1,b1⟩;have Z:i1=T.length:=o1.ints.capLe.1;subst Z;have B1:Below w w w1:=(bF _ _).after b1 (by simp);go_wp2_with fail;go_quiet ((go_at_call 214;first|exact gL (z.out _)|exact jF (z.out _)));go_wp2;go_ret;exact⟨aW HX.out.symm,(B1.alloc B1.size _).drewN' _⟩
theorem aaO(w:World)(D N s:Nat)(l:List Int)(v:Value)(J:aK w v l)(F:aU (N:Int) l=true)(M:w.cell? ⟨D,0,none⟩=some (aG (N:Int)))(d1:w.cell? ⟨D,1,none⟩=some v)(I:s<2^N):
  Calls prog 352 #[(s:Int),.pointer (some ⟨D,0,none⟩)] w fun e w'=>e=.returned (.bool (yG l s))/\Below w w w':=by
 obtain⟨a,c,rfl⟩:=J.shape;have hcl:=Z2 w N _ l J F s I;obtain⟨b,hb⟩:=aJ (yG l s);rw[<-hb]at hcl ⊢;have z:=aH hcl;clear hcl hb F I;go_enter func352,ntmps352;go_wp2_with fail;refine z.out.mono ?_;rintro e w1 ⟨rfl,K⟩;go_wp2;go_ret;exact⟨rfl,K⟩
theorem JB:∀args w,(callFunc 352 args).run prog w=.ok (.enter 352 args) w:=enters_of func352 aO rfl
theorem TZ(w:World)(g:Int)(v:Value)(l:List Int)(hv:aK w v l)(M:aU g l=true):
  Calls prog 303 #[.agg #[g,v]] w fun e w'=>∃ad i c,e=.returned (.tuple #[.agg #[g,aA ad i c],.bool true])/\aK w' (aA ad i c) (nL g l)/\Below w w w':=by
 obtain⟨a,c,rfl⟩:=hv.shape;obtain⟨h0,h6,a6,a7⟩:=dB M;obtain⟨N,rfl⟩:=Int.eq_ofNat_of_zero_le h0;have hN:N<=6:=aD;have hx:nL (N:Int) l=cD (yG l) (2^N):=by unfold nL;rw[M,Int.toNat_natCast];rfl
 have e6:∀(fn:Fn) (first cap:Array Value) (w:World),(Instr.makeFunc fn first cap).run prog w=.ok (.func fn first cap) w:=fun _ _ _ _=>rfl;obtain⟨V,K⟩:=aJ ((w.alloc (.cells #[(N:Int),aA a l.length c] 29)).alloc (.cells #[aB,()] 29));have B:Below w w V:=gO K;have K1:aP V w 29 #[(N:Int),aA a l.length c]:=gR K;have K2:aP V (w.heap.size+1) 29 #[aB,()]:=iP K;have O:∀W,W=V->Calls prog 146 #[.agg #[(N:Int),aA a l.length c]] W fun e w'=>e=.returned (.bool true)/\Below W W w':=fun W h=>by rw[h];have:=cQ (N:Int) l _ V (hv.below B aI);rw[M]at this;exact this
 have F:∀W,aK W (aA a l.length c) l->aP W w 29 #[(N:Int),aA a l.length c]->Calls prog 276 #[(N:Int),.func (.func 352) #[] #[.pointer (some ⟨w,0,none⟩)]] W fun e w'=>
   ∃ad i cp,e=.returned (.agg #[(N:Int),aA ad i cp])/\aM 3 W w' (aA ad i cp) (cD (yG l) (2^N))/\Below W W w':=fun W h1 h2=>
  zA W N hN 352 JB w.heap.size (yG l) (fun s W' hs hB=>by
   have k:=h2.keep hB;have k0:=k.cell 0;have k1:=k.cell 1;simp at k0 k1;exact aaO W' w.heap.size N s l _ (h1.keep hB) M k0 k1 hs)
 rw[<-hx]at F;have HV:=aH K;have a1:=aH O;have Z:=aH F;clear K O F M a6 a7 hx;go_enter func303,ntmps303;go_wp2_with fail;refine(a1.out _ HV.out.symm).mono ?_;rintro e w1 ⟨rfl,R⟩;rw[HV.out.symm]at R;have Y:=B.after R B.size;have I:=K1.keep R;have J:=K2.keep R;have G1:=I.cell;go_wp2_with fail;refine(Z.out w1 (hv.below Y aI) I).mono ?_;rintro e w3 ⟨p3,i3,S,rfl,o3,b3⟩;have z:=J.keep b3;have B3:=Y.after b3 Y.size;have z2:=J.lt;have z3:=z.lt;have G2:=z.cell;have F2:=z.frozen;clear G1;go_wp2;refine bN ?_;intro Wf D;have Kf:aP Wf (w.heap.size+1) 29 #[(N:Int),aA p3 i3 S]:=by rw[D];have:=(z.set 0 (aG (N:Int))).set 1 (aA p3 i3 S);simpa using this
 have Bf:Below w w Wf:=by rw[D];exact Below.setCell (Below.setCell B3 (by first|omega|(simp;done)|(simp;omega)) _) (by first|omega|(simp;done)|(simp;omega)) _
 have of:aM 3 w1 Wf (aA p3 i3 S) (nL (N:Int) l):=by rw[D];exact(o3.setBelow (by show w.heap.size+1<_;omega) _).setBelow (by show w.heap.size+1<_;omega) _
 have Gf:=Kf.cell;clear D G2 F2;exact bodyPost_ret (v:=.tuple #[.agg #[(N:Int),aA p3 i3 S],.bool true]) (by simp[results,results303,go_sem,Gf]) rfl ⟨_,_,_,rfl,of.ints,Bf⟩
theorem akW(w:World)(g:Int)(v:Value)(l:List Int)(hv:aK w v l)(hf:aU g l=true):
  Calls prog 222 #[.agg #[g,v]] w fun e w'=>e=.returned (tT g l)/\Below w w w':=by
 obtain⟨a,c,rfl⟩:=hv.shape;have S:tT g l=sN (-1) (nL g l) (nL g l).length:=by unfold tT;rw[hf];rfl
 have I:=TZ (w.alloc (.cells #[g,aA a l.length c] 29)) g _ l (hv.alloc _) hf;have D:=MZ g l;have F:=QC (-1) (nL g l) (fun x S=>(D x S).2) aD;obtain⟨T,hT⟩:=aJ (nL g l);rw[<-hT]at S I D F;have HX:=aH S;have a8:=aH I;have a7:=aH D;have a1:=aH F;clear S I D F hf hT;go_enter func222,ntmps222;go_wp2_with fail;refine a8.out.mono ?_;rintro e w1 ⟨p1,i1,q1,rfl,o1,b1⟩;have b3:i1=T.length:=o1.capLe.1;subst b3;have B1:Below w w w1:=(bF _ _).after b1 (by simp);have Z:=o1.alloc (.cells #[g,aA p1 T.length q1] 29);obtain⟨_,b,e8,_,b5,_,K,hc,hb⟩:=Z.view prog 25 3 underlying25 aN;injection b5 with x1 _ x3;subst x1 x3;have HC:=aH hc;have a6:=aH K;clear hc K o1 Z hb;go_wp2_with fail;go_loop [5,18] (fun mv iv=>∃j:Nat,j<=T.length/\iv=aG j/\mv=aG (sN (-1) T j)) (fun _ iv=>T.length-(intOf iv).toNat)
 case atStart=>exact⟨0,Nat.zero_le _,rfl,rfl⟩
 case round=>
  obtain⟨j,hj,rfl,rfl⟩:=hrel;have a9:=a1.out j;by_cases hlt:j<T.length
  ·have O:(j:Int)<(T.length:Int):=aD;have ck:=HC.out j hlt;have ik:=fun W=>a6.out W j hlt;have R:sN (-1) T (j+1)=max (sN (-1) T j) (cT T[j]):=by rw[sN,aS T j hlt]
   have Y:=a7.out _ (List.getElem_mem hlt);obtain⟨y,hy⟩:=aJ (T[j]);rw[<-hy]at ck R Y;have J:=aH (fun W=>sR y W Y.1 aD);have b4:=wQ y aD;obtain⟨z,hz⟩:=aJ (cT y);rw[<-hz]at R b4;simp only[<-hz]at J;obtain⟨M,hM⟩:=aJ (sN (-1) T j);rw[<-hM]at R a9 ⊢;have HS:=aH R;clear hy hz hM R;go_wp2_with (go_at_call 214;refine(J.out _).mono ?_;rintro e w' ⟨rfl,rfl⟩);go_round
   case rel=>exact⟨j+1,by omega,by go_num,by rw[HS.out];try omega⟩
   case measure=>simp[intOf];omega
  ·have O:¬(j:Int)<(T.length:Int):=aD;have N:j=T.length:=aD;have HJ:=aH N;clear N;go_wp2;go_ret;exact⟨fL (by rw[HX.out,<-HJ.out]),B1.alloc B1.size _⟩
theorem V9(l:List Int)(g k:Nat)(hk:k<=g)(s:Nat):k<(jG l g s).length:=by rw[BQ];omega
theorem ag0{p:Prop}(h:p:=by
  have B6:Below w w w5:=Br.drew.after b5 Br.drew.size;have K6:=Kd.keep b5;have B7:Below w w (w5.setCell ⟨w1.heap.size,k,none⟩ (aG (max y (T.length:Int)))):=Below.setCell B6 (by show w.heap.size<=w1.heap.size;omega) _;have K7:=K6.far (p:=⟨w1.heap.size,k,none⟩) (by show w.heap.size≠w1.heap.size;omega) (aG (max y (T.length:Int)));clear G Gd c0 c6 f6 od o6 o5;go_wp2;go_roundw
  case rel=>exact⟨j+1,by omega,by go_num,by rw[g2.out,<-HY.out];exact st.1,B7,K7⟩
  case measure=>simp[intOf];omega):p:=h
theorem ZX(w:World)(N:Nat)(v:Value)(l:List Int)(hv:aK w v l)(R:aU (N:Int) l=true):
  Calls prog 223 #[.agg #[(N:Int),v]] w fun e w'=>∃ad i c,e=.returned (aA ad i c)/\aK w' (aA ad i c) (nK (N:Int) l)/\Below w w w':=by
 obtain⟨a,c,rfl⟩:=hv.shape;have hm:=dR R;have hl:=iL R;obtain⟨h0,h6,e8,e9⟩:=dB R;have hN:N<=6:=aD;have hp:=cJ N 6 hN;have b7:=hp.1;have h8:=hp.2;simp at b7;have hx:nK (N:Int) l=jG l N (2^N):=by unfold nK;rw[R,Int.toNat_natCast];rfl
 obtain⟨V,hV⟩:=aJ (w.alloc (.cells #[(N:Int),aA a l.length c] 29));have B:Below w w V:=gY hV;have K1:aP V w 29 #[(N:Int),aA a l.length c]:=gJ hV;have S:∀W,W=V->Calls prog 146 #[.agg #[(N:Int),aA a l.length c]] W fun e w'=>e=.returned (.bool true)/\Below W W w':=fun W h=>by rw[h];have:=cQ (N:Int) l _ V (hv.below B aI);rw[R]at this;exact this
 have e5:=fun(W:World) (h:aK W (aA a l.length c) l)=>iT (N:Int) _ l W h aD aD;obtain⟨M,hM⟩:=aJ (2^N);have a1:(2:Int)^(N:Int).toNat-1=(M:Int)-1:=by rw[Int.toNat_natCast,hM];simp
 simp only[a1]at e5;have g9:M<=64:=by have h:=Nat.pow_le_pow_right (show 0<2 by decide) hN;rw[hM];simpa using h
 have a8:∀s,s<M->bY s<=N:=fun s hs=>UA N aD s aD;have D:=fun(W:World) (s:Nat) (hs:s<M) (h:aK W (aA a l.length c) l)=>LH W (N:Int) _ l h hm hl (s:Int) ⟨by omega,by omega⟩;rw[<-hM]at hx;have HV:=aH hV;have c8:=aH S;have j1:=aH e5;have d0:=aH D;have c9:=aH a8;have HX:=aH hx;clear hV S e5 D a8 hx R e8 e9 hm hp b7 h8 hM a1;go_enter func223,ntmps223;go_wp2_with fail;refine(c8.out _ HV.out.symm).mono ?_;rintro e w1 ⟨rfl,b1⟩;rw[HV.out.symm]at b1;have B1:=B.after b1 B.size;have J:=K1.keep b1;have G1:=J.cell;go_wp2_with (at_make;refine kZ rfl _ _ _ rfl 3 underlying25 aN (N+1) _ _ rfl rfl (by go_num) (by go_num) aD ?_;intro w2 I hg;have B2:=B1.grown hg B1.size (fun q hq=>by cases hq);have K2:=J.grow hg (by simp);clear G1 hg;have G1:=K2.cell);have j6:=J.lt;refine(j1.out w2 (hv.below B2 aI)).mono ?_;rintro e w3 ⟨rfl,b3⟩;have B3:=B2.after b3 B2.size;have K3:=K2.keep b3;have o3:=I.keep b3;clear G1 I;go_wp2_with fail;go_loopw [16] (fun iv wr=>∃j:Nat,j<=M/\iv=aG j/\aM 3 w1 wr (aA (some ⟨w1,0,none⟩) (N+1) (N+1)) (jG l N j)/\Below w w wr/\aP wr w 29 #[(N:Int),aA a l.length c]) (fun iv _=>M-(intOf iv).toNat)
 case atStart=>exact⟨0,Nat.zero_le _,rfl,o3,B3,K3⟩
 case round=>
  obtain⟨j,hj,rfl,ho,Br,Kr⟩:=hrel;clear o3;by_cases hlt:j<M
  ·have a7:(j:Int)<(M:Int)-1+1:=aD;have a9:=c9.out j hlt;have z:jG l N (j+1)=(jG l N j).set (bY j) (max ((jG l N j).getD (bY j) 0) ((yW l (j:Int)).length:Int)):=rfl;have K:=MB l N j aD;have f0:=RA l (j:Int) aD aD;have hk:=V9 l N (bY j) a9 j;have F:=BQ l N j;have e4:(bY j:Int)<(N:Int)+1:=aD;have Y:=aH (fun W=>fH j W aD);have D:=d0.out wr.drew j hlt (hv.below Br.drew aI);obtain⟨T,hT⟩:=aJ (yW l (j:Int));rw[<-hT]at z f0 D;obtain⟨L,hL⟩:=aJ (jG l N j);rw[<-hL]at z K hk F ho;obtain⟨k,O⟩:=aJ (bY j);rw[<-O]at z hk a9 e4;simp only[<-O]at Y;rw[List.getD_eq_getElem?_getD,List.getElem?_eq_getElem hk,Option.getD_some]at z;have f4:=K _ (List.getElem_mem hk);obtain⟨y,hy⟩:=aJ (L[k]);have g2:=aH z;have Z:=aH D;have c0:=ho.cellAt F.symm k hk;rw[<-hy]at c0 f4;have HY:=aH hy;clear z D hT hL O K hy;have Kd:aP wr.drew w.heap.size 29 #[(N:Int),aA a l.length c]:=Kr;have od:=ho.drewN 1;have j7:∀(p:Option Addr) (i q:Nat) (W:World),(Instr.field 29 (.agg #[(N:Int),aA p i q]) 1).run prog W=.ok (aA p i q) W:=fun _ _ _ _=>rfl;have G:=Kr.cell;have Gd:=Kd.cell;go_wp2_with (go_at_call 214;refine(Y.out _).mono ?_;rintro e w' ⟨rfl,rfl⟩);go_region_law
    (go_simp;go_at_call 304;refine Z.out.mono ?_;rintro e w5 ⟨p5,i5,q5,rfl,o5,b5⟩;have e6:i5=T.length:=o5.ints.capLe.1;subst e6;have o6:=od.keep b5;have c6:=o6.cellAt F.symm k hk;rw[<-HY.out]at c6;have f6:=o6.frozenAt F.symm k)
   all_goals
    have st:=o6.stored F.symm k (max y (T.length:Int)) ⟨by omega,by omega⟩;exact ag0
  ·have a7:¬(j:Int)<(M:Int)-1+1:=aD;have a6:j=M:=aD;have HJ:=aH a6;clear a6;go_wp2;go_ret;exact⟨_,_,_,rfl,by rw[HX.out,<-HJ.out];exact ho.ints,Br⟩
theorem anX:∀n:Nat,n<7->∀i:Nat,i<7->jX n i<=20:=by decide +kernel
theorem anY:∀n:Nat,n<7->∀i:Nat,i<7->jX n i*(n-i)<=120:=by decide +kernel
theorem akE:∀n:Nat,n<7->∀k:Nat,k<7->k<=n->∀i:Nat,i<7->i<=k->uQ n k i*(n-k+(i+1))<=140:=by decide +kernel
theorem ahO{p:Prop}(h:p:=by
  rw[<-hD]at hq hS;have e0:IntKind.i64.wrap (D:Int)=(D:Int):=by rw[IntKind.wrap_i64];omega
  have HD:=aH hD;clear z K hR hP S hD;go_wp2;go_round
  case rel=>exact⟨i+1,by omega,by go_num,by rw[<-HD.out]⟩
  case measure=>simp[intOf];omega):p:=h
theorem TH(n k:Nat)(w:World)(hn:n<=6)(hk:k<=n):
  Calls prog 305 #[(n:Int),(k:Int)] w fun e w'=>e=.returned (aG (jX n k:Int))/\w=w':=by
 have h1:¬(n:Int)<(k:Int):=aD;have hb:∀i:Nat,i<7->i<=k->jX n i<=20/\jX n i*(n-i)<=120:=fun i h _=>⟨anX n aD i h,anY n aD i h⟩;have HB:=aH hb;clear hb;go_enter func305,ntmps305;go_wp2;go_loop [5,15] (fun rv O=>∃i:Nat,i<=k/\O=aG i/\rv=aG (jX n i:Int)) (fun _ O=>k-(intOf O).toNat)
 case atStart=>exact⟨0,Nat.zero_le _,rfl,rfl⟩
 case round=>
  obtain⟨i,hi,rfl,rfl⟩:=hrel;have hb:=HB.out i aD hi;by_cases hlt:i<k
  ·have I:(i:Int)<(k:Int):=aD;have K:jX n (i+1)=jX n i*(n-i)/(i+1):=rfl;have z:(jX n i:Int)*((n:Int)-(i:Int))=((jX n i*(n-i):Nat):Int):=by rw[Int.natCast_mul,Int.ofNat_sub aD]
   obtain⟨R,hR⟩:=aJ (jX n i);rw[<-hR]at hb K z ⊢;obtain⟨P,hP⟩:=aJ (R*(n-i));rw[<-hP]at hb K z;have b7:IntKind.i64.wrap ((n:Int)-(i:Int))=(n:Int)-(i:Int):=by rw[IntKind.wrap_i64];omega
   have b8:IntKind.i64.wrap ((R:Int)*((n:Int)-(i:Int)))=(P:Int):=by rw[z,IntKind.wrap_i64];omega
   have b9:IntKind.i64.wrap ((i:Int)+1)=(i:Int)+1:=by rw[IntKind.wrap_i64];omega
   have hq:(P:Int).tdiv ((i:Int)+1)=(jX n (i+1):Int):=by rw[K,show(i:Int)+1=((i+1:Nat):Int) by simp];rfl
   have HQ:=aH hq;have b5:¬(i:Int)+1=0:=aD;have c9:=hb.2;have S:P/(i+1)<=P:=Nat.div_le_self _ _;have hS:(jX n (i+1))<=120:=by rw[K];omega
   obtain⟨D,hD⟩:=aJ (jX n (i+1));exact ahO
  ·have I:¬(i:Int)<(k:Int):=aD;have F:i=k:=aD;have HI:=aH F;clear F;go_wp2;go_ret;exact⟨by rw[<-HI.out];rfl,rfl⟩
theorem ZG(n k:Nat)(w:World)(hn:n<=6)(hk:k<=n):
  Calls prog 104 #[(n:Int),(k:Int)] w fun e w'=>e=.returned (aG (jX n k:Int))/\w=w':=by
 have hb:∀i:Nat,i<7->i<=k->uQ n k i<=20/\uQ n k i*(n-k+(i+1))<=140:=fun i h h'=>⟨anZ n aD k aD hk i h h',akE n aD k aD hk i h h'⟩;have J:=akF n aD k aD hk;have Y:dV (n:Int) 0 20=true:=cR.2 ⟨by omega,by omega⟩;have Z:dV (k:Int) 0 (n:Int)=true:=cR.2 ⟨by omega,by omega⟩;have M:=fun W=>cP (n:Int) 0 20 W;have N:=fun W=>cP (k:Int) 0 (n:Int) W;simp only[Y]at M;simp only[Z]at N;have b0:=aH M;have b1:=aH N;have HB:=aH hb;have b3:=aH J;have e4:IntKind.i64.wrap ((n:Int)-(k:Int))=(n:Int)-(k:Int):=by rw[IntKind.wrap_i64];omega
 clear hb J Y Z M N;go_enter func104,ntmps104;go_wp2_with (go_at_call 77;first|(with_reducible refine(b0.out _).mono ?_;rintro e w' ⟨rfl,rfl⟩)|(with_reducible refine(b1.out _).mono ?_;rintro e w' ⟨rfl,rfl⟩));go_loop [5,6] (fun rv O=>∃i:Nat,i<=k/\O=aG ((i:Int)+1)/\rv=aG (uQ n k i:Int)) (fun _ O=>k+1-(intOf O).toNat)
 case atStart=>exact⟨0,Nat.zero_le _,rfl,rfl⟩
 case round=>
  obtain⟨i,hi,rfl,rfl⟩:=hrel;have hb:=HB.out i aD hi;by_cases hlt:i<k
  ·have I:(i:Int)+1<=(k:Int):=aD;have K:uQ n k (i+1)=uQ n k i*(n-k+(i+1))/(i+1):=rfl;have z:(uQ n k i:Int)*((n:Int)-(k:Int)+((i:Int)+1))=((uQ n k i*(n-k+(i+1)):Nat):Int):=by rw[Int.natCast_mul,Int.natCast_add,Int.ofNat_sub hk];simp
   obtain⟨R,hR⟩:=aJ (uQ n k i);rw[<-hR]at hb K z ⊢;obtain⟨P,hP⟩:=aJ (R*(n-k+(i+1)));rw[<-hP]at hb K z;have b7:IntKind.i64.wrap ((n:Int)-(k:Int)+((i:Int)+1))=(n:Int)-(k:Int)+((i:Int)+1):=by rw[IntKind.wrap_i64];omega
   have b8:IntKind.i64.wrap ((R:Int)*((n:Int)-(k:Int)+((i:Int)+1)))=(P:Int):=by rw[z,IntKind.wrap_i64];omega
   have b9:IntKind.i64.wrap ((i:Int)+1+1)=(i:Int)+1+1:=by rw[IntKind.wrap_i64];omega
   have hq:(P:Int).tdiv ((i:Int)+1)=(uQ n k (i+1):Int):=by rw[K,show(i:Int)+1=((i+1:Nat):Int) by simp];rfl
   have b5:¬(i:Int)+1=0:=aD;have S:P/(i+1)<=P:=Nat.div_le_self _ _;have hS:(uQ n k (i+1))<=140:=by rw[K];omega
   obtain⟨D,hD⟩:=aJ (uQ n k (i+1));exact ahO
  ·have I:¬(i:Int)+1<=(k:Int):=aD;have F:i=k:=aD;have HI:=aH F;clear F;go_wp2;go_ret;exact⟨by rw[<-b3.out,<-HI.out];rfl,rfl⟩
theorem ahH{p:Prop}(h:p:=by
  have h:=a7 s K;obtain⟨n,rfl⟩:=Int.eq_ofNat_of_zero_le h.1;rw[Int.toNat_natCast]at h;have e:((2:Int)^N)=((2^N:Nat):Int):=by simp
  have h7:(2:Nat)^N<=2^6:=Nat.pow_le_pow_right aQ hN;exact⟨n,rfl,by omega,aq7 N aD n aD⟩):p:=h
theorem alS(g:Int)(l:List Int)(v:Value)(w:World)(hv:aK w v l)(R:aU g l=true):
  Calls prog 224 #[.agg #[g,v]] w fun e w'=>e=.returned (tU g l)/\Below w w w':=by
 have c6:=hv;obtain⟨a,b,g8,c,rfl,e5,Y,hc,hb⟩:=hv.view prog 25 3 underlying25 aN;obtain⟨h0,h6,a7,c5⟩:=dB R;obtain⟨N,rfl⟩:=Int.eq_ofNat_of_zero_le h0;have hN:N<=6:=aD;have g0:=iL R;have hx:tU (N:Int) l=rP N l l.length:=by unfold tU;rw[R,Int.toNat_natCast];rfl
 have hm:∀s∈l,∃n:Nat,s=(n:Int)/\n<64/\bY n<=N:=fun s K=>by exact ahH
 have K0:=aP.new w 29 #[(N:Int),aA a l.length c];have M:=P9 N l;have HX:=aH hx;have HC:=aH hc;have b0:=aH Y;have HM:=aH hm;have a8:=aH M;have I:=cQ (N:Int) l _ _ (c6.alloc (.cells #[(N:Int),aA a l.length c] 29));rw[R]at I;have a9:=aH I;clear hx hc Y hm M I R a7 c5;go_enter func224,ntmps224;go_wp2_with fail;refine a9.out.mono ?_;rintro e w1 ⟨rfl,b1⟩;have B1:Below w w w1:=(bF _ _).after b1 (by simp);have K1:=K0.keep b1;have G1:=K1.cell;clear K0 b1;go_wp2_with fail;clear G1;go_loopw [3,12] (fun sv iv wr=>∃(j m:Nat),j<=l.length/\iv=aG j/\sv=aG (rP N l j)/\wr=w1.drewN m) (fun _ iv _=>l.length-(intOf iv).toNat)
 case atStart=>exact⟨0,0,Nat.zero_le _,rfl,rfl,rfl⟩
 case round=>
  obtain⟨j,m,hj,rfl,rfl,rfl⟩:=hrel;have b6:=a8.out j;have G:=K1.cell;have B:=B1;by_cases hlt:j<l.length
  ·skip
   have a1:(j:Int)<(l.length:Int):=aD;have ck:=aR HC.out hb B aI j hlt;have ik:=fun W=>b0.out W j hlt;obtain⟨n,hn,e6,J⟩:=HM.out _ (List.getElem_mem hlt);have K:rP N l (j+1)=rP N l j+((60/jX N (bY n):Nat):Int):=by rw[rP,aS l j hlt,hn,Int.toNat_natCast]
   rw[hn]at ck;have b7:=aaZ N aD (bY n) aD J;obtain⟨p,hp⟩:=aJ (bY n);obtain⟨D,hD⟩:=aJ (jX N (bY n));rw[<-hD]at K b7;have hq:(60:Int).tdiv (D:Int)=((60/D:Nat):Int):=rfl;have a6:60/D<=60:=Nat.div_le_self _ _;obtain⟨Q,hQ⟩:=aJ (60/D);rw[<-hQ]at K hq a6;obtain⟨S,hS⟩:=aJ (rP N l j);rw[<-hS]at K b6 ⊢;have g2:¬(D:Int)=0:=aD;have g6:IntKind.i64.wrap (Q:Int)=(Q:Int):=by rw[IntKind.wrap_i64];omega
   have g7:IntKind.i64.wrap (S+(Q:Int))=S+(Q:Int):=by rw[IntKind.wrap_i64];omega
   have HS:=aH K;have HD:=aH hD;have b3:=aH J;have F:=aH (fun W=>fH n W aD);simp only[<-hp]at F;have z:=aH (fun W=>TH N p W hN (by have:=b3.out;omega));have O:jX N p=D:=by rw[HD.out,hp]
   simp only[O]at z;clear hn K hD hQ hS hp J O;go_wp2_with fail;go_quiet ((first|(go_at_call 214;first|exact gL (F.out _)|exact jF (F.out _))|(go_at_call 305;first|exact gL (z.out _)|exact jF (z.out _))));go_wp2;go_roundw
   case rel=>exact⟨j+1,m+nq,by omega,by go_num,by rw[HS.out],by simp⟩
   case measure=>simp[intOf];omega
  ·have a1:¬(j:Int)<(l.length:Int):=aD;have Z:j=l.length:=aD;have HJ:=aH Z;clear Z;go_wp2;go_ret;exact⟨fL (by rw[HX.out,<-HJ.out]),B1.drewN' _⟩
theorem alT(g:Int)(l:List Int)(v:Value)(w:World)(hv:aK w v l)(R:aU g l=true):
  Calls prog 56 #[.agg #[g,v]] w fun e w'=>e=.returned (tU g l)/\Below w w w':=by
 have c6:=hv;obtain⟨a,b,g8,c,rfl,e5,Y,hc,hb⟩:=hv.view prog 25 3 underlying25 aN;obtain⟨h0,h6,a7,c5⟩:=dB R;obtain⟨N,rfl⟩:=Int.eq_ofNat_of_zero_le h0;have hN:N<=6:=aD;have g0:=iL R;have hx:tU (N:Int) l=rP N l l.length:=by unfold tU;rw[R,Int.toNat_natCast];rfl
 have hm:∀s∈l,∃n:Nat,s=(n:Int)/\n<64/\bY n<=N:=fun s K=>by exact ahH
 have K0:=aP.new w 29 #[(N:Int),aA a l.length c];have M:=P9 N l;have HX:=aH hx;have HC:=aH hc;have b0:=aH Y;have HM:=aH hm;have a8:=aH M;have I:=cK (N:Int) l _ _ (c6.alloc (.cells #[(N:Int),aA a l.length c] 29));rw[R]at I;have a9:=aH I;clear hx hc Y hm M I R a7 c5;go_enter func56,ntmps56;go_wp2_with fail;refine a9.out.mono ?_;rintro e w1 ⟨rfl,b1⟩;have B1:Below w w w1:=(bF _ _).after b1 (by simp);have K1:=K0.keep b1;have G1:=K1.cell;clear K0 b1;go_wp2_with fail;clear G1;go_loopw [3,4] (fun sv iv wr=>∃(j m:Nat),j<=l.length/\iv=aG j/\sv=aG (rP N l j)/\wr=w1.drewN m) (fun _ iv _=>l.length-(intOf iv).toNat)
 case atStart=>exact⟨0,0,Nat.zero_le _,rfl,rfl,rfl⟩
 case round=>
  obtain⟨j,m,hj,rfl,rfl,rfl⟩:=hrel;have b6:=a8.out j;have G:=K1.cell;have B:=B1;by_cases hlt:j<l.length
  ·skip
   have a1:(j:Int)<(l.length:Int):=aD;have ck:=aR HC.out hb B aI j hlt;have ik:=fun W=>b0.out W j hlt;obtain⟨n,hn,e6,J⟩:=HM.out _ (List.getElem_mem hlt);have K:rP N l (j+1)=rP N l j+((60/jX N (bY n):Nat):Int):=by rw[rP,aS l j hlt,hn,Int.toNat_natCast]
   rw[hn]at ck;have b7:=aaZ N aD (bY n) aD J;obtain⟨p,hp⟩:=aJ (bY n);obtain⟨D,hD⟩:=aJ (jX N (bY n));rw[<-hD]at K b7;have hq:(60:Int).tdiv (D:Int)=((60/D:Nat):Int):=rfl;have a6:60/D<=60:=Nat.div_le_self _ _;obtain⟨Q,hQ⟩:=aJ (60/D);rw[<-hQ]at K hq a6;obtain⟨S,hS⟩:=aJ (rP N l j);rw[<-hS]at K b6 ⊢;have g2:¬(D:Int)=0:=aD;have g6:IntKind.i64.wrap (Q:Int)=(Q:Int):=by rw[IntKind.wrap_i64];omega
   have g7:IntKind.i64.wrap (S+(Q:Int))=S+(Q:Int):=by rw[IntKind.wrap_i64];omega
   have HS:=aH K;have HD:=aH hD;have b3:=aH J;have F:=aH (fun W=>lQ n W aD);simp only[<-hp]at F;have z:=aH (fun W=>ZG N p W hN (by have:=b3.out;omega));have O:jX N p=D:=by rw[HD.out,hp]
   simp only[O]at z;clear hn K hD hQ hS hp J O;go_wp2_with fail;go_quiet ((first|(go_at_call 84;first|exact gL (F.out _)|exact jF (F.out _))|(go_at_call 104;first|exact gL (z.out _)|exact jF (z.out _))));go_wp2;go_roundw
   case rel=>exact⟨j+1,m+nq,by omega,by go_num,by rw[HS.out],by simp⟩
   case measure=>simp[intOf];omega
  ·have a1:¬(j:Int)<(l.length:Int):=aD;have Z:j=l.length:=aD;have HJ:=aH Z;clear Z;go_wp2;go_ret;exact⟨fL (by rw[HX.out,<-HJ.out]),B1.drewN' _⟩
theorem alE(s r:Int)(w:World)(D:0<=s/\s<64)(hr:0<=r/\r<64):
  Calls prog 351 #[s,r] w fun e w'=>e=.returned (CS s r)/\w=w':=by
 have Z:=dU D.1 (show s<4611686018427387904 by omega) hr.1 (show r<4611686018427387904 by omega);have hB:=lA D.1 D.2 hr.1 hr.2;have F:=kE s r 64 D.1 D.2;have I:=mY s r 64 D.1 D.2;have z:=WD D hr;have J:CS s r=max (cT (bB s r)-cT (cG s r)) (-(cT (bB s r)-cT (cG s r))):=rfl;obtain⟨A,N⟩:=aJ (bB s r);obtain⟨B,O⟩:=aJ (cG s r);rw[<-N]at Z F z J;rw[<-O]at hB I z J;have K:=aH (fun W=>sR A W F.1 aD);have M:=aH (fun W=>sR B W I.1 aD);obtain⟨p,R⟩:=aJ (cT A);obtain⟨q,S⟩:=aJ (cT B);simp only[<-R]at K z J;simp only[<-S]at M z J;have a1:IntKind.i64.wrap (p-q)=p-q:=by rw[IntKind.wrap_i64];omega
 have a6:IntKind.i64.wrap (-(p-q))=-(p-q):=by rw[IntKind.wrap_i64];omega
 have Y:=aH J;clear J N O R S F I;go_enter func351,ntmps351;go_wp2_with (go_at_call 214;first|(with_reducible refine(K.out _).mono ?_;rintro e w' ⟨rfl,rfl⟩)|(with_reducible refine(M.out _).mono ?_;rintro e w' ⟨rfl,rfl⟩));go_ret;exact⟨fL (by rw[Y.out];try omega),rfl⟩
theorem aeS(l:List Int)(v:Value)(r:Int)(w:World)(hv:aK w v l)(hm:∀s∈l,0<=s/\s<64)(hr:0<=r/\r<64):
  Calls prog 301 #[v,r] w fun e w'=>e=.returned (wF l r)/\w=w':=by
 obtain⟨a,b,b6,c,rfl,a8,I,hc,hb⟩:=hv.view prog 25 3 underlying25 aN;have F:=JZ l r hm hr;have HC:=aH hc;have S:=aH I;have HM:=aH hm;have O:=aH F;clear hc I hm F;go_enter func301,ntmps301;go_wp2;go_loop [5,10] (fun mv iv=>∃j:Nat,j<=l.length/\iv=aG j/\mv=aG (tZ l r j)) (fun _ iv=>l.length-(intOf iv).toNat)
 case atStart=>exact⟨0,Nat.zero_le _,rfl,rfl⟩
 case round=>
  obtain⟨j,hj,rfl,rfl⟩:=hrel;have Y:=O.out j;by_cases hlt:j<l.length
  ·have K:(j:Int)<(l.length:Int):=aD;have ck:=HC.out j hlt;have ik:=fun W=>S.out W j hlt;have D:=fun W=>alE l[j] r W (HM.out _ (List.getElem_mem hlt)) hr;have N:tZ l r (j+1)=max (tZ l r j) (CS l[j] r):=by rw[tZ,aS l j hlt]
   obtain⟨y,Z⟩:=aJ (l[j]);rw[<-Z]at ck N;simp only[<-Z]at D;obtain⟨z,hz⟩:=aJ (CS y r);rw[<-hz]at N;simp only[<-hz]at D;obtain⟨M,hM⟩:=aJ (tZ l r j);rw[<-hM]at N Y ⊢;have HS:=aH N;have R:=aH D;clear Z hz hM N D;go_wp2_with (go_at_call 351;refine(R.out _).mono ?_;rintro e w' ⟨rfl,rfl⟩);go_round
   case rel=>exact⟨j+1,by omega,by go_num,by rw[HS.out];try omega⟩
   case measure=>simp[intOf];omega
  ·have K:¬(j:Int)<(l.length:Int):=aD;have J:j=l.length:=aD;have HJ:=aH J;clear J;go_wp2;go_ret;exact⟨fL (by unfold wF;rw[<-HJ.out]),rfl⟩
theorem afC(l:List Int)(r:Nat):jY l (r+1)=if wF l ((r+1:Nat):Int)<(jY l r).2 then (((r+1:Nat):Int),wF l ((r+1:Nat):Int)) else jY l r:=rfl
theorem ahV{p:Prop}(h:p:=by
  clear F I hD;go_wp2_with (go_at_call 301;refine c5.out.mono ?_;rintro e w' ⟨rfl,rfl⟩);go_roundw
  case rel=>exact⟨r+1,by omega,by go_num,by rw[R.out],by rw[R.out],K2,B2⟩
  case measure=>simp[intOf];omega):p:=h
theorem TL(g:Int)(l:List Int)(v:Value)(w:World)(hv:aK w v l)(hf:aU g l=true):
  Calls prog 221 #[.agg #[g,v]] w fun e w'=>e=.returned (.tuple #[(BK g l),(yR g l)])/\Below w w w':=by
 obtain⟨a,c,rfl⟩:=hv.shape;have hm:=dR hf;obtain⟨h0,h6,_,_⟩:=dB hf;obtain⟨N,rfl⟩:=Int.eq_ofNat_of_zero_le h0;have hN:N<=6:=aD;have S:BK (N:Int) l=(jY l (2^N-1)).1:=by unfold BK;rw[hf,Int.toNat_natCast];rfl
 have Y:yR (N:Int) l=(jY l (2^N-1)).2:=by unfold yR;rw[hf,Int.toNat_natCast];rfl
 have a8:=PL l hm;have I:=fun(W:World) (r:Int) (h:aK W (aA a l.length c) l) (hr:0<=r/\r<64)=>aeS l _ r W h hm hr;have O:=fun(W:World) (h:aK W (aA a l.length c) l)=>iT (N:Int) _ l W h h0 aD;simp only[Int.toNat_natCast]at O;have c6:(2:Nat)^N<=2^6:=Nat.pow_le_pow_right aQ hN;have c9:=Nat.two_pow_pos N;have J:((2:Int)^N)=((2^N:Nat):Int):=by simp
 have z:jY l 0=(0,wF l 0):=rfl;obtain⟨M,hM⟩:=aJ (2^N-1);have a6:((2:Int)^N)-1=(M:Int):=by rw[J,hM];omega
 have f0:M<64:=aD;rw[<-hM]at S Y;simp only[a6]at O;have K0:=aP.new w 29 #[(N:Int),aA a l.length c];have HR:=aH (And.intro S Y);have b7:=aH a8;have a1:=aH I;have b8:=aH O;have b4:=hv.alloc (.cells #[(N:Int),aA a l.length c] 29);have Z:=I _ 0 b4 aD;obtain⟨W0,a7⟩:=aJ (wF l 0);rw[<-a7]at Z z;have HW:=aH Z;have HS:=aH z;clear S Y a8 I O c6 c9 J hM a6 hm hf Z z a7 b4;go_enter func221,ntmps221;go_wp2_with (go_at_call 301;refine HW.out.mono ?_;rintro e w' ⟨rfl,rfl⟩);go_loopw [4,5,6] (fun bv mv iv wr=>∃(r:Nat),r<=M/\iv=aG ((r:Int)+1)/\bv=aG (jY l r).1/\mv=aG (jY l r).2/\aP wr w 29 #[(N:Int),aA a l.length c]/\Below w w wr) (fun _ _ iv _=>M+1-(intOf iv).toNat)
 case atStart=>exact⟨0,Nat.zero_le _,rfl,by rw[HS.out],by rw[HS.out],K0,bF _ _⟩
 case round=>
  obtain⟨r,hr,rfl,rfl,rfl,K,B⟩:=hrel;clear K0;have c8:=b7.out r aD;have F:=afC l r;have a9:((r+1:Nat):Int)=(r:Int)+1:=aD;rw[a9]at F;have d0:=a1.out;obtain⟨C,hC⟩:=aJ (jY l r);rw[<-hC]at c8 F ⊢;have HC:=aH hC;have G:=K.cell;clear hC a9 d0;go_wp2_with fail;refine(b8.out wr (hv.below B aI)).mono ?_;rintro e w2 ⟨rfl,b2⟩;have B2:=B.after b2 B.size;have K2:=K.keep b2;clear G;have G:=K2.cell;by_cases hlt:r<M
  ·have b1:(r:Int)+1<=(M:Int):=aD;have I:=a1.out w2 ((r:Int)+1) (hv.below B2 aI) aD;obtain⟨D,hD⟩:=aJ (wF l ((r:Int)+1));rw[<-hD]at I F;have c5:=aH I;have f6:IntKind.i64.wrap ((r:Int)+1+1)=(r:Int)+1+1:=by rw[IntKind.wrap_i64];omega
   by_cases hd:D<C.2
   ·rw[if_pos hd]at F;have R:=aH F;exact ahV
   ·rw[if_neg hd]at F;have R:=aH F;exact ahV
  ·have b1:¬(r:Int)+1<=(M:Int):=aD;have b3:r=M:=aD;have b9:=aH b3;clear b3 F;go_wp2;go_ret2;exact⟨by rw[HR.out.1,HR.out.2,<-b9.out,HC.out];rfl,B2⟩
theorem ai7{N:Nat}{a b:Int}(F:N<=6)(D:0<=a/\a<2^N)(hb:0<=b/\b<2^N):dZ (N:Int) [a,b]=true:=by
 unfold dZ;rw[Bool.and_eq_true,List.all_eq_true];refine⟨cR.2 ⟨by omega,by omega⟩,fun s z=>?_⟩;rw[Int.toNat_natCast];rcases List.mem_cons.1 z with e|z
 ·rw[e];exact jQ.2 D
 ·rw[List.mem_singleton]at z;rw[z];exact jQ.2 hb
theorem aK.pairB{w:World}{b:Nat}{x y:Int}(D:w.cell? ⟨b,0,none⟩=some (aG x))(h1:w.cell? ⟨b,1,none⟩=some (aG y))(F:dL x)(I:dL y):aK w (aA (some ⟨b,0,none⟩) 2 2) [x,y]:=
 ⟨some ⟨b,0,none⟩,2,rfl,aI,by decide,by
  intro q z;rcases List.mem_cons.1 z with e|z
  ·rw[e];exact F
  ·rw[List.mem_singleton]at z;rw[z];exact I,.inr ⟨b,0,rfl,World.block_lt_of_cell? w _ D,fun k hk=>by
   match k,hk with
   |0,_=>exact D
   |1,_=>exact h1⟩⟩
theorem ah5{p:Prop}(h:p:=by
  go_wp2_with (first|(go_at_call 219;refine J.out.mono ?_;rintro e w' ⟨rfl,rfl⟩)|(go_at_call 354;refine(I.out _).mono ?_;rintro e w' ⟨rfl,rfl⟩));go_ret;exact⟨aW Z.out.symm,bF _ _⟩):p:=h
theorem acT(N:Nat)(a b:Int)(w:World)(S:N<=6)(K:0<=a/\a<2^N)(hb:0<=b/\b<2^N):
  Calls prog 307 #[(N:Int),a,b] w fun e w'=>e=.returned (.bool (U9 N a b))/\Below w w w':=by
 have O:=cJ N 6 S;have R:=O.1;have a6:=O.2;simp at R;have D:=rI (N:Int) [a,b] (aA (some ⟨w,0,none⟩) 2 2) (w.alloc (.cells #[a,b] 3)) (aK.pairB (aZ _ _ _ _ _ rfl) (aZ _ _ _ _ _ rfl) ⟨by omega,by omega⟩ ⟨by omega,by omega⟩);rw[ai7 S K hb]at D;have hcl:=fun W=>RM a b W ⟨K.1,by omega⟩ ⟨hb.1,by omega⟩;have M:=sJ K.1 (show a<4611686018427387904 by omega) hb.1 (show b<4611686018427387904 by omega);have F:U9 N a b=(rD a b&&eH a b != 2^N-1):=rfl;have a7:IntKind.i64.wrap ((2:Int)^N)=2^N:=by rw[IntKind.wrap_i64];omega
 have a8:IntKind.i64.wrap ((2:Int)^N-1)=2^N-1:=by rw[IntKind.wrap_i64];omega
 obtain⟨y,Y⟩:=aJ (eH a b);rw[<-Y]at M F;obtain⟨cb,z⟩:=aJ (rD a b);simp only[<-z]at hcl;rw[<-z]at F;have J:=aH D;have I:=aH hcl;have Z:=aH F;clear D hcl F Y z O;go_enter func307,ntmps307
 cases cb with
 |false=>exact ah5
 |true=>exact ah5
theorem ag8{p:Prop}(h:p:=by
  rw[t1,t2,t3]at R;go_wp2_with (first|(go_at_call 78;refine(J.out _).mono ?_;rintro e w' ⟨rfl,rfl⟩)|(go_at_call 77;first|(with_reducible refine(K.out _).mono ?_;rintro e w' ⟨rfl,rfl⟩)|(with_reducible refine(M.out _).mono ?_;rintro e w' ⟨rfl,rfl⟩)|(with_reducible refine(O.out _).mono ?_;rintro e w' ⟨rfl,rfl⟩)));go_ret;exact⟨aW R.out.symm,rfl⟩):p:=h
theorem ag9{p:Prop}(h:p:=by
  go_wp2_with (first|(go_at_call 78;refine(J.out _).mono ?_;rintro e w' ⟨rfl,rfl⟩)|(go_at_call 77;first|(with_reducible refine(K.out _).mono ?_;rintro e w' ⟨rfl,rfl⟩)|(with_reducible refine(M.out _).mono ?_;rintro e w' ⟨rfl,rfl⟩)|(with_reducible refine(O.out _).mono ?_;rintro e w' ⟨rfl,rfl⟩)));go_ret;exact⟨aW R.out.symm,rfl⟩):p:=h
theorem acU(N:Nat)(a b:Int)(w:World)(hN:N<=6)(ha:0<=a/\a<2^N)(hb:0<=b/\b<2^N):
  Calls prog 107 #[(N:Int),a,b] w fun e w'=>e=.returned (.bool (U9 N a b))/\w=w':=by
 have hp:=cJ N 6 hN;have b0:=hp.1;have b6:=hp.2;simp at b0;have S:dV (N:Int) 0 6=true:=cR.2 ⟨by omega,by omega⟩;have Y:dV a 0 (2^N-1)=true:=cR.2 ⟨ha.1,by omega⟩;have Z:dV b 0 (2^N-1)=true:=cR.2 ⟨hb.1,by omega⟩;have D:=fun W=>cP (N:Int) 0 6 W;have F:=fun W=>cP a 0 (2^N-1) W;have I:=fun W=>cP b 0 (2^N-1) W;simp only[S]at D;simp only[Y]at F;simp only[Z]at I;have J:=aH (fun W=>eO N W aD);have a8:=sJ ha.1 (show a<4611686018427387904 by omega) hb.1 (show b<4611686018427387904 by omega);have a7:=dU ha.1 (show a<4611686018427387904 by omega) hb.1 (show b<4611686018427387904 by omega);have hx:U9 N a b=(((bB a b != 0&&bB a b != a)&&bB a b != b)&&eH a b != 2^N-1):=by unfold U9;rw[DQ ha.1 hb.1];rfl
 obtain⟨y,hy⟩:=aJ (eH a b);obtain⟨z,hz⟩:=aJ (bB a b);rw[<-hy]at a8 hx;rw[<-hz]at a7 hx;have K:=aH D;have M:=aH F;have O:=aH I;have R:=aH hx;clear D F I S Y Z hx hy hz hp;go_enter func107,ntmps107
 cases t1:z != 0 with
 |false=>rw[t1]at R;exact ag9
 |true=>
  cases t2:z != a with
  |false=>rw[t1,t2]at R;exact ag9
  |true=>
   cases t3:z != b with
   |false=>exact ag8
   |true=>exact ag8
end
end Go.Proofs.YtkdbkjjacgigiaaGreatDoor
