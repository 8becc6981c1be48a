/- Lemmas for CardClaims, part 27 of 52. No condition. -/
import Derived.Test.YtipejodijbjpcaaGreatDoorQ04
import Derived.Test.YtipejodijbjpcaaGreatDoorQ05
import Derived.Test.YtipejodijbjpcaaGreatDoorQ08
import Derived.Test.YtipejodijbjpcaaGreatDoorQ11
import Derived.Test.YtipejodijbjpcaaGreatDoorQ17
import Derived.Test.YtipejodijbjpcaaGreatDoorQ19
import Derived.Test.YtipejodijbjpcaaGreatDoorQ21
import Derived.Test.YtipejodijbjpcaaGreatDoorQ23
set_option maxRecDepth 100000
set_option maxHeartbeats 64000000
namespace Go.Proofs.YtipejodijbjpcaaGreatDoor
section
open Go.RowKit Go.G5
def rK(l:List Int)(s:Nat):Int:=-(l.getD s 0)
def dV(l:List Int):List Int:=bM (rK l) l.length
def rX(n:Int)(l:List Int):Int:=if aN n l then n else 0
def rW(n:Int)(l:List Int):List Int:=if aN n l then dV l else []
theorem iP(l:List Int):(dV l).length=l.length:=by unfold dV bM;simp
theorem wQ(l:List Int)(s:Nat)(h:s<l.length):rK l s=-l[s]:=by unfold rK;rw[aJ l _ h]
theorem wL(l:List Int)(s:Nat)(h:s<l.length):(dV l)[s]'(by rw[iP];exact h)=-l[s]:=by
 unfold dV bM;rw[List.getElem_map,List.getElem_range];exact wQ l s h
theorem tA(n:Int)(l:List Int)(h:aN n l=true):aN n (dV l)=true:=by
 obtain⟨D,F,o,z⟩:=jS h;unfold aN dB;rw[iP,bL.2 ⟨D,F⟩,decide_eq_true o];simp only[Bool.true_and,List.all_eq_true];intro x I;obtain⟨s,A,rfl⟩:=List.getElem_of_mem I;rw[iP]at A;rw[wL l s A];have:=z s A;exact bL.2 ⟨by omega,by omega⟩
theorem OB(l:List Int)(v:Value)(g h s:Nat)(W:World)(U:aD W v l)(D:s<l.length)(A:∀k,(hk:k<l.length)->-1000<=l[k]/\l[k]<=1000)
  (S:W.cell? ⟨h,0,none⟩=some (.int .i64 (-1))) (c1:W.cell? ⟨g,1,none⟩=some v):
  Calls Tryz.prog 380 #[.int .i64 s,.pointer (some ⟨h,0,none⟩),.pointer (some ⟨g,0,none⟩)] W fun e w'=>e=.returned (.int .i64 (rK l s))/\Below W.heap.size W w':=by
 obtain⟨a,b,L,c,rfl,O,z,M,hb⟩:=U.view Tryz.prog 22 3 Tryz.underlying22 aG;have K:=wQ l s D;have o:=M s D;have N:=fun W=>z W s D;have I:=A s D;obtain⟨x,Q⟩:∃x,x=l[s]:=⟨_,rfl⟩;rw[<-Q]at K o I;have Z:∀y:Ext W,y.w.cell? ⟨h,0,none⟩=some (.int .i64 (-1)):=fun y=>y.cell S;have e1:∀x:Ext W,x.w.cell? ⟨g,1,none⟩=some (.slice a l.length c):=fun x=>x.cell c1;have e2:∀y:Ext W,y.w.cell? ⟨b,L+s,none⟩=some (.int .i64 x):=fun y=>y.cell o;have R:=Lib.hid K;clear M z hb K o Q A;go_enter Tryz.func380,Tryz.ntmps380;go_wp2_with fail;refine aO _ (by kernel_rfl) (by kernel_rfl) ?_
 repeat(first|go_big_quiet_skip|(go_big_quiet_want;go_big_quiet_op;first|go_big_quiet_on|(apply Exists.intro;refine⟨fun _=>?_,?_⟩;(fail);go_big_quiet_on)))
 refine wpQuiet_nil ?_;rintro Y ⟨⟨Y,F⟩,rfl⟩
 try dsimp only
 go_wp2;go_ret;exact⟨eJ (by rw[R.out]),F⟩
theorem xA:∀args w,(callFunc 380 args).run Tryz.prog w=.ok (.enter 380 args) w:=enters_of Tryz.func380 (by kernel_rfl) rfl
theorem VT(w:World)(n:Int)(v:Value)(l:List Int)(hv:aD w v l)(_:l.length<=1048576):
  Calls Tryz.prog 354 #[.agg #[.int .i64 n,v],.int .i64 (-1)] w fun e w'=>∃S i U,e=.returned (.tuple #[.agg #[.int .i64 (rX n l),.slice S i U],.bool (aN n l)])/\aC 3 w.heap.size w' (.slice S i U) (rW n l)/\Below w.heap.size w w':=by
 obtain⟨a,c,rfl⟩:=hv.shape;have e7:∀(fn:Fn) (first cap:Array Value) (w:World),(Instr.makeFunc fn first cap).run Tryz.prog w=.ok (.func fn first cap) w:=fun _ _ _ _=>rfl;have R:=Lib.hid (fun W=>fN (-1) (-1000) 1000 W);rw[show cM (-1) (-1000) 1000=true by decide]at R;go_enter Tryz.func354,Tryz.ntmps354;go_wp2_with fail;refine aH ?_;intro V hV;have B:Below w.heap.size w V:=by rw[hV];exact PO _ _ _ _
 have K1:aB V w.heap.size 32 #[.int .i64 n,.slice a l.length c]:=by rw[hV];exact((aB.new _ _ _).alloc _).alloc _
 have L:aB V (w.heap.size+1) 3 #[.int .i64 (-1)]:=by rw[hV];have:=(aB.new (w.alloc (.cells #[.int .i64 n,.slice a l.length c] 32)) 3 #[.int .i64 (-1)]).alloc (.cells #[.int .i64 0,.slice none 0 0] 32);simpa using this
 have A:aB V (w.heap.size+1+1) 32 #[.int .i64 0,.slice none 0 0]:=by rw[hV];have:=aB.new ((w.alloc (.cells #[.int .i64 n,.slice a l.length c] 32)).alloc (.cells #[.int .i64 (-1)] 3)) 32 #[.int .i64 0,.slice none 0 0];simpa using this
 clear hV;refine(eZ n l _ _ (hv.below B (Nat.le_refl _))).mono ?_;rintro e w1 ⟨rfl,D⟩;have K1:=K1.keep D;have L:=L.keep D;have K:=L.cell;have A:=A.keep D;have B1:=B.after D B.size;have d0:=hv.below B1 (Nat.le_refl _);clear B D;have G1:=K1.cell;have z1:=K1.lt;have z2:=A.lt
 cases I:aN n l with
 |false=>
  have Z:rX n l=0:=by unfold rX;rw[I];rfl
  have Y:rW n l=[]:=by unfold rW;rw[I];rfl
  have HN:=Lib.hid Z;have HL:=Lib.hid Y;have HF:=Lib.hid I;have G2:=A.cell;have F2:=A.frozen;clear Z Y;go_wp2;refine aI ?_;intro Wf o;have M:aB Wf (w.heap.size+1+1) 32 #[.int .i64 0,.slice none 0 0]:=by
   rw[o];have:=(A.set 0 (.int .i64 0)).set 1 (.slice none 0 0);simpa using this
  have Bf:Below w.heap.size w Wf:=by rw[o];exact Below.setCell (Below.setCell B1 (by first|omega|(simp;done)|(simp;omega)) _) (by first|omega|(simp;done)|(simp;omega)) _
  have Gf:=M.cell;clear o G1 K G2 F2;exact bodyPost_ret (v:=.tuple #[.agg #[.int .i64 0,.slice none 0 0],.bool false]) (by simp[results,Tryz.results354,go_sem,Gf]) rfl ⟨none,0,0,by rw[HN.out,HF.out],by rw[HL.out];exact aC.nil _ _ _,Bf⟩
 |true=>
  obtain⟨h0,h5,F,Q⟩:=jS I;obtain⟨N,rfl⟩:=Int.eq_ofNat_of_zero_le h0;have c8:N<=5:=by omega
  have a7:l.length=2^N:=by
   have e2:(N:Int).toNat=N:=by omega
   rw[e2]at F
   exact_mod_cast F
  have Z:rX N l=N:=by unfold rX;rw[I];rfl
  have Y:rW N l=dV l:=by unfold rW;rw[I];rfl
  have z:bM (rK l) (2^N)=dV l:=by unfold dV;rw[a7]
  have a6:aN N (bM (rK l) (2^N))=true:=by rw[z];exact tA N l I
  have a8:∀W,aD W (.slice a l.length c) l->W.cell? ⟨w.heap.size+1,0,none⟩=some (.int .i64 (-1))->W.cell? ⟨w.heap.size,1,none⟩=some (.slice a l.length c)->Calls Tryz.prog 273 #[.int .i64 N,.func (.func 380) #[] #[.pointer (some ⟨w.heap.size+1,0,none⟩),.pointer (some ⟨w.heap.size,0,none⟩)]] W fun e w'=>
    ∃S i U,e=.returned (.tuple #[.agg #[.int .i64 N,.slice S i U],.bool true])/\aC 3 W.heap.size w' (.slice S i U) (dV l)/\Below W.heap.size W w':=fun W hW c0 c1=>by
   have:=qD W N c8 380 xA (w.heap.size+1) w.heap.size (rK l) (fun s hs=>by rw[wQ l s (by omega)];have:=Q s (by omega);exact⟨by omega,by omega⟩)
    (fun s W' hs hB=>OB l _ w.heap.size (w.heap.size+1) s W' (hW.keep hB) (by omega) Q (keep hB c0) (keep hB c1))
   rw[a6,if_pos rfl,if_pos rfl,z]at this;exact this
  have HN:=Lib.hid Z;have HL:=Lib.hid Y;have HF:=Lib.hid I;have c5:=Lib.hid a8;clear Z Y I z a6 a8 a7 F Q;go_wp2_with fail;refine(R.out _).mono ?_;rintro e w2 ⟨rfl,rfl⟩;go_wp2_with fail;refine(c5.out _ d0 (K 0) (G1 1)).mono ?_;rintro e w3 ⟨p3,i3,q3,rfl,o3,O⟩;have A:=A.keep O;have B3:=B1.after O B1.size;have G2:=A.cell;have F2:=A.frozen;have z3:=A.lt;clear G1 K O;go_wp2;refine aI ?_;intro Wf o;have M:aB Wf (w.heap.size+1+1) 32 #[.int .i64 N,.slice p3 i3 q3]:=by
   rw[o];have:=(A.set 0 (.int .i64 N)).set 1 (.slice p3 i3 q3);simpa using this
  have Bf:Below w.heap.size w Wf:=by rw[o];exact Below.setCell (Below.setCell B3 (by first|omega|(simp;done)|(simp;omega)) _) (by first|omega|(simp;done)|(simp;omega)) _
  have of:aC 3 w.heap.size Wf (.slice p3 i3 q3) (dV l):=by rw[o];exact((o3.setBelow (by first|omega|(simp;done)|(simp;omega)) _).setBelow (by first|omega|(simp;done)|(simp;omega)) _).mono (by first|omega|(simp;done)|(simp;omega))
  have Gf:=M.cell;clear o G2 F2;exact bodyPost_ret (v:=.tuple #[.agg #[.int .i64 N,.slice p3 i3 q3],.bool true]) (by simp[results,Tryz.results354,go_sem,Gf]) rfl ⟨p3,i3,q3,by rw[HN.out,HF.out],by rw[HL.out];exact of,Bf⟩
theorem XH(w:World)(n:Int)(v:Value)(l:List Int)(hv:aD w v l)(_:l.length<=1048576):
  Calls Tryz.prog 342 #[.agg #[.int .i64 n,v],.int .i64 (-1)] w fun e w'=>∃A i D,e=.returned (.tuple #[.agg #[.int .i64 (rX n l),.slice A i D],.bool (aN n l)])/\aC 3 w.heap.size w' (.slice A i D) (rW n l)/\Below w.heap.size w w':=by
 obtain⟨a,b,i7,c,rfl,f7,e8,hc,hb⟩:=hv.view Tryz.prog 22 3 Tryz.underlying22 aG;have Z:=Lib.hid (fun W=>aR (-1) (-1000) 1000 W);rw[show cM (-1) (-1000) 1000=true by decide]at Z;go_enter Tryz.func342,Tryz.ntmps342;go_wp2_with fail;refine aH ?_;intro V hV;have B:Below w.heap.size w V:=by rw[hV];exact PO _ _ _ _
 have Y:aB V w.heap.size 32 #[.int .i64 n,.slice a l.length c]:=by rw[hV];exact((aB.new _ _ _).alloc _).alloc _
 have z:aB V (w.heap.size+1) 32 #[.int .i64 0,.slice none 0 0]:=by rw[hV];have:=(aB.new (w.alloc (.cells #[.int .i64 n,.slice a l.length c] 32)) 32 #[.int .i64 0,.slice none 0 0]).alloc (.cells #[] 3);simpa using this
 have o0:aC 3 (w.heap.size+1+1) V (.slice (some ⟨w.heap.size+1+1,0,none⟩) 0 0) []:=by
  rw[hV];have:=aC.lit0 (E:=3) (B:=w.heap.size+1+1) ((w.alloc (.cells #[.int .i64 n,.slice a l.length c] 32)).alloc (.cells #[.int .i64 0,.slice none 0 0] 32)) (by simp);simpa using this
 clear hV;refine(cI n l _ _ (hv.below B (Nat.le_refl _))).mono ?_;rintro e w1 ⟨rfl,F⟩;have Y:=Y.keep F;have z:=z.keep F;have o0:=o0.keep F;have B1:=B.after F B.size;have h8:=hv.below B1 (Nat.le_refl _);clear B F;have G1:=Y.cell;have z1:=Y.lt;have z2:=z.lt
 cases L:aN n l with
 |false=>
  have hN:rX n l=0:=by unfold rX;rw[L];rfl
  have hL:rW n l=[]:=by unfold rW;rw[L];rfl
  have HN:=Lib.hid hN;have HL:=Lib.hid hL;have HF:=Lib.hid L;have G2:=z.cell;have F2:=z.frozen;clear hN hL;go_wp2;refine aI ?_;intro Wf o;have O:aB Wf (w.heap.size+1) 32 #[.int .i64 0,.slice none 0 0]:=by
   rw[o];have:=(z.set 0 (.int .i64 0)).set 1 (.slice none 0 0);simpa using this
  have Bf:Below w.heap.size w Wf:=by rw[o];exact Below.setCell (Below.setCell B1 (by first|omega|(simp;done)|(simp;omega)) _) (by first|omega|(simp;done)|(simp;omega)) _
  have Gf:=O.cell;clear o G1 G2 F2;exact bodyPost_ret (v:=.tuple #[.agg #[.int .i64 0,.slice none 0 0],.bool false]) (by simp[results,Tryz.results342,go_sem,Gf]) rfl ⟨none,0,0,by rw[HN.out,HF.out],by rw[HL.out];exact aC.nil _ _ _,Bf⟩
 |true=>
  obtain⟨h0,h5,S,a8⟩:=jS L;have f6:l.length<=32:=by
   have hp:=(iX h0 h5).1;omega
  have hN:rX n l=n:=by unfold rX;rw[L];rfl
  have hL:rW n l=bM (rK l) l.length:=by unfold rW;rw[L];rfl
  have b0:=tA n l L;have HN:=Lib.hid hN;have HL:=Lib.hid hL;have HF:=Lib.hid L;have e6:=Lib.hid b0;have d0:=Lib.hid a8;clear hN hL L S a8 b0;go_wp2_with fail;refine(Z.out _).mono ?_;rintro e w2 ⟨rfl,rfl⟩;go_wp2_with fail;go_loopw [6,7] (fun out i wr=>∃(k:Nat) (A:Option Addr) (I D:Nat),k<=l.length/\out=.slice A I D/\i=.int .i64 k/\aC 3 (w.heap.size+1+1) wr (.slice A I D) (bM (rK l) k)/\aB wr w.heap.size 32 #[.int .i64 n,.slice a l.length c]/\aB wr (w.heap.size+1) 32 #[.int .i64 0,.slice none 0 0]/\Below w.heap.size w wr)
   (fun _ i _=>l.length-(intOf i).toNat)
  case atStart=>exact⟨0,_,_,_,Nat.zero_le _,rfl,rfl,o0,Y,z,B1⟩
  case round=>
   obtain⟨k,A,I,D,hk,rfl,rfl,ho,Kr,Q,B⟩:=hrel;have HO:=Lib.hid ho;clear ho o0 G1 Y z z1 z2;have G1:=Kr.cell;have yB:=B.size;have z2:=Q.lt
   by_cases hlt:k<l.length
   ·have M:=nO (rK l) k
    have b1:=wQ l k hlt;have ck:=aK hc hb B (Nat.le_refl _) k hlt;have ik:=fun W=>e8 W k hlt;have K:=d0.out k hlt;rw[b1]at M;obtain⟨x,hx⟩:∃x,x=l[k]:=⟨_,rfl⟩;rw[<-hx]at ck K M;have h6:(bM (rK l) k).length<=32:=by unfold bM;simp;omega
    have e4:=Lib.hid M;have h9:=K.1;have i1:=K.2;clear M b1 hx K;go_wp2_with (at_builtin;refine bB rfl _ _ _ rfl 3 Tryz.underlying22 aG (w.heap.size+1+1) _ _ (-x) wr.heap.size rfl rfl (aT wr #[.int .i64 (-x)] 3 0 _ rfl) (HO.out.alloc _) ⟨by omega,by omega⟩ (by omega) (by simp;omega) ?_;intro v' w6 N R h7;obtain⟨av,nv,cv,rfl⟩:=N.shape3);have U:=HO.out.lt;have B6:Below w.heap.size w w6:=(B.alloc B.size (.cells #[.int .i64 (-x)] 3)).grown R (by simp;omega) (fun q hq=>by have:=(U q hq).1;omega);have K6:=(Kr.alloc (.cells #[.int .i64 (-x)] 3)).grow R (fun e=>by have:=(U _ e).1;omega);have K7:=(Q.alloc (.cells #[.int .i64 (-x)] 3)).grow R (fun e=>by have:=(U _ e).1;omega);go_roundw
    case rel=>exact⟨k+1,av,nv,cv,by omega,rfl,by go_num,by rw[e4.out];exact N,K6,K7,B6⟩
    case measure=>simp[intOf];omega
   ·have e9:k=l.length:=by omega
    subst e9;have a9:=fun(W:World) (h:aD W (.slice A I D) (dV l))=>uL W n A I D (dV l) h e6.out;have e0:=Lib.hid a9;clear a9;go_wp2_with fail;refine(e0.out wr HO.out.ints).mono ?_;rintro e w4 ⟨rfl,b4⟩;have z:=Q.keep b4;have B4:=B.after b4 B.size;have o4:=HO.out.keep b4;have F2:=z.frozen;have G2:=z.cell;have z4:=z.lt;clear G1;go_wp2;refine aI ?_;intro Wf o;have O:aB Wf (w.heap.size+1) 32 #[.int .i64 n,.slice A I D]:=by
     rw[o];have:=((z.set 0 (.int .i64 n)).set 1 (.slice A I D)).alloc (.cells #[.int .i64 n,.slice A I D] 32);simpa using this
    have hg:w4.grownBy Wf (some (w.heap.size+1)):=by rw[o];exact cN (aA (aA (World.grownBy.refl _ _) 0 _) 1 _) (dI _ (aM _ _))
    have Bf:Below w.heap.size w Wf:=B4.grown hg B4.size (fun q hq=>by have:=Option.some.inj hq;omega);have f0:=o4.lt;have of:=(o4.grow hg (fun q hq e=>by have:=Option.some.inj hq;have:=(f0 _ e).1;omega)).mono (B':=w.heap.size) (by omega);have Gf:=O.cell;clear o G2 F2;exact bodyPost_ret (v:=.tuple #[.agg #[.int .i64 n,.slice A I D],.bool true]) (by simp[results,Tryz.results342,go_sem,Gf]) rfl ⟨A,I,D,by rw[HN.out,HF.out],by rw[HL.out];exact of,Bf⟩
end
section
open Go.RowKit Go.G5
def kD(n:Int)(l:List Int):Bool:=aN n l&&cY n (dV l)
def iW(n:Int)(l:List Int):Bool:=cY n l&&kD n l
theorem TG(n:Int)(l:List Int)(v:Value)(w:World)(O:aD w v l)(N:l.length<=1048576):
  Calls Tryz.prog 318 #[.agg #[.int .i64 n,v]] w fun e w'=>e=.returned (.bool (kD n l))/\Below w.heap.size w w':=by
 obtain⟨a,c,rfl⟩:=O.shape;go_enter Tryz.func318,Tryz.ntmps318;go_wp2_with fail;refine(VT _ n _ l (O.alloc _) N).mono ?_;rintro e R ⟨U,S,Y,rfl,Q,A⟩;have o:Below w.heap.size w R:=(aM _ _).after A (by simp);clear A
 cases z:aN n l with
 |false=>
  have D:kD n l=false:=by unfold kD;rw[z];rfl
  have F:=Lib.hid D;clear D z;go_wp2;go_ret;exact⟨by rw[F.out];rfl,o.after (aM _ _) o.size⟩
 |true=>
  have D:kD n l=cY n (dV l):=by unfold kD;rw[z];rfl
  have M:rX n l=n:=by unfold rX;rw[z];rfl
  have L:rW n l=dV l:=by unfold rW;rw[z];rfl
  rw[L]at Q;rw[M];have K:(dV l).length<=1048576:=by rw[iP];exact N
  have F:=Lib.hid D;clear D M L z;go_wp2_with fail;refine(jP n (dV l) _ _ (Q.ints.alloc _) K).mono ?_;rintro e w2 ⟨rfl,I⟩;go_wp2;go_ret;exact⟨by rw[F.out];rfl,(o.after (aM _ _) o.size).after I (o.after (aM _ _) o.size).size⟩
theorem S2(n:Int)(l:List Int)(v:Value)(w:World)(O:aD w v l)(N:l.length<=1048576):
  Calls Tryz.prog 294 #[.agg #[.int .i64 n,v]] w fun e w'=>e=.returned (.bool (kD n l))/\Below w.heap.size w w':=by
 obtain⟨a,c,rfl⟩:=O.shape;go_enter Tryz.func294,Tryz.ntmps294;go_wp2_with fail;refine(XH _ n _ l (O.alloc _) N).mono ?_;rintro e R ⟨U,S,Y,rfl,Q,A⟩;have o:Below w.heap.size w R:=(aM _ _).after A (by simp);clear A
 cases z:aN n l with
 |false=>
  have D:kD n l=false:=by unfold kD;rw[z];rfl
  have F:=Lib.hid D;clear D z;go_wp2;go_ret;exact⟨by rw[F.out];rfl,o.after (aM _ _) o.size⟩
 |true=>
  have D:kD n l=cY n (dV l):=by unfold kD;rw[z];rfl
  have M:rX n l=n:=by unfold rX;rw[z];rfl
  have L:rW n l=dV l:=by unfold rW;rw[z];rfl
  rw[L]at Q;rw[M];have K:(dV l).length<=1048576:=by rw[iP];exact N
  have F:=Lib.hid D;clear D M L z;go_wp2_with fail;refine(iK n (dV l) _ _ (Q.ints.alloc _) K).mono ?_;rintro e w2 ⟨rfl,I⟩;go_wp2;go_ret;exact⟨by rw[F.out];rfl,(o.after (aM _ _) o.size).after I (o.after (aM _ _) o.size).size⟩
theorem NL(n:Int)(l:List Int)(v:Value)(w:World)(K:aD w v l)(M:l.length<=1048576):
  Calls Tryz.prog 249 #[.agg #[.int .i64 n,v]] w fun e w'=>e=.returned (.bool (iW n l))/\Below w.heap.size w w':=by
 obtain⟨a,c,rfl⟩:=K.shape;have L:=aB.new w 32 #[.int .i64 n,.slice a l.length c];go_enter Tryz.func249,Tryz.ntmps249;go_wp2_with fail;refine(jP n l _ _ (K.alloc _) M).mono ?_;rintro e O ⟨rfl,o⟩;have N:=L.keep o;have A:Below w.heap.size w O:=(aM _ _).after o (by simp);clear o L
 cases D:cY n l with
 |false=>
  have z:iW n l=false:=by unfold iW;rw[D];rfl
  have F:=Lib.hid z;clear z D;go_wp2;go_ret;exact⟨by rw[F.out];rfl,A⟩
 |true=>
  have z:iW n l=kD n l:=by unfold iW;rw[D];rfl
  have F:=Lib.hid z;have Q:=N.cell;clear z D;go_wp2_with fail;refine(TG n l _ _ (K.below A (Nat.le_refl _)) M).mono ?_;rintro e w2 ⟨rfl,I⟩;go_wp2;go_ret;exact⟨by rw[F.out];rfl,A.after I A.size⟩
theorem OY(n:Int)(l:List Int)(v:Value)(w:World)(K:aD w v l)(M:l.length<=1048576):
  Calls Tryz.prog 190 #[.agg #[.int .i64 n,v]] w fun e w'=>e=.returned (.bool (iW n l))/\Below w.heap.size w w':=by
 obtain⟨a,c,rfl⟩:=K.shape;have L:=aB.new w 32 #[.int .i64 n,.slice a l.length c];go_enter Tryz.func190,Tryz.ntmps190;go_wp2_with fail;refine(iK n l _ _ (K.alloc _) M).mono ?_;rintro e O ⟨rfl,o⟩;have N:=L.keep o;have A:Below w.heap.size w O:=(aM _ _).after o (by simp);clear o L
 cases D:cY n l with
 |false=>
  have z:iW n l=false:=by unfold iW;rw[D];rfl
  have F:=Lib.hid z;clear z D;go_wp2;go_ret;exact⟨by rw[F.out];rfl,A⟩
 |true=>
  have z:iW n l=kD n l:=by unfold iW;rw[D];rfl
  have F:=Lib.hid z;have Q:=N.cell;clear z D;go_wp2_with fail;refine(S2 n l _ _ (K.below A (Nat.le_refl _)) M).mono ?_;rintro e w2 ⟨rfl,I⟩;go_wp2;go_ret;exact⟨by rw[F.out];rfl,A.after I A.size⟩
def hH(n:Int)(l x:List Int):Bool:=dZ n l x&&(aS l x (2^n.toNat-1)==0)
theorem xX(w:World)(n:Int)(v:Value)(l:List Int)(hv:aD w v l)(u:Value)(x:List Int)(hu:aD w u x):
  Calls Tryz.prog 18 #[.agg #[.int .i64 n,v],u] w fun e w'=>e=.returned (.bool (hH n l x))/\Below w.heap.size w w':=by
 obtain⟨a,c,rfl⟩:=hv.shape;obtain⟨au,cu,rfl⟩:=hu.shape;have K0:=aB.new w 32 #[.int .i64 n,.slice a l.length c];have K:=aM w (.cells #[.int .i64 n,.slice a l.length c] 32);have A:=hv.alloc (.cells #[.int .i64 n,.slice a l.length c] 32);have F:=hu.alloc (.cells #[.int .i64 n,.slice a l.length c] 32);have z0:=K.size;obtain⟨M,z⟩:∃W,W=w.alloc (.cells #[.int .i64 n,.slice a l.length c] 32):=⟨_,rfl⟩;rw[<-z]at K0 K A F z0;have R:=K0.cell;have e0:∀y:Ext M,y.w.cell? ⟨w.heap.size,0,none⟩=some (.int .i64 n):=fun y=>y.cell (R 0);have e1:∀y:Ext M,y.w.cell? ⟨w.heap.size,1,none⟩=some (.slice a l.length c):=fun y=>y.cell (R 1);have S:=Lib.hid (fun y:Ext M=>lU y.w n _ l (y.ints A) _ x (y.ints F))
 cases hb:dZ n l x with
 |false=>
  have I:hH n l x=false:=by unfold hH;rw[hb];rfl
  rw[hb]at S;have U:=Lib.hid I;clear I hb R;go_enter Tryz.func18,Tryz.ntmps18;go_wp2_with fail;rw[<-z];clear z;refine aO _ (by kernel_rfl) (by kernel_rfl) ?_
  repeat(first|go_big_quiet_skip|(go_big_quiet_want;go_big_quiet_op;first|go_big_quiet_on|(apply Exists.intro;refine⟨fun _=>?_,?_⟩;(go_at_call 125;with_reducible exact aV (S.out _));go_big_quiet_on)))
  refine wpQuiet_nil ?_;rintro w9 ⟨⟨w9,D⟩,rfl⟩
  try dsimp only
  go_wp2;go_ret;exact⟨aE U.out.symm,K.after D K.size⟩
 |true=>
  have I:hH n l x=(aS l x (2^n.toNat-1)==0):=by unfold hH;rw[hb];rfl
  have Y:bP n l=true/\cR n x=true:=by
   unfold dZ at hb;simp only[Bool.and_eq_true]at hb;exact⟨hb.1.1,hb.1.2⟩
  obtain⟨N,rfl,b4,Z,a9,O⟩:=bN (jD Y.1);obtain⟨a6,Q⟩:=iV Y.2;have a1:=Nat.two_pow_pos N;have o:((2^N-1:Nat):Int)=(2:Int)^(N:Int).toNat-1:=by rw[Int.ofNat_sub a1];simp
  have L:=fun y:Ext M=>rY N l _ x _ (2^(N:Int).toNat-1) y.w (y.ints A) (y.ints F) (by rw[<-o];omega) (by rw[<-o];omega) (by omega) O Q (by omega);have QA:=Lib.hid (fun y:Ext M=>jM (N:Int) (.slice a l.length c) l y.w (y.ints A) (by omega) (by omega));simp only[Int.toNat_natCast]at L I;obtain⟨r,hr⟩:∃r,r=aS l x (2^N-1):=⟨_,rfl⟩;rw[<-hr]at I;simp only[<-hr]at L;rw[hb]at S;have U:=Lib.hid I;have L:=Lib.hid L;clear I hb R hr Y Z O a6 Q o;go_enter Tryz.func18,Tryz.ntmps18;go_wp2_with fail;rw[<-z];clear z;refine aO _ (by kernel_rfl) (by kernel_rfl) ?_
  repeat(first|go_big_quiet_skip|(go_big_quiet_want;go_big_quiet_op;first|go_big_quiet_on|(apply Exists.intro;refine⟨fun _=>?_,?_⟩;(first|(go_at_call 125;with_reducible exact aV (S.out _))|(go_at_call 127;with_reducible exact aV (QA.out _))|(go_at_call 126;with_reducible exact aV (L.out _)));go_big_quiet_on)))
  refine wpQuiet_nil ?_;rintro w9 ⟨⟨w9,D⟩,rfl⟩
  try dsimp only
  go_wp2;go_ret;exact⟨aE U.out.symm,K.after D K.size⟩
end
section
open Go.RowKit Go.G5
def DD(l:List Int)(i k:Nat):Bool:=!(l.getD k 0==l.getD i 0)
def xM(l:List Int)(i:Nat):Bool:=bO 6 (l.getD i 0)&&bX (DD l i) i
def nT(l:List Int):Bool:=decide (l.length<=64)&&bX (xM l) l.length
def dP(l:List Int):Bool:=nT l&&jX l
def rR(l:List Int)(i:Nat):Bool:=gY (l.take i) (l.getD i 0)
theorem tJ(s:Int):bO 6 s=true↔0<=s/\s<64:=by unfold bO;simp
theorem zJ{l:List Int}(h:nT l=true):l.length<=64/\(∀x∈l,0<=x/\x<64)/\∀i,i<l.length->∀k,k<i->l.getD k 0≠l.getD i 0:=by
 unfold nT at h;obtain⟨h1,h2⟩:=Bool.and_eq_true_iff.1 h;have h2:=fI.1 h2;refine⟨of_decide_eq_true h1,fun x A=>?_,fun i o k z=>?_⟩
 ·obtain⟨i,o,rfl⟩:=List.getElem_of_mem A
  have:=h2 i o;unfold xM at this;obtain⟨h3,_⟩:=Bool.and_eq_true_iff.1 this;rw[aJ l i o]at h3;exact(tJ _).1 h3
 ·have:=h2 i o
  unfold xM at this;obtain⟨_,h3⟩:=Bool.and_eq_true_iff.1 this;have h4:=fI.1 h3 k z;unfold DD at h4;simpa using h4
theorem TQ(l:List Int)(s:Int)(h:s∈l):gY l s=false:=by
 obtain⟨i,o,rfl⟩:=List.getElem_of_mem h;unfold gY;refine cL o ?_;unfold nU;rw[aJ l i o];simp
theorem VL(l:List Int):∀n,n<=l.length->(bX (rR l) n=true↔(∀i,i<n->∀k,k<i->l.getD k 0≠l.getD i 0)/\jX (l.take n)=true):=by
 intro n
 induction n with
 |zero=>intro _;simp[bX,jX]
 |succ n ih=>
  intro S;have D:n<l.length:=by omega
  have O:l.take (n+1)=l.take n++[l.getD n 0]:=by rw[List.take_succ_eq_append_getElem D,aJ l n D]
  have A:l.getD n 0∈l.take n↔∃k,k<n/\l.getD k 0=l.getD n 0:=by
   constructor
   ·intro h
    obtain⟨k,o,I⟩:=List.getElem_of_mem h;have M:k<n:=by simp at o;omega
    refine⟨k,M,?_⟩;rw[aJ l k (by omega),<-I];simp
   ·rintro⟨k,o,I⟩
    rw[<-I,aJ l k (by omega)];exact List.mem_take_iff_getElem.2 ⟨k,by omega,rfl⟩
  rw[bX,Bool.and_eq_true,ih (by omega),O]
  constructor
  ·rintro⟨⟨h1,h2⟩,h3⟩
   have z:l.getD n 0∉l.take n:=fun N=>by unfold rR at h3;rw[TQ _ _ N]at h3;cases h3
   refine⟨fun i K k o=>?_,?_⟩
   ·by_cases L:i<n
    ·exact h1 i L k o
    ·have:i=n:=by omega
     subst this;exact fun e=>z (A.2 ⟨k,o,e⟩)
   ·unfold rR at h3
    rw[sQ _ _ h2 z]at h3;exact h3
  ·rintro⟨h1,h2⟩
   have z:l.getD n 0∉l.take n:=fun N=>by
    obtain⟨k,o,e⟩:=A.1 N;exact h1 n (by omega) k o e
   have F:jX (l.take n)=true:=by
    rw[yF]at h2 ⊢;intro i K k o;have Q:(l.take n).length=n:=by simp;omega
    have:=h2 i (by simp;omega) k o;rw[jV _ _ i K,jV _ _ k (by omega)]at this
    by_cases R:1<n
    ·rw[jV _ _ 0 (by omega),jV _ _ 1 (by omega)]at this
     exact this
    ·omega
   refine⟨⟨fun i K k o=>h1 i (by omega) k o,F⟩,?_⟩;unfold rR;rw[sQ _ _ F z];exact h2
theorem PA(l:List Int)(z:l.length<=64)(A:dK 6 l=true):dP l=bX (rR l) l.length:=by
 have F:∀i,i<l.length->bO 6 (l.getD i 0)=true:=by
  intro i o;unfold dK at A;simp only[Bool.and_eq_true,List.all_eq_true]at A;rw[aJ l i o];exact A.2 _ (List.getElem_mem o)
 have h:=VL l l.length (Nat.le_refl _);rw[List.take_of_length_le (Nat.le_refl _)]at h;have e:dP l=true↔bX (rR l) l.length=true:=by
  rw[h];unfold dP;rw[Bool.and_eq_true]
  constructor
  ·rintro⟨h1,h2⟩
   exact⟨(zJ h1).2.2,h2⟩
  ·rintro⟨h1,h2⟩
   refine⟨?_,h2⟩;unfold nT;rw[decide_eq_true z,Bool.true_and];refine fI.2 fun i o=>?_;unfold xM;rw[F i o,Bool.true_and];exact fI.2 fun k D=>by unfold DD;simpa using h1 i o k D
 cases h1:dP l with
 |true=>rw[e.1 h1]
 |false=>
  cases h2:bX (rR l) l.length with
  |false=>rfl
  |true=>rw[e.2 h2]at h1;cases h1
theorem FX{l:List Int}(h:¬l.length<=64∨dK 6 l=false):dP l=false:=by
 cases hb:dP l with
 |false=>rfl
 |true=>
  unfold dP at hb;obtain⟨h1,h2,_⟩:=zJ (Bool.and_eq_true_iff.1 hb).1
  rcases h with h|h
  ·exact absurd h1 h
  ·unfold dK at h
   have:l.all (bO (6:Int).toNat)=true:=List.all_eq_true.2 fun x o=>(tJ x).2 (h2 x o);rw[this]at h
   cases h
theorem OF(l:List Int)(v:Value)(w:World)(hv:aD w v l):
  Calls Tryz.prog 255 #[v] w fun e w'=>e=.returned (.bool (dP l))/\Below w.heap.size w w':=by
 have I:=hv;obtain⟨a,b,c6,c,rfl,b4,R,hc,hb⟩:=hv.view Tryz.prog 22 3 Tryz.underlying22 aG
 by_cases N:l.length<=64
 ·have O:¬(64:Int)<(l.length:Int):=by omega
  cases A:dK 6 l with
  |false=>
   have z:dP l=false:=FX (.inr A);have L:=Lib.hid z;have M:=Lib.hid (mO 6 l _ w I);rw[A]at M;clear z A;go_enter Tryz.func255,Tryz.ntmps255;go_wp2_with (go_at_call 224;refine M.out.mono ?_;rintro e w' ⟨rfl,rfl⟩);go_ret;exact⟨aE L.out.symm,Below.refl _ _⟩
  |true=>
   have z:=PA l N A;have hm:∀x∈l,0<=x/\x<64:=by
    intro x z;unfold dK at A;simp only[Bool.and_eq_true,List.all_eq_true]at A;exact(tJ x).1 (A.2 x z)
   have L:=Lib.hid z;have HM:=Lib.hid hm;have M:=Lib.hid (mO 6 l _ w I);rw[A]at M;clear z A hm;go_enter Tryz.func255,Tryz.ntmps255;go_wp2_with (go_at_call 224;refine M.out.mono ?_;rintro e w' ⟨rfl,rfl⟩);go_loopw [15] (fun i wr=>∃k:Nat,k<=l.length/\i=.int .i64 k/\bX (rR l) k=true/\Below w.heap.size w wr) (fun i _=>l.length-(intOf i).toNat)
   case atStart=>exact⟨0,Nat.zero_le _,rfl,rfl,Below.refl _ _⟩
   case round=>
    obtain⟨k,hk,rfl,D,B⟩:=hrel;have H:=Lib.hid D;clear D
    by_cases hlt:k<l.length
    ·have U:(k:Int)<(l.length:Int):=by omega
     have a9:=I.below B (Nat.le_refl _);obtain⟨u1,u2⟩:=a9.upto 22 3 Tryz.underlying22 aG k hk;have ck:=aK hc hb B (Nat.le_refl _) k hlt;have ik:=fun W=>R W k hlt;have Q:rR l k=gY (l.take k) l[k]:=by unfold rR;rw[aJ l k hlt]
     have a1:=HM.out _ (List.getElem_mem hlt);have Y:∀x∈l.take k,0<=x/\x<64:=fun x z=>HM.out x (List.mem_of_mem_take z);have K:=Lib.hid (wD (l.take k) _ l[k] wr u2 Y a1);rw[<-Q]at K;obtain⟨y,hy⟩:∃y,y=l[k]:=⟨_,rfl⟩;rw[<-hy]at K ck;clear Q Y hy a1 hc R
     cases o:rR l k with
     |true=>
      rw[o]at K;have a6:=Lib.hid o;clear o;go_wp2_with (go_at_call 321;refine K.out.mono ?_;rintro e w3 ⟨rfl,b3⟩);go_roundw
      case rel=>exact⟨k+1,by omega,by go_num,dM H.out a6.out,B.after b3 B.size⟩
      case measure=>simp[intOf];omega
     |false=>
      rw[o]at K;have Z:dP l=false:=by rw[L.out];exact cL hlt o
      have a7:=Lib.hid Z;clear o Z;go_wp2_with (go_at_call 321;refine K.out.mono ?_;rintro e w3 ⟨rfl,b3⟩);go_ret;exact⟨aE a7.out.symm,B.after b3 B.size⟩
    ·have U:¬(k:Int)<(l.length:Int):=by omega
     have S:k=l.length:=by omega
     have F:dP l=true:=by rw[L.out,<-S];exact H.out
     have HY:=Lib.hid F;clear S F;go_wp2;go_ret;exact⟨aE HY.out.symm,B⟩
 ·have O:(64:Int)<(l.length:Int):=by omega
  have z:dP l=false:=FX (.inl N);have L:=Lib.hid z;clear z;go_enter Tryz.func255,Tryz.ntmps255;go_wp2;go_ret;exact⟨aE L.out.symm,Below.refl _ _⟩
end
end Go.Proofs.YtipejodijbjpcaaGreatDoor
