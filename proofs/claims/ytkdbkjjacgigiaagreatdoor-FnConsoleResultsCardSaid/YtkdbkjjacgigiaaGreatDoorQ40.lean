/- Lemmas for CardConsoleResults. No condition. -/
import Derived.Test.YtkdbkjjacgigiaaGreatDoorQ23
import Derived.Test.YtkdbkjjacgigiaaGreatDoorQ39
set_option maxRecDepth 100000
set_option maxHeartbeats 64000000
namespace Go.Proofs.YtkdbkjjacgigiaaGreatDoor
section
open Go.RowKit Go.G5 Go.Proofs.Tryz
theorem ahZ{p:Prop}(h:p:=by
  exact bodyPost_ret (v:=.tuple #[.agg #[aB,()],.bool false]) (by simp[results,results88,go_sem,GF]) rfl ⟨none,0,0,by rw[K.out.1,K.out.2.1],by rw[K.out.2.2];exact t.2.1,t.2.2⟩):p:=h
theorem IX(s:ByteArray)(w:World)(hs:s.size<=2000000)(hp:iY w)(hm:sE w):
  Calls prog 88 #[.string s] w fun e w'=>∃ad i c,e=.returned (.tuple #[.agg #[(vG s),aA ad i c],.bool (nO s)])/\aM 3 w w' (aA ad i c) (uC s)/\Below w w w':=by
 obtain⟨W1,N⟩:=aJ (w.alloc (.cells #[aB,()] 27));have K0:aP W1 w 27 #[aB,()]:=gJ N;have B0:Below w w W1:=gY N;have b9:W1.heap.size=w.heap.size+1:=by rw[N];simp
 by_cases j0:s.size<=200
 rotate_left
 ·have z:=aoD j0;have K:=aH (And.intro z (T8 z));have n3:(200:Int)<(s.size:Int):=aD;have G:=K0.cell;have F:=K0.frozen;clear z;go_enter func88,ntmps88;go_upto_region 1 with fail;rw[<-N];clear N;go_wp2;refine bN ?_;intro Wf J;have t:=pP (w:=w) (E:=27) (m:=0) (b:=aA none 0 0) K0 (aM.nil 3 (W1.heap.size) W1) aI aD B0 J;have GF:=t.1.cell;exact ahZ
 have n3:¬(200:Int)<(s.size:Int):=aD;obtain⟨V,hV⟩:=aJ (W1.alloc (.cells #[aB,()] 27));have b3:aP V w 27 #[aB,()]:=by rw[hV];exact K0.alloc _
 have f5:aP V (w.heap.size+1) 27 #[aB,()]:=by rw[hV,<-b9];exact aP.new _ _ _
 have BV:Below w w V:=by rw[hV];exact B0.alloc aD _
 have c5:V.heap.size=w.heap.size+2:=by rw[hV];simp;omega
 have HZ:=aH (And.intro b9 c5);have l9:w.heap.size+1<=W1.heap.size:=aD;have a1:=aqE (s:=s);have a6:=afN j0;have a9:=VQ (s:=s);have h0:=LR 44 s;have O:=xR 44 s;have b0:=DM 44 s V (hm.keep (by rw[hV,N];exact wI _ _ _)) aD;obtain⟨D,h6⟩:=aJ (cI 44 s);rw[<-h6]at a1 a6 a9 h0 O b0;rw[c5]at b0;have f7:=aH a1;have f8:=aH a6;have g2:=aH a9;have c8:=aH O;have g0:=aH b0;clear a1 a6 a9 O b0 h6;go_enter func88,ntmps88;go_upto_region 1 with fail;rw[<-N];clear N;go_upto_region 4 with fail;rw[<-hV];clear hV b9 c5;go_wp2_with fail;refine g0.out.mono ?_;rintro e w1 ⟨rfl,rfl⟩;have e5:aP (V.alloc (.cells (D.map Value.string).toArray 9)) (w.heap.size+2) 9 (D.map Value.string).toArray:=by rw[<-HZ.out.2];exact aP.new _ _ _
 have c9:=b3.alloc (.cells (D.map Value.string).toArray 9);have e4:=f5.alloc (.cells (D.map Value.string).toArray 9);have BU:=BV.alloc BV.size (.cells (D.map Value.string).toArray 9);have o0:=aM.nil 3 (w.heap.size+3) (V.alloc (.cells (D.map Value.string).toArray 9));have zU:w.heap.size+3<=(V.alloc (.cells (D.map Value.string).toArray 9)).heap.size:=by have:=HZ.out.2;simp;omega
 obtain⟨U,hU⟩:=aJ (V.alloc (.cells (D.map Value.string).toArray 9));rw[<-hU]at e5 c9 e4 BU o0 zU ⊢;clear hU g0 b3 f5 BV K0 B0;go_wp2_with fail;go_loopw [16] (fun iv wr=>∃(k:Nat) (ad:Option Addr) (i c:Nat),k<=D.length/\iv=aG k/\(D.take k).all pB=true/\Below w w wr/\w.heap.size+3<=wr.heap.size/\aP wr w 27 #[aB,()]/\aP wr (w.heap.size+1) 27 #[aB,aA ad i c]/\aP wr (w.heap.size+2) 9 (D.map Value.string).toArray/\aM 3 (w.heap.size+3) wr (aA ad i c) ((D.take k).map pN)) (fun iv _=>D.length-(intOf iv).toNat)
 case atStart=>exact⟨0,none,0,0,Nat.zero_le _,rfl,rfl,BU,zU,c9,e4,e5,o0⟩
 case round=>
  obtain⟨k,ad,i,c,hk,rfl,M,Bw,zw,d0,b4,g6,ow⟩:=hrel;have b1:=aH M;clear M BU zU c9 e4 e5 o0;by_cases hlt:k<D.length
  ·have h5:(k:Int)<(D.length:Int):=aD;have Y:=DU g6 k hlt;have i1:=fun W=>vR (w.heap.size+2) D.length D.length k hlt W;have k1:=c8.out _ (List.getElem_mem hlt);have R:(D.take (k+1)).all pB=pB D[k]:=by rw[List.take_succ_eq_append_getElem hlt,List.all_append,b1.out];simp
   have a7:=CJ pB D k hlt;have a8:=apG D k hlt;obtain⟨x,hx⟩:=aJ (D[k]);rw[<-hx]at Y k1 R a7 a8;have S:=E5 x wr aD (hp.keep Bw);obtain⟨y,hy⟩:=aJ (pN x);rw[<-hy]at a8;have h7:pB x=true->dL y/\pV x=y:=fun h=>by have h3:=anH h;rw[<-hy]at h3;exact⟨⟨by omega,by omega⟩,by rw[hy];exact OU h⟩
   have e6:((D.take k).map pN).length<=2000001:=by rw[List.length_map,List.length_take];omega
   obtain⟨l,hl⟩:=aJ ((D.take k).map pN);rw[<-hl]at ow a8 e6;have j5:=aH R;have f9:=aH a7;have k9:=aH a8;clear R a7 a8 hx hy hl
   cases z:pB x with
   |false=>rw[z,OT z]at S;have e7:=f7.out (f9.out z);have K:=aH (And.intro e7 (T8 e7));have f4:=aH S;clear S z e7 h7;go_wp2_with fail;refine f4.out.mono ?_;rintro e w2 ⟨rfl,b2⟩;have I:=d0.keep b2;have B2:=Bw.after b2 Bw.size;have G:=I.cell;have F:=I.frozen;clear Y i1;go_wp2;refine bN ?_;intro Wf J;have t:=pP (w:=w) (E:=27) (m:=0) (b:=aA none 0 0) I (aM.nil 3 (w2.heap.size) w2) aI I.lt B2 J;have GF:=t.1.cell;clear J G F;exact ahZ
   |true=>obtain⟨h7,l6⟩:=h7 z;rw[z,l6]at S;have R:=j5.out;rw[z]at R;have i8:=aH R;have f4:=aH S;clear S z R l6;exact anB
  ·have h5:¬(k:Int)<(D.length:Int):=aD;have g9:k=D.length:=aD;have M:=b1.out;rw[g9,List.take_length]at M ow;have b6:=f8.out M;have b8:=g2.out;have b7:=T8 (s:=s);have e6:(D.map pN).length<=201:=by rw[List.length_map];omega
   obtain⟨l,hl⟩:=aJ (D.map pN);have l5:D.length=l.length:=by rw[hl,List.length_map]
   rw[<-hl,l5]at b6 b8;rw[<-hl]at ow e6;have k0:=ow.ints.capLe.1;subst k0;have o1:=aqM l.length aD;have h9:=fun W=>aaK (l.length:Int) W aD aD;have l4:(Lib.bitLen ((l.length:Int)).toNat:Int)=FR l.length+1:=by unfold FR;rw[Int.toNat_natCast];omega
   simp only[l4]at h9;obtain⟨g,hg⟩:=aJ (FR l.length);rw[<-hg]at b6 b8 o1;simp only[<-hg]at h9;have j6:=aH b8;have j4:=aH b7;have m4:=aH b6;have m2:=aH h9;have G1:=b4.cell;have F1:=b4.frozen;clear g9 M b6 b8 b7 hl l5 h9 l4 hg;go_wp2_with fail;refine(m2.out wr).mono ?_;rintro e w5 ⟨rfl,rfl⟩;go_wp2_with fail;refine bU ?_;intro V5 g8;have m8:aP V5 (w.heap.size+1) 27 #[g,aA ad l.length c]:=by rw[g8];have:=b4.set 0 (aG g);simpa using this
   have m6:aP V5 w 27 #[aB,()]:=by rw[g8];exact d0.far (by show w.heap.size≠w.heap.size+1;omega) _
   have o5:aM 3 (w.heap.size+3) V5 (aA ad l.length c) l:=by rw[g8];exact ow.setBelow (by show w.heap.size+1<w.heap.size+3;omega) _
   have B5:Below w w V5:=by rw[g8];exact Below.setCell Bw (by show w.heap.size<=w.heap.size+1;omega) _
   clear g8 G1 F1;refine(dM g l _ V5 o5.ints).mono ?_;rintro e w2 ⟨rfl,b2⟩;rw[<-m4.out];have I:=m6.keep b2;have e0:=m8.keep b2;have o2:=o5.keep b2;have B2:=B5.after b2 B5.size;have G0:=I.cell;have F0:=I.frozen;have G1:=e0.cell
   cases z:nO s with
   |false=>have K:=aH (j4.out z);have Z:=aH z;clear z;go_wp2;refine bN ?_;intro Wf J;have t:=pP (w:=w) (E:=27) (m:=0) (b:=aA none 0 0) I (aM.nil 3 (w2.heap.size) w2) aI I.lt B2 J;have GF:=t.1.cell;clear J G0 F0 G1;exact bodyPost_ret (v:=.tuple #[.agg #[aB,()],.bool false]) (by simp[results,results88,go_sem,GF]) rfl ⟨none,0,0,by rw[K.out.1,Z.out],by rw[K.out.2];exact t.2.1,t.2.2⟩
   |true=>have K:=aH (j6.out z);have Z:=aH z;clear z;go_wp2;refine bN ?_;intro Wf J;have t:=pP (w:=w) (E:=27) (m:=g) (b:=aA ad l.length c) I o2 aI aD B2 J;have GF:=t.1.cell;clear J G0 F0 G1;exact bodyPost_ret (v:=.tuple #[.agg #[g,aA ad l.length c],.bool true]) (by simp[results,results88,go_sem,GF]) rfl ⟨_,_,_,by rw[K.out.1,Z.out],by rw[K.out.2];exact t.2.1,t.2.2⟩
theorem PY(s:ByteArray):(uC s).length<=1048576:=by
 cases h:nO s with
 |true=>obtain⟨_,_,_,_,z,_⟩:=cS (aqF h);omega
 |false=>rw[(T8 h).2];simp
theorem ao3(n:Int)(s:ByteArray):(yV n s).length<=1048576:=by
 cases h:pK n s with
 |true=>
  have e:AW n s=n:=by unfold AW;rw[if_pos h]
  have:=iL (aq6 h);omega
 |false=>unfold yV;rw[h];simp
theorem anS{s:ByteArray}{p0 p1:ByteArray}(h:cI 32 s=[p0,p1]):yN s=if nO p1 then rR p0 (vG p1) (uC p1) else none:=by
 unfold yN;rw[h]
 rfl
theorem aeU{s:ByteArray}{p0 p1 p2:ByteArray}(h:cI 32 s=[p0,p1,p2]):
  yN s=(if nO p1&&nO p2 then BD p0 (vG p1) (uC p1) (vG p2) (uC p2) else none).or (if pB p1&&pK (pV p1) p2 then rA p0 (AW (pV p1) p2) (yV (pV p1) p2) else none):=by
 unfold yN;rw[h]
 rfl
theorem akA{s:ByteArray}(h2:(cI 32 s).length≠2)(h3:(cI 32 s).length≠3):yN s=none:=by
 unfold yN;rw[if_neg h2,if_neg h3]
theorem alR{α:Type}(l:List α)(h:l.length=2):∃a b,l=[a,b]:=by
 match l,h with
 |[a,b],_=>exact⟨a,b,rfl⟩
theorem adL{α:Type}(l:List α)(h:l.length=3):∃a b c,l=[a,b,c]:=by
 match l,h with
 |[a,b,c],_=>exact⟨a,b,c,rfl⟩
theorem am7{p:Prop}(h:p:=by
  clear a8;go_wp2_with fail;refine bU ?_;intro x hx;obtain rfl:x=V:=by rw[hx,F]
  clear hx F;refine(HQ.out x (hp.keep Bx)).mono ?_;rintro e y1 ⟨rfl,c1⟩;have Ky:=N.keep c1;have By:=Bx.after c1 Bx.size;clear Gx N Bx;have Gy:=Ky.cell;go_wp2_with fail;refine(HR.out y1 (hp.keep By) (hm.keep By)).mono ?_;rintro e M ⟨ad,i,c,rfl,o,c2⟩;have Kz:=Ky.keep c2;have O:=By.after c2 By.size;have zz:=O.size;clear Gy Ky By
  cases Q with
  |false=>have D:=HA.out;go_wp2;go_ret2;exact⟨by rw[D];rfl,O.alloc zz _⟩
  |true=>
   cases R with
   |false=>have D:=HA.out;go_wp2;go_ret2;exact⟨by rw[D];rfl,O.alloc zz _⟩
   |true=>
    obtain⟨V,F⟩:=aJ (M.alloc (.cells #[g,aA ad i c] 29));have KV:aP V w 9 #[.string p0,.string p1,.string p2]:=by rw[F];exact Kz.alloc _
    have KF:aP V M 29 #[g,aA ad i c]:=gJ F;have oV:aK V (aA ad i c) q:=by rw[F];exact o.ints.alloc _
    have BV:Below w w V:=by rw[F];exact O.alloc zz _
    have G0:=KV.cell 0;have F0:=KF.cell 0;have F1:=KF.cell 1;have e0:∀y:Ext V,y.w.cell? ⟨w.heap.size,0,none⟩=some (.string p0):=fun y=>y.cell G0;have f0:∀y:Ext V,y.w.cell? ⟨M.heap.size,0,none⟩=some (aG g):=fun y=>y.cell F0;have f1:∀y:Ext V,y.w.cell? ⟨M.heap.size,1,none⟩=some (aA ad i c):=fun y=>y.cell F1;have HX:=aH (fun y:Ext V=>RG y.w p0 g _ q (y.ints oV) HL.out ((hp.keep BV).keep y.b));have D:=HA.out;rw[if_pos (show(true&&true)=true from rfl)]at D;clear G0 F0 F1 KV KF oV Kz O o c2;go_upto_region 17 with fail;rw[<-F];clear F;refine bH _ aO aO ?_
    repeat(first|go_big_quiet_skip|(go_big_quiet_want;go_big_quiet_op;first|go_big_quiet_on|(apply Exists.intro;refine⟨fun _=>?_,?_⟩;(go_at_call 93;exact bW (HX.out _));go_big_quiet_on)))
    refine wpQuiet_nil ?_;rintro w5 ⟨⟨w5,b5⟩,rfl⟩
    try dsimp only
    go_wp2;go_ret2;exact⟨by rw[D];simp,BV.after b5 BV.size⟩):p:=h
theorem UF(s:ByteArray)(w:World)(hs:s.size<=2000)(hp:iY w)(hm:sE w):
  Calls prog 35 #[.string s] w fun e w'=>e=.returned (.tuple #[.string ((yN s).getD ByteArray.empty),.bool (yN s).isSome])/\Below w w w':=by
 have a1:=DM 32 s w hm aD;have I:=xR 32 s;have a2:=fun p0 p1=>anS (s:=s) (p0:=p0) (p1:=p1);have a3:=fun p0 p1 p2=>aeU (s:=s) (p0:=p0) (p1:=p1) (p2:=p2);have an:=akA (s:=s);obtain⟨A,hA⟩:=aJ (yN s);obtain⟨ps,g8⟩:=aJ (cI 32 s);rw[<-hA]at an ⊢;simp only[<-hA]at a2 a3;rw[<-g8]at a1 I an;simp only[<-g8]at a2 a3;clear g8 hA;by_cases h2:ps.length=2
 ·obtain⟨p0,p1,rfl⟩:=alR ps h2;have D:=a2 p0 p1 rfl;have s1:=I p1 (by simp);have Y:=fun W (h1:iY W) (h2:sE W)=>IX p1 W aD h1 h2;have hL:=PY p1;obtain⟨n1,Z⟩:=aJ (vG p1);obtain⟨l1,K⟩:=aJ (uC p1);obtain⟨F1,S⟩:=aJ (nO p1);rw[<-Z,<-K,<-S]at D;simp only[<-Z,<-K,<-S]at Y;rw[<-K]at hL;have f4:=aH Y;have HA:=aH D;have HL:=aH hL;have b3:=aH a1;have i6:=fun W=>vR w.heap.size 2 2 0 aD W;have i7:=fun W=>vR w.heap.size 2 2 1 aD W;clear Y D hL a2 a3 an I a1 Z K S h2;go_enter func35,ntmps35;go_wp2_with fail;refine b3.out.mono ?_;rintro e w1 ⟨rfl,J⟩;have N:aP w1 w 9 #[.string p0,.string p1]:=gJ J;have Bx:Below w w w1:=gY J;clear J;have Gx:=N.cell;go_wp2_with fail;refine(f4.out w1 (hp.keep Bx) (hm.keep Bx)).mono ?_;rintro e M ⟨ad,i,c,rfl,o,c2⟩;have Kz:=N.keep c2;have O:=Bx.after c2 Bx.size;have zz:=O.size;clear Gx N Bx
  cases F1 with
  |false=>have D:=HA.out;go_wp2;go_ret2;exact⟨by rw[D];rfl,O.alloc zz _⟩
  |true=>
   obtain⟨V,F⟩:=aJ (M.alloc (.cells #[n1,aA ad i c] 27));have KV:aP V w 9 #[.string p0,.string p1]:=by rw[F];exact Kz.alloc _
   have KF:aP V M 27 #[n1,aA ad i c]:=gJ F;have oV:aK V (aA ad i c) l1:=by rw[F];exact o.ints.alloc _
   have BV:Below w w V:=by rw[F];exact O.alloc zz _
   have G0:=KV.cell 0;have F0:=KF.cell 0;have F1:=KF.cell 1;have e0:∀y:Ext V,y.w.cell? ⟨w.heap.size,0,none⟩=some (.string p0):=fun y=>y.cell G0;have f0:∀y:Ext V,y.w.cell? ⟨M.heap.size,0,none⟩=some (aG n1):=fun y=>y.cell F0;have f1:∀y:Ext V,y.w.cell? ⟨M.heap.size,1,none⟩=some (aA ad i c):=fun y=>y.cell F1;have HX:=aH (fun y:Ext V=>aeV y.w p0 n1 _ l1 (y.ints oV) HL.out ((hp.keep BV).keep y.b));have D:=HA.out;rw[if_pos rfl]at D;clear G0 F0 F1 KV KF oV Kz O o c2;go_upto_region 6 with fail;rw[<-F];clear F;refine bH _ aO aO ?_
   repeat(first|go_big_quiet_skip|(go_big_quiet_want;go_big_quiet_op;first|go_big_quiet_on|(apply Exists.intro;refine⟨fun _=>?_,?_⟩;(go_at_call 89;exact bW (HX.out _));go_big_quiet_on)))
   refine wpQuiet_nil ?_;rintro w5 ⟨⟨w5,b5⟩,rfl⟩
   try dsimp only
   go_wp2;go_ret2;exact⟨by rw[D];rfl,BV.after b5 BV.size⟩
 by_cases h3:ps.length=3
 ·obtain⟨p0,p1,p2,rfl⟩:=adL ps h3;have D:=a3 p0 p1 p2 rfl;have s1:=I p1 (by simp);have s2:=I p2 (by simp);have Y:=fun W (h1:iY W) (h2:sE W)=>IX p1 W aD h1 h2;have f9:=fun W (h1:iY W) (h2:sE W)=>IX p2 W aD h1 h2;have hQ:=fun W (h1:iY W)=>E5 p1 W aD h1;have hR:=fun W (h1:iY W) (h2:sE W)=>ai9 (pV p1) p2 W aD h1 h2;have f7:=PY p1;have f8:=PY p2;have hL:=ao3 (pV p1) p2;obtain⟨g,hg⟩:=aJ (AW (pV p1) p2);obtain⟨q,hq⟩:=aJ (yV (pV p1) p2);obtain⟨R,g5⟩:=aJ (pK (pV p1) p2);rw[<-hg,<-hq,<-g5]at D;simp only[<-hg,<-hq,<-g5]at hR;rw[<-hq]at hL;clear hg hq g5;obtain⟨n1,Z⟩:=aJ (vG p1);obtain⟨l1,K⟩:=aJ (uC p1);obtain⟨F1,S⟩:=aJ (nO p1);obtain⟨n2,g7⟩:=aJ (vG p2);obtain⟨l2,c8⟩:=aJ (uC p2);obtain⟨F2,f5⟩:=aJ (nO p2);obtain⟨Q,g2⟩:=aJ (pB p1);obtain⟨z,hz⟩:=aJ (pV p1);rw[<-Z,<-K,<-S,<-g7,<-c8,<-f5,<-g2]at D;simp only[<-Z,<-K,<-S]at Y;simp only[<-g7,<-c8,<-f5]at f9;simp only[<-g2,<-hz]at hQ;simp only[<-hz]at hR;rw[<-K]at f7;rw[<-c8]at f8;have f4:=aH Y;have k0:=aH f9;have HQ:=aH hQ;have HR:=aH hR;have c6:=aH D;have HL:=aH hL;have j8:=aH f7;have j9:=aH f8;have b3:=aH a1;have i6:=fun W=>vR w.heap.size 3 3 0 aD W;have i7:=fun W=>vR w.heap.size 3 3 1 aD W;have l7:=fun W=>vR w.heap.size 3 3 2 aD W;clear Y f9 hQ hR D hL f7 f8 a2 a3 an I a1 Z K S g7 c8 f5 g2 hz h2 h3;go_enter func35,ntmps35;go_wp2_with fail;refine b3.out.mono ?_;rintro e w1 ⟨rfl,J⟩;have N:aP w1 w 9 #[.string p0,.string p1,.string p2]:=gJ J;have Bx:Below w w w1:=gY J;clear J;have Gx:=N.cell;go_wp2_with fail;refine(f4.out w1 (hp.keep Bx) (hm.keep Bx)).mono ?_;rintro e y1 ⟨a7,i1,c1,rfl,o1,d1⟩;obtain⟨U,hU⟩:=aJ (y1.alloc (.cells #[n1,aA a7 i1 c1] 27));have Ky:aP U w 9 #[.string p0,.string p1,.string p2]:=by rw[hU];exact(N.keep d1).alloc _
  have KA:aP U y1 27 #[n1,aA a7 i1 c1]:=gJ hU;have oU:aK U (aA a7 i1 c1) l1:=by rw[hU];exact o1.ints.alloc _
  have BU:Below w w U:=by rw[hU];exact(Bx.after d1 Bx.size).alloc (Bx.after d1 Bx.size).size _
  have K1:=N.keep d1;have G1:=K1.cell;have z1:=K1.lt;clear Gx N Bx o1 d1 K1;have Gx:=Ky.cell;go_wp2_with fail;refine bU ?_;intro U' h9;obtain rfl:U'=U:=by rw[h9,hU]
  clear hU h9 G1 z1;refine(k0.out U' (hp.keep BU) (hm.keep BU)).mono ?_;rintro e M ⟨c7,i2,c2,rfl,o2,d2⟩;obtain⟨V,F⟩:=aJ (M.alloc (.cells #[n2,aA c7 i2 c2] 27));have K2:=Ky.keep d2;have G2:=K2.cell;have z2:=K2.lt;clear K2;have N:aP V w 9 #[.string p0,.string p1,.string p2]:=by rw[F];exact(Ky.keep d2).alloc _
  have KA:aP V y1 27 #[n1,aA a7 i1 c1]:=by rw[F];exact(KA.keep d2).alloc _
  have KB:aP V M 27 #[n2,aA c7 i2 c2]:=gJ F;have oA:aK V (aA a7 i1 c1) l1:=by rw[F];exact(oU.keep d2).alloc _
  have oB:aK V (aA c7 i2 c2) l2:=by rw[F];exact o2.ints.alloc _
  have Bx:Below w w V:=by rw[F];exact(BU.after d2 BU.size).alloc (BU.after d2 BU.size).size _
  clear Gx Ky oU BU o2 d2;by_cases a8:(F1&&F2)=true
  ·have e0:∀y:Ext V,y.w.cell? ⟨w.heap.size,0,none⟩=some (.string p0):=fun y=>y.cell (N.cell 0);have f0:∀y:Ext V,y.w.cell? ⟨y1.heap.size,0,none⟩=some (aG n1):=fun y=>y.cell (KA.cell 0);have f1:∀y:Ext V,y.w.cell? ⟨y1.heap.size,1,none⟩=some (aA a7 i1 c1):=fun y=>y.cell (KA.cell 1);have g0:∀y:Ext V,y.w.cell? ⟨M.heap.size,0,none⟩=some (aG n2):=fun y=>y.cell (KB.cell 0);have g1:∀y:Ext V,y.w.cell? ⟨M.heap.size,1,none⟩=some (aA c7 i2 c2):=fun y=>y.cell (KB.cell 1);have hX:=fun y:Ext V=>aeW y.w p0 n1 _ l1 (y.ints oA) j8.out n2 _ l2 (y.ints oB) j9.out ((hp.keep Bx).keep y.b);have D:=c6.out;rw[if_pos a8]at D;obtain⟨X,g6⟩:=aJ (BD p0 n1 l1 n2 l2);rw[<-g6]at D;simp only[<-g6]at hX;have HX:=aH hX;have f3:=aH D;rw[Bool.and_eq_true]at a8;obtain⟨rfl,rfl⟩:=a8;clear D hX g6 c6 KA KB oA oB;go_upto_region 11 with fail;rw[<-F];clear F;refine bH _ aO aO ?_
   repeat(first|go_big_quiet_skip|(go_big_quiet_want;go_big_quiet_op;first|go_big_quiet_on|(apply Exists.intro;refine⟨fun _=>?_,?_⟩;(go_at_call 90;exact bW (HX.out _));go_big_quiet_on)))
   refine wpQuiet_nil ?_;rintro x ⟨⟨x,b5⟩,rfl⟩
   try dsimp only
   have N:=(N.keep b5);have Bx:=Bx.after b5 Bx.size;clear e0 f0 f1 g0 g1 HX
   cases X with
   |some t=>have D:=f3.out;rw[Option.some_or]at D;go_wp2;go_ret2;exact⟨by rw[D];rfl,Bx⟩
   |none=>
    have D:=f3.out;rw[Option.none_or]at D;have HA:=aH D;clear D f3;have Gx:=N.cell;go_wp2_with fail;refine(HQ.out x (hp.keep Bx)).mono ?_;rintro e y1 ⟨rfl,c1⟩;have Ky:=N.keep c1;have By:=Bx.after c1 Bx.size;clear Gx N Bx;have Gy:=Ky.cell;go_wp2_with fail;refine(HR.out y1 (hp.keep By) (hm.keep By)).mono ?_;rintro e M ⟨ad,i,c,rfl,o,c2⟩;have Kz:=Ky.keep c2;have O:=By.after c2 By.size;have zz:=O.size;clear Gy Ky By
    cases Q with
    |false=>have D:=HA.out;go_wp2;go_ret2;exact⟨by rw[D];rfl,O.alloc zz _⟩
    |true=>
     cases R with
     |false=>have D:=HA.out;go_wp2;go_ret2;exact⟨by rw[D];rfl,O.alloc zz _⟩
     |true=>
      obtain⟨V,F⟩:=aJ (M.alloc (.cells #[g,aA ad i c] 29));have KV:aP V w 9 #[.string p0,.string p1,.string p2]:=by rw[F];exact Kz.alloc _
      have KF:aP V M 29 #[g,aA ad i c]:=gJ F;have oV:aK V (aA ad i c) q:=by rw[F];exact o.ints.alloc _
      have BV:Below w w V:=by rw[F];exact O.alloc zz _
      have G0:=KV.cell 0;have F0:=KF.cell 0;have F1:=KF.cell 1;have e0:∀y:Ext V,y.w.cell? ⟨w.heap.size,0,none⟩=some (.string p0):=fun y=>y.cell G0;have f0:∀y:Ext V,y.w.cell? ⟨M.heap.size,0,none⟩=some (aG g):=fun y=>y.cell F0;have f1:∀y:Ext V,y.w.cell? ⟨M.heap.size,1,none⟩=some (aA ad i c):=fun y=>y.cell F1;have HX:=aH (fun y:Ext V=>RG y.w p0 g _ q (y.ints oV) HL.out ((hp.keep BV).keep y.b));have D:=HA.out;rw[if_pos (show(true&&true)=true from rfl)]at D;clear G0 F0 F1 KV KF oV Kz O o c2;go_upto_region 17 with fail;rw[<-F];clear F;refine bH _ aO aO ?_
      repeat(first|go_big_quiet_skip|(go_big_quiet_want;go_big_quiet_op;first|go_big_quiet_on|(apply Exists.intro;refine⟨fun _=>?_,?_⟩;(go_at_call 93;exact bW (HX.out _));go_big_quiet_on)))
      refine wpQuiet_nil ?_;rintro w5 ⟨⟨w5,b5⟩,rfl⟩
      try dsimp only
      go_wp2;go_ret2;exact⟨by rw[D];simp,BV.after b5 BV.size⟩
  ·have D:=c6.out;rw[if_neg a8,Option.none_or]at D;have HA:=aH D;clear D c6 KA KB oA oB;have Gx:=N.cell
   cases F1 with
   |false=>exact am7
   |true=>
    cases F2 with
    |true=>exact absurd rfl a8
    |false=>exact am7
 ·have D:=an h2 h3;have b3:=aH a1;have t2:((ps.length:Int)==2)=false:=by rw[beq_eq_false_iff_ne];omega
  have t3:((ps.length:Int)==3)=false:=by rw[beq_eq_false_iff_ne];omega
  clear a1 an a2 a3 I;go_enter func35,ntmps35;go_wp2_with fail;refine b3.out.mono ?_;rintro e w1 ⟨rfl,J⟩;have Bx:Below w w w1:=gY J;clear J;go_wp2;go_ret2;exact⟨by rw[D];rfl,Bx⟩
theorem alC(w:World)(n:Int)(v:Value)(l:List Int)(hv:aK w v l):
  Calls prog 38 #[.agg #[n,v]] w fun e w'=>e=.returned (.tuple #[(mF n l),.bool (aY n l)])/\Below w w w':=by
 have a8:=hv;obtain⟨a,c,rfl⟩:=hv.shape;have K0:=aP.new w 27 #[n,aA a l.length c]
 cases hf:aY n l with
 |false=>
  have hg:mF n l=0:=by unfold mF;rw[hf];rfl
  have HG:=aH hg;have HF:=aH hf;clear hg hf;go_enter func38,ntmps38;go_wp2_with (go_at_call 20;refine(dH n l _ _ (a8.alloc _)).mono ?_;rintro e w1 ⟨rfl,S⟩;rw[HF.out]);go_ret2;exact⟨by rw[HG.out];rfl,(bF _ _).after S (by simp)⟩
 |true=>
  obtain⟨N,rfl,g7,Z,j9,D⟩:=cS hf;have b8:mF (N:Int) l=fT ((tY N l.length).map (yK l)) 0:=by unfold mF;rw[hf,if_pos rfl,Int.toNat_natCast,af2,Z]
  have b7:∀s i,s<2^N->i<N->∀k,k<N->-4000<=rZ l s i k/\rZ l s i k<=4000:=fun s i Y hi k hk=>VN N l Z D s i k Y hi hk;have HG:=aH b8;have HF:=aH hf;have f8:=aH Z;have f9:=aH D;have l0:=aH b7;clear b8 hf Z D b7;go_enter func38,ntmps38;go_wp2_with fail;refine(dH N l _ _ (a8.alloc _)).mono ?_;rintro e w1 ⟨rfl,S⟩;rw[HF.out];have K1:=K0.keep S;have B1:Below w w w1:=(bF _ _).after S (by simp);have G1:=K1.cell;clear K0 S;have e5:=a8.below B1 aI;obtain⟨av,b,l7,cv,h8,c6,F,hc,hb⟩:=e5.view prog 25 3 underlying25 aN;injection h8 with e1 _ e3;subst e1 e3;have HC:=aH hc;have f7:=aH F;clear hc F c6 e5;go_wp2_with fail;go_loopw [4,6] (fun nv sv wr=>∃s:Nat,s<=l.length/\sv=aG s/\nv=aG (fT ((tY N s).map (yK l)) 0)/\Below w1 w1 wr) (fun _ sv _=>l.length-(intOf sv).toNat)
  case atStart=>exact⟨0,Nat.zero_le _,rfl,rfl,Below.refl _ _⟩
  case round=>
   obtain⟨s,Y,rfl,rfl,B⟩:=hrel;obtain⟨wo,rfl⟩:∃wo:World,wo=wr:=⟨_,rfl⟩;have K:=K1.keep B;have G:=K.cell;clear G1;obtain⟨M,R⟩:=aJ (fT ((tY N s).map (yK l)) 0);rw[<-R];have O:=aH R;clear R;by_cases h7:s<l.length
   ·have c8:(s:Int)<(l.length:Int):=aD;go_wp2_with fail;go_loopw [4,7] (fun nv iv wr=>∃i:Nat,i<=N/\iv=aG i/\nv=aG (fT ((tY N s++wC s i).map (yK l)) 0)/\Below w1 w1 wr) (fun _ iv _=>N-(intOf iv).toNat)
    case atStart=>exact⟨0,Nat.zero_le _,rfl,by rw[show wC s 0=[] from rfl,List.append_nil,O.out],B⟩
    case round=>
     obtain⟨i,hi,rfl,rfl,B2⟩:=hrel;obtain⟨wi,rfl⟩:∃wo:World,wo=wr:=⟨_,rfl⟩;have K2:=K1.keep B2;have G2:=K2.cell;clear G K O B;obtain⟨M2,R⟩:=aJ (fT ((tY N s++wC s i).map (yK l)) 0);rw[<-R];have O:=aH R;clear R;by_cases h5:i<N
     ·have b9:(i:Int)<(N:Int):=aD;go_wp2_with fail;go_loopw [4,8] (fun nv kv wr=>∃k:Nat,k<=i/\kv=aG k/\nv=aG (fT (((tY N s++wC s i)++FX s i k).map (yK l)) 0)/\Below w1 w1 wr) (fun _ kv _=>i-(intOf kv).toNat)
      case atStart=>exact⟨0,Nat.zero_le _,rfl,by rw[show FX s i 0=[] from rfl,List.append_nil,O.out],B2⟩
      case round=>
       obtain⟨k,hk,rfl,rfl,B3⟩:=hrel;obtain⟨wk,rfl⟩:∃wo:World,wo=wr:=⟨_,rfl⟩;clear G2 K2 O B2;obtain⟨M3,R⟩:=aJ (fT (((tY N s++wC s i)++FX s i k).map (yK l)) 0);rw[<-R];have O:=aH R;clear R;by_cases l4:k<i
       ·have c5:(k:Int)<(i:Int):=aD;have c9:FX s i (k+1)=FX s i k++(if (!cZ s i&&!cZ s k) then [(s,i,k)] else []):=rfl;have a1:=aH c9;have g8:=jN (s:Int) i aD aD;have g9:=jN (s:Int) k aD aD;have I:=xN s i;have J:=xN s k;obtain⟨y,hy⟩:=aJ (dI (s:Int) i);obtain⟨z,hz⟩:=aJ (dI (s:Int) k);rw[<-hy]at g8 I;rw[<-hz]at g9 J;clear hy hz c9
        cases h1:cZ s i with
        |true=>
         have h9:(y==0)=false:=by rw[I,h1];rfl
         have H1:=aH h1;clear h1 I J;go_wp2;go_roundw
         case rel=>exact⟨k+1,by omega,by go_num,by rw[a1.out,H1.out,O.out];simp,B3⟩
         case measure=>simp[intOf];omega
        |false=>
         have h9:(y==0)=true:=by rw[I,h1];rfl
         cases h2:cZ s k with
         |true=>
          have i6:(z==0)=false:=by rw[J,h2];rfl
          have H2:=aH h2;clear h1 h2 I J;go_wp2;go_roundw
          case rel=>exact⟨k+1,by omega,by go_num,by rw[a1.out,H2.out,O.out];simp,B3⟩
          case measure=>simp[intOf];omega
         |false=>
          have i6:(z==0)=true:=by rw[J,h2];rfl
          have a7:fT (((tY N s++wC s i)++FX s i (k+1)).map (yK l)) 0=max M3 (rZ l s i k):=by rw[a1.out,h1,h2,O.out,<-List.append_assoc,List.map_append];exact adR _ _ _
          have hl:=f8.out;have D:=f9.out;have hc:=aR HC.out hb B3 aI;have F:=f7.out;have hn:=g7;have Y:s<2^N:=by rw[<-hl];exact h7
          have hi:=h5;have hk:k<N:=aD;have h1:=eI s i N Y hi;have h2:=eI s k N Y hk;have h3:=eI (bX s i) k N h1 hk;rw[<-sQ]at h3;have p5:(2:Nat)^N<=32:=Nat.pow_le_pow_right (n:=2) aQ hn;rw[<-hl]at h1 h2 h3 Y p5;have c0:=hc s Y;have c1:=hc _ h1;have c2:=hc _ h2;have c3:=hc _ h3;have i0:=fun W=>F W s Y;have i1:=fun W=>F W _ h1;have i2:=fun W=>F W _ h2;have i3:=fun W=>F W _ h3;have b0:=D s Y;have b1:=D _ h1;have b2:=D _ h2;have b3:=D _ h3;have hex:rZ l s i k=l[bX s i ||| bX s k]+l[s]-l[bX s i]-l[bX s k]:=by unfold rZ;rw[aS l _ h3,aS l _ Y,aS l _ h1,aS l _ h2]
          have q1:=fQ s i aD aD;have q2:=fQ s k aD aD;have q3:=M8 (bX s i) (bX s k) aD aD;have q4:=fQ (bX s i) k aD aD;rw[<-sQ]at q4;obtain⟨u1,d0⟩:=aJ (bX s i);obtain⟨u2,e0⟩:=aJ (bX s k);simp only[<-d0,<-e0]at c1 c2 c3 i1 i2 i3 b1 b2 b3 hex q1 q2 q3 q4 h1 h2 h3;obtain⟨u3,e4⟩:=aJ (u1 ||| u2);simp only[<-e4]at c3 i3 b3 hex q3 q4 h3;obtain⟨x0,e6⟩:=aJ (l[s]);obtain⟨x1,e7⟩:=aJ (l[u1]);obtain⟨x2,e8⟩:=aJ (l[u2]);obtain⟨x3,e9⟩:=aJ (l[u3]);rw[<-e6]at c0 b0 hex;rw[<-e7]at c1 b1 hex;rw[<-e8]at c2 b2 hex;rw[<-e9]at c3 b3 hex;have pi:=cJ i 6 aD;have pk:=cJ k 6 aD;have l9:(2:Int)^i<=64:=by simpa using pi.1
          have m3:(2:Int)^k<=64:=by simpa using pk.1
          have m2:=pi.2;have m4:=pk.2;have wi:IntKind.i64.wrap ((2:Int)^i)=2^i:=by rw[IntKind.wrap_i64];omega
          have wk:IntKind.i64.wrap ((2:Int)^k)=2^k:=by rw[IntKind.wrap_i64];omega
          have m8:IntKind.i64.wrap (x3+x0)=x3+x0:=by rw[IntKind.wrap_i64];omega
          have m9:IntKind.i64.wrap (x3+x0-x1)=x3+x0-x1:=by rw[IntKind.wrap_i64];omega
          have n0:IntKind.i64.wrap (x3+x0-x1-x2)=x3+x0-x1-x2:=by rw[IntKind.wrap_i64];omega
          have z0:(0:Int)<=(s:Int):=aD;rw[hex]at a7;have g2:=aH a7;clear F D hex d0 e0 e4 e6 e7 e8 e9 pi pk q3 hc hl a7 h1 h2 I J;go_wp2_with fail;go_quiet (fail);go_wp2;go_roundw
          case rel=>exact⟨k+1,by omega,by go_num,by rw[g2.out],B3.drewN' _⟩
          case measure=>simp[intOf];omega
       ·have c5:¬(k:Int)<(i:Int):=aD;have h6:k=i:=aD;subst h6;go_wp2;go_roundw
        case rel=>exact⟨k+1,by omega,by go_num,by rw[show wC s (k+1)=wC s k++FX s k k from rfl,<-List.append_assoc,O.out],B3⟩
        case measure=>simp[intOf];omega
     ·have b9:¬(i:Int)<(N:Int):=aD;have h0:i=N:=aD;subst h0;go_wp2;go_roundw
      case rel=>exact⟨s+1,by omega,by go_num,by rw[show tY i (s+1)=tY i s++wC s i from rfl,O.out],B2⟩
      case measure=>simp[intOf];omega
   ·have c8:¬(s:Int)<(l.length:Int):=aD;have c7:s=l.length:=aD;have b6:M=mF (N:Int) l:=by rw[HG.out,O.out,c7]
    have g0:=aH b6;clear c7 b6;go_wp2;go_ret2;exact⟨by rw[g0.out];rfl,B1.after B B1.size⟩
theorem kL(b:Bool)(x:ByteArray)(w:World):
  Calls prog 42 #[.bool b,.string x] w fun e w'=>e=.returned (.string (iV b x))/\w=w':=by
 cases b
 ·go_enter func42,ntmps42;go_wp2;go_ret;exact⟨rfl,rfl⟩
 ·go_enter func42,ntmps42;go_wp2;go_ret;exact⟨rfl,rfl⟩
theorem af1(w:World)(n:Int)(v:Value)(l:List Int)(hv:aK w v l)(hl:l.length<=1048576):
  Calls prog 14 #[.agg #[n,v]] w fun e w'=>e=.returned (.string (mL n l))/\Below w w w':=by
 have a8:=hv;obtain⟨a,c,rfl⟩:=hv.shape;have K0:=aP.new w 27 #[n,aA a l.length c]
 cases hf:aY n l with
 |false=>
  have hx:mL n l=ByteArray.empty:=by unfold mL;rw[hf];rfl
  have HX:=aH hx;have HF:=aH hf;clear hx hf;go_enter func14,ntmps14;go_wp2_with fail;refine(dH n l _ _ (a8.alloc _)).mono ?_;rintro e w1 ⟨rfl,b1⟩;rw[HF.out];go_wp2;go_ret;exact⟨bJ HX.out.symm,(bF _ _).after b1 (by simp)⟩
 |true=>
  have hx:=NV hf;rw[show dW=cU from rfl,RY]at hx;have m2:=AO hf;have m3:=FH hf;have g6:=P2 n l;have g7:=tD n l;have e5:=cM (mF n l) ⟨by omega,by omega⟩;obtain⟨F,hF⟩:=aJ (dC n l);obtain⟨g,hg⟩:=aJ (mF n l);obtain⟨N,hN⟩:=aJ (aX g);rw[<-hF,<-hg]at hx;rw[<-hF]at g7;rw[<-hg]at g6 e5;rw[<-hN]at e5 hx;have HX:=aH hx;have HF:=aH hf;have a6:=fun(W:World) (h:aK W (aA a l.length c) l)=>xM n l _ W h;have a7:=fun(W:World) (h:aK W (aA a l.length c) l)=>alC W n _ l h;rw[<-hF]at a6;rw[<-hg]at a7;have e9:=aH a6;have f0:=aH a7;have l0:=aH hN;clear hx hf hF hg a6 a7 hN;go_enter func14,ntmps14;go_wp2_with fail;refine(dH n l _ _ (a8.alloc _)).mono ?_;rintro e w1 ⟨rfl,b1⟩;rw[HF.out];have B:Below w w w1:=(bF _ _).after b1 (by simp);have K:=K0.keep b1;clear K0 b1;have G:=K.cell;go_wp2_with fail;refine(e9.out _ (a8.below B aI)).mono ?_;rintro e w2 ⟨rfl,b2⟩;have B:=B.after b2 B.size;have K:=K.keep b2;clear G b2;have G:=K.cell;go_wp2_with fail;refine(f0.out _ (a8.below B aI)).mono ?_;rintro e w3 ⟨rfl,b3⟩;have B:=B.after b3 B.size;have K:=K.keep b3;have a9:=a8.below B aI;clear G b3 e9 f0;have G:=K.cell;have g0:=G 0;have g1:=G 1;simp only[List.getElem?_toArray,List.getElem?_cons_zero,List.getElem?_cons_succ]at g0 g1;clear G;go_upto_region 5 with fail;go_cut [3] (fun v wx=>∃X,v=.string X/\X=zW F N (eR (eX n l)) (eR (gX n l))/\X.size<=4100/\Below w3 w3 wx)
  case rest=>
   obtain⟨X,rfl,hX,o9,b4⟩:=hcut;have D:=a9.keep b4;have K2:=K.keep b4;have B2:=B.after b4 B.size;have l4:=aH hX;have G:=K2.cell;have g0:=G 0;have g1:=G 1;simp only[List.getElem?_toArray,List.getElem?_cons_zero,List.getElem?_cons_succ]at g0 g1;clear G hX;have q0:∀y:Ext wc,y.w.cell? ⟨w.heap.size,0,none⟩=some (aG n):=fun y=>y.cell g0;have q1:∀y:Ext wc,y.w.cell? ⟨w.heap.size,1,none⟩=some (aA a l.length c):=fun y=>y.cell g1;have Q0:=fun y:Ext wc=>pY n l _ y.w ((D.keep y.b)) hl;have Q1:=fun y:Ext wc=>amT n l _ y.w ((D.keep y.b)) hl;have Q2:=fun y:Ext wc=>WF n l _ y.w ((D.keep y.b));have Q3:=fun y:Ext wc=>xY n l _ y.w ((D.keep y.b));have Q4:=fun y:Ext wc=>YT n l _ y.w ((D.keep y.b)) hl;have Q5:=fun y:Ext wc=>yE n l _ y.w ((D.keep y.b)) hl;have Q6:=fun y:Ext wc=>ajJ n l _ y.w ((D.keep y.b)) hl;obtain⟨f3,I⟩:=aJ (fO n l);rw[<-I]at Q0;obtain⟨f4,J⟩:=aJ (tX n l);rw[<-J]at Q1;obtain⟨f5,O⟩:=aJ (mU n l);rw[<-O]at Q2;obtain⟨f6,R⟩:=aJ (eD n l);rw[<-R]at Q3;obtain⟨f7,Y⟩:=aJ (sW n l);rw[<-Y]at Q4;obtain⟨f8,Z⟩:=aJ (eZ n l);rw[<-Z]at Q5;obtain⟨f9,a1⟩:=aJ (dQ n l);rw[<-a1]at Q6;have j9:=aH (And.intro I (And.intro J (And.intro O (And.intro R (And.intro Y (And.intro Z a1))))));have Q0:=aH Q0;have Q1:=aH Q1;have Q2:=aH Q2;have Q3:=aH Q3;have Q4:=aH Q4;have Q5:=aH Q5;have Q6:=aH Q6;obtain⟨t0,b6⟩:=aJ (iV f3 (⟨#[32,115,117,98,109,111,100,117,108,97,114]⟩:ByteArray));have Y0:=fun y:Ext wc=>kL f3 (⟨#[32,115,117,98,109,111,100,117,108,97,114]⟩:ByteArray) y.w;rw[<-b6]at Y0;have Y0:=aH Y0;have z0:t0.size<=14:=by rw[b6];exact Nat.le_trans (dP _ _) aQ
   obtain⟨t1,b7⟩:=aJ (iV f4 (⟨#[32,115,117,112,101,114,109,111,100,117,108,97,114]⟩:ByteArray));have Y1:=fun y:Ext wc=>kL f4 (⟨#[32,115,117,112,101,114,109,111,100,117,108,97,114]⟩:ByteArray) y.w;rw[<-b7]at Y1;have Y1:=aH Y1;have z1:t1.size<=14:=by rw[b7];exact Nat.le_trans (dP _ _) aQ
   obtain⟨t2,b8⟩:=aJ (iV f5 (⟨#[32,105,110,99,114,101,97,115,105,110,103]⟩:ByteArray));have Y2:=fun y:Ext wc=>kL f5 (⟨#[32,105,110,99,114,101,97,115,105,110,103]⟩:ByteArray) y.w;rw[<-b8]at Y2;have Y2:=aH Y2;have z2:t2.size<=14:=by rw[b8];exact Nat.le_trans (dP _ _) aQ
   obtain⟨t3,b9⟩:=aJ (iV f6 (⟨#[32,103,114,111,117,110,100,101,100]⟩:ByteArray));have Y3:=fun y:Ext wc=>kL f6 (⟨#[32,103,114,111,117,110,100,101,100]⟩:ByteArray) y.w;rw[<-b9]at Y3;have Y3:=aH Y3;have z3:t3.size<=14:=by rw[b9];exact Nat.le_trans (dP _ _) aQ
   obtain⟨t4,c5⟩:=aJ (iV f7 (⟨#[32,115,121,109,109,101,116,114,105,99]⟩:ByteArray));have Y4:=fun y:Ext wc=>kL f7 (⟨#[32,115,121,109,109,101,116,114,105,99]⟩:ByteArray) y.w;rw[<-c5]at Y4;have Y4:=aH Y4;have z4:t4.size<=14:=by rw[c5];exact Nat.le_trans (dP _ _) aQ
   obtain⟨t5,c6⟩:=aJ (iV f8 (⟨#[32,112,111,108,121,109,97,116,114,111,105,100]⟩:ByteArray));have Y5:=fun y:Ext wc=>kL f8 (⟨#[32,112,111,108,121,109,97,116,114,111,105,100]⟩:ByteArray) y.w;rw[<-c6]at Y5;have Y5:=aH Y5;have z5:t5.size<=14:=by rw[c6];exact Nat.le_trans (dP _ _) aQ
   obtain⟨t6,c7⟩:=aJ (iV f9 (⟨#[32,109,97,116,114,111,105,100]⟩:ByteArray));have Y6:=fun y:Ext wc=>kL f9 (⟨#[32,109,97,116,114,111,105,100]⟩:ByteArray) y.w;rw[<-c7]at Y6;have Y6:=aH Y6;have z6:t6.size<=14:=by rw[c7];exact Nat.le_trans (dP _ _) aQ
   have l2:=aH (And.intro b6 (And.intro b7 (And.intro b8 (And.intro b9 (And.intro c5 (And.intro c6 c7))))));clear g0 g1 I J O R Y Z a1 b6 b7 b8 b9 c5 c6 c7 a9 D K2 m2 m3 g6 g7 e5 K;have s0:(X++t0).size<=4114:=by simp only[ByteArray.size_append];omega
   have s1:(X++t0++t1).size<=4128:=by simp only[ByteArray.size_append];omega
   have s2:(X++t0++t1++t2).size<=4142:=by simp only[ByteArray.size_append];omega
   have s3:(X++t0++t1++t2++t3).size<=4156:=by simp only[ByteArray.size_append];omega
   have s4:(X++t0++t1++t2++t3++t4).size<=4170:=by simp only[ByteArray.size_append];omega
   have s5:(X++t0++t1++t2++t3++t4++t5).size<=4184:=by simp only[ByteArray.size_append];omega
   have s6:(X++t0++t1++t2++t3++t4++t5++t6).size<=4198:=by simp only[ByteArray.size_append];omega
   go_wp2_with fail;refine bH _ aO aO ?_
   repeat(first|go_big_quiet_skip|(go_big_quiet_want;go_big_quiet_op;first|go_big_quiet_on|(apply Exists.intro;refine⟨fun _=>?_,?_⟩;(first|(go_at_call 43;with_reducible exact bW (Q0.out _))|(go_at_call 44;with_reducible exact bW (Q1.out _))|(go_at_call 45;with_reducible exact bW (Q2.out _))|(go_at_call 23;with_reducible exact bW (Q3.out _))|(go_at_call 46;with_reducible exact bW (Q4.out _))|(go_at_call 47;with_reducible exact bW (Q5.out _))|(go_at_call 48;with_reducible exact bW (Q6.out _))|(go_at_call 42;first|(with_reducible exact dN (Y0.out _))|(with_reducible exact dN (Y1.out _))|(with_reducible exact dN (Y2.out _))|(with_reducible exact dN (Y3.out _))|(with_reducible exact dN (Y4.out _))|(with_reducible exact dN (Y5.out _))|(with_reducible exact dN (Y6.out _))));go_big_quiet_on)))
   refine wpQuiet_nil ?_;rintro w5 ⟨⟨w5,b5⟩,rfl⟩
   try dsimp only
   go_wp2_with fail;go_ret;refine⟨bJ ?_,B2.after b5 B2.size⟩;obtain⟨h0,h1,h2,h3,h4,h5,h6⟩:=j9.out;obtain⟨k0,k1,k2,k3,k4,k5,k6⟩:=l2.out;rw[HX.out,<-h0,<-h1,<-h2,<-h3,<-h4,<-h5,<-h6,k0,k1,k2,k3,k4,k5,k6,l4.out]
   rfl
  case first=>
   have q0:∀y:Ext w3,y.w.cell? ⟨w.heap.size,0,none⟩=some (aG n):=fun y=>y.cell g0;have q1:∀y:Ext w3,y.w.cell? ⟨w.heap.size,1,none⟩=some (aA a l.length c):=fun y=>y.cell g1;have e4:=fun W:World=>fS g ⟨by omega,by omega⟩ W;rw[<-l0.out]at e4;have k8:=aH e4;have p5:aK w3.drew (aA a l.length c) l:=a9.drew';clear e4 g0 g1;refine FZ (C:=fun w'=>∃x:Ext w3,w'=x.w) aO aO aO ⟨⟨w3.drew,(Below.refl _ _).drew⟩,rfl⟩ ?_;have bd:Below w3 w3 w3.drew:=(Below.refl _ _).drew
   repeat(refine fV (by rfl) ?_;(first|go_big_quiet_skip|(go_big_quiet_want;go_big_quiet_op;go_big_quiet_on));refine wpQuiet_nil ?_)
   refine gU 8 _ _ rfl (enters_of func8 aO rfl) aO ?_;intro KK z;go_simp;refine(k8.out _).mono ?_;rintro e wa ⟨rfl,ba⟩;have ba:=bd.after ba bd.size;refine⟨_,rfl,?_⟩;go_simp;refine z _ _ ⟨⟨wa,ba⟩,rfl⟩ ?_;clear z KK
   repeat(refine fV (by rfl) ?_;(first|go_big_quiet_skip|(go_big_quiet_want;go_big_quiet_op;go_big_quiet_on));refine wpQuiet_nil ?_)
   refine gU 40 _ _ rfl (enters_of func40 aO rfl) aO ?_;intro KK z;go_simp;refine(aiL wa n _ l (a9.keep ba) hl).mono ?_;rintro e wb ⟨p1,i1,r1,rfl,o1,bb⟩;have bb:=ba.after bb ba.size;have rM:=o1.ints.inR;have sM:(eR (eX n l)).size<=708:=by have:=lW _ rM;omega
   refine⟨_,rfl,?_⟩;go_simp;refine z _ _ ⟨⟨wb,bb⟩,rfl⟩ ?_;clear z KK
   repeat(refine fV (by rfl) ?_;(first|go_big_quiet_skip|(go_big_quiet_want;go_big_quiet_op;go_big_quiet_on));refine wpQuiet_nil ?_)
   refine gU 39 _ _ rfl (enters_of func39 aO rfl) aO ?_;intro KK z;go_simp;refine(wV (eX n l) _ wb o1.ints aD).mono ?_;rintro e wd ⟨rfl,bc⟩;have bc:=bb.after bc bb.size;obtain⟨M,hM⟩:=aJ (eR (eX n l));rw[<-hM]at sM ⊢;have k9:=aH hM;clear hM;refine⟨_,rfl,?_⟩;go_simp;refine z _ _ ⟨⟨wd,bc⟩,rfl⟩ ?_;clear z KK;have e0:(⟨#[102,117,110,99,116,105,111,110,32]⟩:ByteArray).size=9:=rfl;have e1:(⟨#[32,103,97,112,32]⟩:ByteArray).size=5:=rfl;have e2:(⟨#[32,109,97,115,115,101,115,32]⟩:ByteArray).size=8:=rfl;have e3:(⟨#[32,115,104,97,112,108,101,121,32]⟩:ByteArray).size=9:=rfl
   repeat(refine fV (by rfl) ?_;(first|go_big_quiet_skip|(go_big_quiet_want;go_big_quiet_op;go_big_quiet_on));refine wpQuiet_nil ?_)
   refine gU 41 _ _ rfl (enters_of func41 aO rfl) aO ?_;intro KK z;go_simp;refine(apE wd n _ l (a9.keep bc) hl).mono ?_;rintro e we ⟨p2,i2,r2,rfl,o2,be⟩;have be:=bc.after be bc.size;have rS:=o2.ints.inR;have sS:(eR (gX n l)).size<=708:=by have:=lW _ rS;omega
   refine⟨_,rfl,?_⟩;go_simp;refine z _ _ ⟨⟨we,be⟩,rfl⟩ ?_;clear z KK
   repeat(refine fV (by rfl) ?_;(first|go_big_quiet_skip|(go_big_quiet_want;go_big_quiet_op;go_big_quiet_on));refine wpQuiet_nil ?_)
   refine gU 39 _ _ rfl (enters_of func39 aO rfl) aO ?_;intro KK z;go_simp;refine(wV (gX n l) _ we o2.ints aD).mono ?_;rintro e wf ⟨rfl,bf⟩;have bf:=be.after bf be.size;obtain⟨S,hS⟩:=aJ (eR (gX n l));rw[<-hS]at sS ⊢;have l1:=aH hS;clear hS;refine⟨_,rfl,?_⟩;go_simp;refine z _ _ ⟨⟨wf,bf⟩,rfl⟩ ?_;clear z KK
   repeat(refine fV (by rfl) ?_;(first|go_big_quiet_skip|(go_big_quiet_want;go_big_quiet_op;go_big_quiet_on));refine wpQuiet_nil ?_)
   refine TC ?_;go_wp2_with fail;go_meet;exact⟨_,rfl,by rw[k9.out,l1.out];rfl,H9 F N M S aD aD aD aD,bf⟩
end
end Go.Proofs.YtkdbkjjacgigiaaGreatDoor
