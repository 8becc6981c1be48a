/- Lemmas for CardConsoleResults. No condition. -/
import Derived.Test.YtkdbkjjacgigiaaGreatDoorQ08
import Derived.Test.YtkdbkjjacgigiaaGreatDoorQ26
import Derived.Deep.DeepCutAuto
set_option maxRecDepth 100000
set_option maxHeartbeats 64000000
namespace Go.Proofs.YtkdbkjjacgigiaaGreatDoor
section
open Go.RowKit Go.G5 Go.Proofs.Tryz
theorem vR(b n c k:Nat)(hk:k<n)(W:World):(Instr.indexAt 52 (aA (some ⟨b,0,none⟩) n c) (aG (k:Int))).run prog W=.ok (.pointer (some ⟨b,k,none⟩)) W:=by
 have F:=underlying52;have D:prog.elem 52=9:=by simp[Program.elem,F]
 obtain⟨i,I,_,z,_⟩:=zZ.get;rw[run_indexAt_slice W 52 ⟨b,0,none⟩ n c .i64 k (by rw[D];exact F),if_pos ⟨by omega,by omega⟩,D];simp[sizeOf,typeInfo,I,z,Addr.add];omega
theorem DU{w:World}{g:Nat}{t:TypeId}{z:List ByteArray}(K:aP w g t (z.map Value.string).toArray)(k:Nat)(h:k<z.length):w.cell? ⟨g,k,none⟩=some (.string z[k]):=by
 rw[K.cell];simp[h]
theorem ajG(n:Int)(s:ByteArray)(w:World)(hs:s.size<=2000000)(hp:iY w)(hm:sE w):
  Calls prog 145 #[n,.string s] w fun e w'=>e=.returned (.tuple #[(nC n s),.bool (lM n s)])/\Below w w w':=by
 have a1:=gH n 0 6 w
 cases hn:dV n 0 6 with
 |false=>rw[hn]at a1;have F:=aH (ao6 (s:=s) hn);have HW:=aH a1;clear hn a1;go_enter func145,ntmps145;go_wp2_with fail;refine HW.out.mono ?_;rintro e w1 ⟨rfl,rfl⟩;go_wp2;go_ret2;exact⟨mJ (I1 F.out).symm F.out.symm,Below.refl _ _⟩
 |true=>
 rw[hn]at a1;have HW:=aH a1;clear a1;by_cases hd:s=iX
 ·subst hd;have HD:=aH (YB hn);have b9:((iX).toList==[45])=true:=by rw[show([45]:List UInt8)=iX.toList by decide +kernel,dX];simp
  clear hn;go_enter func145,ntmps145;go_wp2_with fail;refine HW.out.mono ?_;rintro e w1 ⟨rfl,rfl⟩;go_wp2;go_ret2;exact⟨mJ HD.out.2.symm HD.out.1.symm,Below.refl _ _⟩
 have b9:(s.toList==[45])=false:=by rw[show([45]:List UInt8)=iX.toList by decide +kernel,dX,decide_eq_false hd]
 obtain⟨h0,h6⟩:=cR.1 hn;obtain⟨N,rfl⟩:=Int.eq_ofNat_of_zero_le h0;have a7:=QQ (n:=(N:Int)) hd;have a9:=abR hn hd;have b4:=QS (n:=(N:Int)) hd;have b1:=abS N (cI 44 s);have f6:=LR 44 s;have S:=xR 44 s;have e4:=DM 44 s w hm aD;obtain⟨D,f8⟩:=aJ (cI 44 s);rw[<-f8]at a7 a9 b4 b1 f6 S e4;have f4:=fun k=>IC D k;have j8:(2:Nat)^N<=2^6:=Nat.pow_le_pow_right aQ aD;have c7:=aH a7;have e7:=aH a9;have f3:=aH b4;have g5:=aH b1;have d0:=aH S;have e9:=aH e4;have e5:=aH f4;clear a7 a9 b4 b1 S e4 f4 f8 hd hn;go_enter func145,ntmps145;go_wp2_with fail;refine HW.out.mono ?_;rintro e w1 ⟨rfl,rfl⟩;go_wp2_with fail;refine e9.out.mono ?_;rintro e w1 ⟨rfl,rfl⟩;have K1:aP (w.alloc (.cells (D.map Value.string).toArray 9)) w.heap.size 9 (D.map Value.string).toArray:=aP.new _ _ _;have B1:Below w w (w.alloc (.cells (D.map Value.string).toArray 9)):=bF _ _;obtain⟨V,hV⟩:=aJ (w.alloc (.cells (D.map Value.string).toArray 9));rw[<-hV]at K1 B1 ⊢;clear hV HW e9 b9;go_wp2_with fail;go_loopw [19,6] (fun iv uv wr=>∃k:Nat,k<=D.length/\iv=aG k/\uv=aG (uY D k:Int)/\(D.take k).all (pH (N:Int))=true/\Below w w wr/\aP wr w 9 (D.map Value.string).toArray) (fun iv _ _=>D.length-(intOf iv).toNat)
 case atStart=>exact⟨0,Nat.zero_le _,rfl,rfl,rfl,B1,K1⟩
 case round=>
  obtain⟨k,hk,rfl,rfl,J,Y,Kw⟩:=hrel;have hu:=g5.out k hk J;have c6:=aH J;clear J B1 K1;by_cases hlt:k<D.length
  ·have f7:(k:Int)<(D.length:Int):=aD;have a8:=DU Kw k hlt;have k1:=fun W=>vR w.heap.size D.length D.length k hlt W;have f5:=e5.out k hlt;have h9:=d0.out _ (List.getElem_mem hlt);have z:uY D (k+1)=bX (uY D k) (pN D[k]).toNat:=by rw[uY,f5]
   have Z:(D.take (k+1)).all (pH (N:Int))=pH (N:Int) D[k]:=by rw[List.take_succ_eq_append_getElem hlt,List.all_append,c6.out];simp
   have b0:=CJ (pH (N:Int)) D k hlt;obtain⟨x,hx⟩:=aJ (D[k]);rw[<-hx]at a8 h9 z Z b0;obtain⟨u,b3⟩:=aJ (uY D k);rw[<-b3]at z hu ⊢;have K:=E5 x wr aD (hp.keep Y);have g6:=aH z;have g7:=aH Z;have c8:=aH b0;clear f5 z Z b0 hx b3 e5
   cases I:pB x with
   |false=>
    rw[I]at K;have O:pH (N:Int) x=false:=by unfold pH;rw[I];rfl
    have a6:=aH K;have F:=aH (c7.out (c8.out O));clear K O I;go_wp2_with fail;refine a6.out.mono ?_;rintro e w2 ⟨rfl,b2⟩;go_wp2;go_ret2;exact⟨mJ (I1 F.out).symm F.out.symm,Y.after b2 Y.size⟩
   |true=>
    rw[I,OU I]at K;have R:=fun W=>ac8 (N:Int) (pN x) W
    cases O:(decide (0<=pN x)&&decide (pN x<(N:Int))) with
    |false=>
     simp only[O]at R;have M:pH (N:Int) x=false:=by unfold pH;rw[O];simp
     obtain⟨y,hy⟩:=aJ (pN x);rw[<-hy]at K;simp only[<-hy]at R;have a6:=aH K;have c9:=aH R;have F:=aH (c7.out (c8.out M));clear K O M I R hy;go_wp2_with fail;refine a6.out.mono ?_;rintro e w2 ⟨rfl,b2⟩;go_wp2_with fail;refine(c9.out _).mono ?_;rintro e w3 ⟨rfl,rfl⟩;go_wp2;go_ret2;exact⟨mJ (I1 F.out).symm F.out.symm,Y.after b2 Y.size⟩
    |true=>
     simp only[O]at R;have M:pH (N:Int) x=true:=by unfold pH;rw[I,O];rfl
     obtain⟨_,e,he,k0⟩:=aa4 M;have z:=g6.out;rw[he]at K z;simp only[he]at R;rw[Int.toNat_natCast]at z;have h8:=fQ u e aD aD;have Z:(D.take (k+1)).all (pH (N:Int))=true:=by rw[g7.out,M]
     have j9:(e:Int)<6:=aD;have b8:=MR (e:Int) aD;rw[Int.toNat_natCast]at b8;have k2:=b8.1;have k3:=b8.2;obtain⟨u2,f9⟩:=aJ (bX u e);rw[<-f9]at h8 z;have e8:=aH z;have a6:=aH K;have c9:=aH R;have f0:=aH Z;clear K O M I R Z he b8 z f9;go_wp2_with fail;refine a6.out.mono ?_;rintro e w2 ⟨rfl,b2⟩;have B2:=Y.after b2 Y.size;have K2:=Kw.keep b2;clear Y Kw a8;go_wp2_with fail;refine(c9.out _).mono ?_;rintro e w3 ⟨rfl,rfl⟩;go_wp2;go_roundw
     case rel=>exact⟨k+1,by omega,by go_num,by rw[e8.out],f0.out,B2,K2⟩
     case measure=>simp[intOf];omega
  ·have f7:¬(k:Int)<(D.length:Int):=aD;have e0:k=D.length:=aD;have J:=c6.out;rw[e0,List.take_length]at J;have b5:=e7.out J;have c5:=f3.out;rw[show OV D=uY D k by unfold OV;rw[e0]]at b5 c5;have b6:=fC (N:Int) (uY D k:Int) wr (hp.keep Y);obtain⟨T,hT⟩:=aJ (bG (N:Int) (uY D k:Int));rw[<-hT]at b6 b5;obtain⟨u,b3⟩:=aJ (uY D k);rw[<-b3]at b6 c5 hu ⊢;have g2:=aH b6;have e6:=aH b5;have g8:=aH c5;clear e0 J b5 c5 b6 hT b3;go_wp2_with fail;refine g2.out.mono ?_;rintro e w2 ⟨rfl,b2⟩;by_cases ht:T=s
   ·have I:lM (N:Int) s=true:=by rw[e6.out,decide_eq_true ht]
    have b9:(T.toList==s.toList)=true:=by rw[dX,decide_eq_true ht]
    have F:=aH I;clear I ht;go_wp2;go_ret2;exact⟨mJ (g8.out F.out).symm F.out.symm,Y.after b2 Y.size⟩
   ·have I:lM (N:Int) s=false:=by rw[e6.out,decide_eq_false ht]
    have b9:(T.toList==s.toList)=false:=by rw[dX,decide_eq_false ht]
    have F:=aH I;clear I ht;go_wp2;go_ret2;exact⟨mJ (I1 F.out).symm F.out.symm,Y.after b2 Y.size⟩
end
section
open Go.RowKit Go.G5 Go.Proofs.Tryz
end
section
open Go.RowKit Go.G5 Go.Proofs.Tryz
def pK(n:Int)(s:ByteArray):Bool:=dV n 0 6&&(decide (s=eF)||((cI 124 s).all (lM n)&&aU n ((cI 124 s).map (nC n))))
def AW(n:Int)(s:ByteArray):Int:=if pK n s then n else 0
def yV(n:Int)(s:ByteArray):List Int:=if pK n s then (if s=eF then [] else (cI 124 s).map (nC n)) else []
theorem ao2{n:Int}{s:ByteArray}(z:dV n 0 6=false):pK n s=false:=by unfold pK;rw[z];rfl
theorem ad0{n:Int}{s:ByteArray}(h:pK n s=false):AW n s=0/\yV n s=[]:=by unfold AW yV;rw[h];exact⟨rfl,rfl⟩
theorem QL{n:Int}(z:dV n 0 6=true):pK n eF=true/\AW n eF=n/\yV n eF=[]:=by
 have:pK n eF=true:=by unfold pK;rw[z];simp
 unfold AW yV;rw[this];exact⟨rfl,rfl,by simp⟩
theorem ajC{n:Int}{s:ByteArray}(hd:s≠eF)(h:(cI 124 s).all (lM n)=false):pK n s=false:=by
 unfold pK;rw[h,decide_eq_false hd];simp
theorem XX{n:Int}{s:ByteArray}(z:dV n 0 6=true)(hd:s≠eF)(h:(cI 124 s).all (lM n)=true):pK n s=aU n ((cI 124 s).map (nC n)):=by
 unfold pK;rw[h,decide_eq_false hd,z];simp
theorem XY{n:Int}{s:ByteArray}(hd:s≠eF)(h:pK n s=true):AW n s=n/\yV n s=(cI 124 s).map (nC n):=by
 unfold AW yV;rw[if_pos h,if_pos h,if_neg hd];exact⟨rfl,rfl⟩
theorem aq6{n:Int}{s:ByteArray}(h:pK n s=true):aU n (yV n s)=true:=by
 by_cases hd:s=eF
 ·subst hd;have z:dV n 0 6=true:=by unfold pK at h;rw[Bool.and_eq_true]at h;exact h.1
  rw[(QL z).2.2];unfold aU dZ AA;rw[z];simp
 ·have z:dV n 0 6=true:=by unfold pK at h;rw[Bool.and_eq_true]at h;exact h.1
  have D:(cI 124 s).all (lM n)=true:=by
   cases F:(cI 124 s).all (lM n) with
   |true=>rfl
   |false=>rw[ajC hd F]at h;cases h
  rw[(XY hd h).2,<-XX z hd D];exact h
theorem aq8(n:Int)(s:ByteArray):0<=nC n s/\nC n s<64:=by
 cases h:lM n s with
 |false=>rw[I1 h];omega
 |true=>
  have D:dV n 0 6=true:=by unfold lM at h;rw[Bool.and_eq_true]at h;exact h.1
  obtain⟨z,F⟩:=cR.1 D;obtain⟨N,rfl⟩:=Int.eq_ofNat_of_zero_le z;have h1:=ao7 h;have h2:=(cJ N 6 aD).1;simp at h2;omega
theorem amO(n:Int)(z:List ByteArray)(k:Nat)(h:k<z.length):(z.take (k+1)).map (nC n)=(z.take k).map (nC n)++[nC n z[k]]:=by
 rw[List.take_succ_eq_append_getElem h,List.map_append];rfl
theorem pP{w W Wf:World}{r:Nat}{E:TypeId}{n m:Int}{a b:Value}{ad:Option Addr}{i D:Nat}{l:List Int}{B:Nat}
  (K:aP W r E #[n,a]) (o:aM 3 B W (aA ad i D) l) (hr:w.heap.size<=r) (hB:r<B) (hb:Below w w W)
  (z:Wf=(W.setCell ⟨r,0,none⟩ (aG m)).setCell ⟨r,1,none⟩ b):aP Wf r E #[m,b]/\aM 3 w Wf (aA ad i D) l/\Below w w Wf:=by
 refine⟨?_,?_,?_⟩
 ·rw[z];have:=(K.set 0 (aG m)).set 1 b;simpa using this
 ·rw[z];exact((o.setBelow (by show r<B;exact hB) _).setBelow (by show r<B;exact hB) _).mono aD
 ·rw[z];exact Below.setCell (Below.setCell hb hr _) hr _
theorem anB{p:Prop}(h:p:=by
  go_wp2_with fail;refine f4.out.mono ?_;rintro e w2 ⟨rfl,b2⟩;have I:=d0.keep b2;have e0:=b4.keep b2;have m9:=g6.keep b2;have o2:=ow.keep b2;have B2:=Bw.after b2 Bw.size;have z2:=b2.size;have G:=e0.cell;have F:=e0.frozen;have f0:=o2.lt;clear Y i1 Bw d0 b4 g6 ow b2;go_wp2_with (at_builtin;refine dA rfl _ _ _ rfl 3 underlying25 aN (w.heap.size+3) _ l y w2.heap.size rfl rfl (aZ _ _ _ _ _ rfl) (o2.alloc _) h7 aD aT ?_;intro v7 w7 o7 g7;obtain⟨p7,i7,q7,rfl⟩:=o7.shape3;have j8:=(e0.alloc (.cells #[y] 3)).grow g7 (by intro e;have:=(f0 _ e).1;omega);have G7:=j8.cell;have F7:=j8.frozen);have m7:=(I.alloc (.cells #[y] 3)).grow g7 (by intro e;have:=(f0 _ e).1;omega);have n0:=(m9.alloc (.cells #[y] 3)).grow g7 (by intro e;have:=(f0 _ e).1;omega);have B7:Below w w w7:=(B2.alloc B2.size (.cells #[y] 3)).grown g7 (by have:=B2.size;simp;omega) (fun q hq=>by have:=(f0 q hq).1;omega);have z7:=g7.size;simp at z7;go_roundw
  case rel=>
   refine⟨k+1,p7,i7,q7,by omega,by go_num,i8.out,Below.setCell B7 (by show w.heap.size<=w.heap.size+1;omega) _,by show w.heap.size+3<=(w7.setCell _ _).heap.size;simp;omega,m7.far (by show w.heap.size≠w.heap.size+1;omega) _,?_,n0.far (by show w.heap.size+2≠w.heap.size+1;omega) _,?_⟩
   ·have:=j8.set 1 (aA p7 i7 q7);simpa using this
   ·rw[k9.out];exact o7.setBelow (by show w.heap.size+1<w.heap.size+3;omega) _
  case measure=>simp[intOf];omega):p:=h
theorem ah0{p:Prop}(h:p:=by
  exact bodyPost_ret (v:=.tuple #[.agg #[aB,()],.bool false]) (by simp[results,results92,go_sem,GF]) rfl ⟨none,0,0,by rw[K.out.1,K.out.2.1],by rw[K.out.2.2];exact t.2.1,t.2.2⟩):p:=h
theorem ai9(n:Int)(s:ByteArray)(w:World)(hs:s.size<=2000000)(hp:iY w)(hm:sE w):
  Calls prog 92 #[n,.string s] w fun e w'=>∃ad i c,e=.returned (.tuple #[.agg #[(AW n s),aA ad i c],.bool (pK n s)])/\aM 3 w w' (aA ad i c) (yV n s)/\Below w w w':=by
 obtain⟨W1,N⟩:=aJ (w.alloc (.cells #[aB,()] 29));have e8:=gH n 0 6 W1;have K0:aP W1 w 29 #[aB,()]:=gJ N;have B0:Below w w W1:=gY N;have b9:W1.heap.size=w.heap.size+1:=by rw[N];simp
 cases hn:dV n 0 6 with
 |false=>rw[hn]at e8;have z:=ao2 (s:=s) hn;have K:=aH (And.intro z (ad0 z));have HW:=aH e8;have G:=K0.cell;have F:=K0.frozen;clear hn e8 z;go_enter func92,ntmps92;go_wp2_with fail;rw[<-N];clear N;refine HW.out.mono ?_;rintro e w1 ⟨rfl,rfl⟩;go_wp2;refine bN ?_;intro Wf J;have t:=pP (w:=w) (E:=29) (m:=0) (b:=aA none 0 0) K0 (aM.nil 3 (W1.heap.size) W1) aI aD B0 J;have GF:=t.1.cell;exact ah0
 |true=>
 rw[hn]at e8;have HW:=aH e8;obtain⟨V,hV⟩:=aJ (W1.alloc (.cells #[n,()] 29));have b3:aP V w 29 #[aB,()]:=by rw[hV];exact K0.alloc _
 have f5:aP V (w.heap.size+1) 29 #[n,()]:=by rw[hV,<-b9];exact aP.new _ _ _
 have BV:Below w w V:=by rw[hV];exact B0.alloc aD _
 have c5:V.heap.size=w.heap.size+2:=by rw[hV];simp;omega
 have HZ:=aH (And.intro b9 c5);have l9:w.heap.size+1<=W1.heap.size:=aD;by_cases hd:s=eF
 ·subst hd;have HD:=aH (QL hn);have l7:(eF.toList==[110,111,110,101])=true:=by rw[show([110,111,110,101]:List UInt8)=eF.toList by decide +kernel,dX];simp
  have G0:=b3.cell;have F0:=b3.frozen;have G1:=f5.cell;clear hn e8 b9 c5;go_enter func92,ntmps92;go_wp2_with fail;rw[<-N];clear N;refine HW.out.mono ?_;rintro e w1 ⟨rfl,rfl⟩;go_upto_region 4 with fail;rw[<-hV,HZ.out.1];clear hV;go_wp2_with fail;refine bN ?_;intro Wf J;have t:=pP (w:=w) (E:=29) (m:=n) (b:=aA none 0 0) b3 (aM.nil 3 (V.heap.size) V) aI (by have:=HZ.out;omega) BV J;have GF:=t.1.cell;exact bodyPost_ret (v:=.tuple #[.agg #[n,()],.bool true]) (by simp[results,results92,go_sem,GF]) rfl ⟨none,0,0,by rw[HD.out.1,HD.out.2.1],by rw[HD.out.2.2];exact t.2.1,t.2.2⟩
 have l7:(s.toList==[110,111,110,101])=false:=by rw[show([110,111,110,101]:List UInt8)=eF.toList by decide +kernel,dX,decide_eq_false hd]
 have a1:=ajC (n:=n) hd;have a6:=XX hn hd;have a9:=XY (n:=n) hd;have h0:=LR 124 s;have O:=xR 124 s;have b0:=DM 124 s V (hm.keep (by rw[hV,N];exact wI _ _ _)) aD;obtain⟨D,h6⟩:=aJ (cI 124 s);rw[<-h6]at a1 a6 a9 h0 O b0;rw[c5]at b0;have f7:=aH a1;have f8:=aH a6;have g2:=aH a9;have c8:=aH O;have g0:=aH b0;clear a1 a6 a9 O b0 h6 hd hn e8;go_enter func92,ntmps92;go_wp2_with fail;rw[<-N];clear N;refine HW.out.mono ?_;rintro e w1 ⟨rfl,rfl⟩;go_upto_region 4 with fail;rw[<-hV];clear hV b9 c5;go_wp2_with fail;refine g0.out.mono ?_;rintro e w1 ⟨rfl,rfl⟩;have e5:aP (V.alloc (.cells (D.map Value.string).toArray 9)) (w.heap.size+2) 9 (D.map Value.string).toArray:=by rw[<-HZ.out.2];exact aP.new _ _ _
 have c9:=b3.alloc (.cells (D.map Value.string).toArray 9);have e4:=f5.alloc (.cells (D.map Value.string).toArray 9);have BU:=BV.alloc BV.size (.cells (D.map Value.string).toArray 9);have o0:=aM.nil 3 (w.heap.size+3) (V.alloc (.cells (D.map Value.string).toArray 9));have zU:w.heap.size+3<=(V.alloc (.cells (D.map Value.string).toArray 9)).heap.size:=by have:=HZ.out.2;simp;omega
 obtain⟨U,hU⟩:=aJ (V.alloc (.cells (D.map Value.string).toArray 9));rw[<-hU]at e5 c9 e4 BU o0 zU ⊢;clear hU HW g0 l7 b3 f5 BV K0 B0;go_wp2_with fail;go_loopw [23] (fun iv wr=>∃(k:Nat) (ad:Option Addr) (i c:Nat),k<=D.length/\iv=aG k/\(D.take k).all (lM n)=true/\Below w w wr/\w.heap.size+3<=wr.heap.size/\aP wr w 29 #[aB,()]/\aP wr (w.heap.size+1) 29 #[n,aA ad i c]/\aP wr (w.heap.size+2) 9 (D.map Value.string).toArray/\aM 3 (w.heap.size+3) wr (aA ad i c) ((D.take k).map (nC n))) (fun iv _=>D.length-(intOf iv).toNat)
 case atStart=>exact⟨0,none,0,0,Nat.zero_le _,rfl,rfl,BU,zU,c9,e4,e5,o0⟩
 case round=>
  obtain⟨k,ad,i,c,hk,rfl,M,Bw,zw,d0,b4,g6,ow⟩:=hrel;have b1:=aH M;clear M BU zU c9 e4 e5 o0;by_cases hlt:k<D.length
  ·have h5:(k:Int)<(D.length:Int):=aD;have Y:=DU g6 k hlt;have i1:=fun W=>vR (w.heap.size+2) D.length D.length k hlt W;have k1:=c8.out _ (List.getElem_mem hlt);have R:(D.take (k+1)).all (lM n)=lM n D[k]:=by rw[List.take_succ_eq_append_getElem hlt,List.all_append,b1.out];simp
   have a7:=CJ (lM n) D k hlt;have a8:=amO n D k hlt;obtain⟨x,hx⟩:=aJ (D[k]);rw[<-hx]at Y k1 R a7 a8;have S:=ajG n x wr aD (hp.keep Bw) (hm.keep Bw);have n1:=aq8 n x;obtain⟨y,hy⟩:=aJ (nC n x);rw[<-hy]at S n1 a8;have h7:dL y:=⟨by omega,by omega⟩;have e6:((D.take k).map (nC n)).length<=2000001:=by rw[List.length_map,List.length_take];omega
   obtain⟨l,hl⟩:=aJ ((D.take k).map (nC n));rw[<-hl]at ow a8 e6;have j5:=aH R;have f9:=aH a7;have k9:=aH a8;clear R a7 a8 hx hy hl
   cases z:lM n x with
   |false=>rw[z]at S;have e7:=f7.out (f9.out z);have K:=aH (And.intro e7 (ad0 e7));have f4:=aH S;clear S z e7;go_wp2_with fail;refine f4.out.mono ?_;rintro e w2 ⟨rfl,b2⟩;have I:=d0.keep b2;have B2:=Bw.after b2 Bw.size;have G:=I.cell;have F:=I.frozen;clear Y i1;go_wp2;refine bN ?_;intro Wf J;have t:=pP (w:=w) (E:=29) (m:=0) (b:=aA none 0 0) I (aM.nil 3 (w2.heap.size) w2) aI I.lt B2 J;have GF:=t.1.cell;clear J G F;exact ah0
   |true=>rw[z]at S;have R:=j5.out;rw[z]at R;have i8:=aH R;have f4:=aH S;clear S z R;exact anB
  ·have h5:¬(k:Int)<(D.length:Int):=aD;have g9:k=D.length:=aD;have M:=b1.out;rw[g9,List.take_length]at M ow;have b6:=f8.out M;have b8:=g2.out;have b7:=ad0 (n:=n) (s:=s);have e6:(D.map (nC n)).length<=2000001:=by rw[List.length_map];omega
   obtain⟨l,hl⟩:=aJ (D.map (nC n));rw[<-hl]at ow b6 b8 e6;have j9:=cQ n l _ wr ow.ints;rw[<-b6]at j9;have k0:=ow.ints.capLe.1;subst k0;have j6:=aH b8;have j4:=aH b7;have m5:=aH j9;have G1:=b4.cell;clear g9 M b6 b8 b7 j9 hl;go_wp2_with fail;refine m5.out.mono ?_;rintro e w2 ⟨rfl,b2⟩;have I:=d0.keep b2;have e0:=b4.keep b2;have o2:=ow.keep b2;have B2:=Bw.after b2 Bw.size;clear G1;have G0:=I.cell;have F0:=I.frozen;have G1:=e0.cell
   cases z:pK n s with
   |false=>have K:=aH (j4.out z);have Z:=aH z;clear z;go_wp2;refine bN ?_;intro Wf J;have t:=pP (w:=w) (E:=29) (m:=0) (b:=aA none 0 0) I (aM.nil 3 (w2.heap.size) w2) aI I.lt B2 J;have GF:=t.1.cell;clear J G0 F0 G1;exact bodyPost_ret (v:=.tuple #[.agg #[aB,()],.bool false]) (by simp[results,results92,go_sem,GF]) rfl ⟨none,0,0,by rw[K.out.1,Z.out],by rw[K.out.2];exact t.2.1,t.2.2⟩
   |true=>have K:=aH (j6.out z);have Z:=aH z;clear z;go_wp2;refine bN ?_;intro Wf J;have t:=pP (w:=w) (E:=29) (m:=n) (b:=aA ad l.length c) I o2 aI aD B2 J;have GF:=t.1.cell;clear J G0 F0 G1;exact bodyPost_ret (v:=.tuple #[.agg #[n,aA ad l.length c],.bool true]) (by simp[results,results92,go_sem,GF]) rfl ⟨_,_,_,by rw[K.out.1,Z.out],by rw[K.out.2];exact t.2.1,t.2.2⟩
end
section
open Go.RowKit Go.G5 Go.Proofs.Tryz
end
section
open Go.Shelf
set_option maxRecDepth 100000
def QV:Go.Shelf.Ren:=⟨fun|125=>131|128=>173|129=>174|n=>n,fun|46=>117|3=>3|51=>139|53=>141|4=>4|5=>5|9=>9|n=>n,fun|n=>n⟩
theorem ad8:Go.Proofs.Lays.n125 Tryz.prog QV:={
 mixed:=by kernel_rfl
 f125:=Tryz.func131.trans (congrArg some (by kernel_rfl))
 f128:=Tryz.func173.trans (congrArg some (by kernel_rfl))
 f129:=Tryz.func174.trans (congrArg some (by kernel_rfl))
 t3:=Tryz.underlying3
 a3:=Tryz.isAgg3
 z3:=Tryz.sizeOf3
 v3:=Tryz.zeroValue3
 t4:=Tryz.underlying4
 a4:=Tryz.isAgg4
 z4:=Tryz.sizeOf4
 v4:=Tryz.zeroValue4
 t5:=Tryz.underlying5
 a5:=Tryz.isAgg5
 z5:=Tryz.sizeOf5
 v5:=Tryz.zeroValue5
 t9:=Tryz.underlying9
 a9:=Tryz.isAgg9
 z9:=Tryz.sizeOf9
 v9:=Tryz.zeroValue9
 t46:=Tryz.underlying117
 a46:=Tryz.isAgg117
 z46:=Tryz.sizeOf117
 v46:=Tryz.zeroValue117
 t51:=Tryz.underlying139
 a51:=Tryz.isAgg139
 z51:=Tryz.sizeOf139
 v51:=Tryz.zeroValue139
 t53:=Tryz.underlying141
 a53:=Tryz.isAgg141
 z53:=Tryz.sizeOf141
 v53:=Tryz.zeroValue141 }
theorem aaK(x:Int)(w:World)(z:0<=x)(h1:x<=18446744073709551615):
 Calls Tryz.prog 131 #[.int .u64 x] w fun e w'=>e=.returned (.int .i64 (Lib.bitLen x.toNat))/\w'=w:=Any.bits_Len ad8 x w z h1
end
section
open Go.RowKit Go.G5 Go.Proofs.Tryz
def FR(m:Nat):Int:=(Lib.bitLen m:Int)-1
theorem aqN:∀n:Nat,n<6->Lib.bitLen (2^n)=n+1:=by decide +kernel
theorem UK:∀m:Nat,m<256->Lib.bitLen m<=8:=by decide +kernel
theorem aqM(m:Nat)(h:m<256):-1<=FR m/\FR m<=7:=by
 have:=UK m h;unfold FR;omega
theorem abF(n:Nat)(h:n<6):FR (2^n)=n:=by unfold FR;rw[aqN n h];omega
def nO(s:ByteArray):Bool:=decide (s.size<=200)&&((cI 44 s).all pB&&aY (FR (cI 44 s).length) ((cI 44 s).map pN))
def vG(s:ByteArray):Int:=if nO s then FR (cI 44 s).length else 0
def uC(s:ByteArray):List Int:=if nO s then (cI 44 s).map pN else []
theorem T8{s:ByteArray}(h:nO s=false):vG s=0/\uC s=[]:=by unfold vG uC;rw[h];exact⟨rfl,rfl⟩
theorem VQ{s:ByteArray}(h:nO s=true):vG s=FR (cI 44 s).length/\uC s=(cI 44 s).map pN:=by unfold vG uC;rw[h];exact⟨rfl,rfl⟩
theorem aoD{s:ByteArray}(h:¬s.size<=200):nO s=false:=by unfold nO;rw[decide_eq_false h];rfl
theorem aqE{s:ByteArray}(h:(cI 44 s).all pB=false):nO s=false:=by unfold nO;rw[h];simp
theorem afN{s:ByteArray}(z:s.size<=200)(h:(cI 44 s).all pB=true):nO s=aY (FR (cI 44 s).length) ((cI 44 s).map pN):=by
 unfold nO;rw[h,decide_eq_true z];simp
theorem aqF{s:ByteArray}(h:nO s=true):aY (vG s) (uC s)=true:=by
 obtain⟨h1,h2⟩:=VQ h;rw[h1,h2];unfold nO at h;simp only[Bool.and_eq_true]at h;exact h.2.2
theorem apG(z:List ByteArray)(k:Nat)(h:k<z.length):(z.take (k+1)).map pN=(z.take k).map pN++[pN z[k]]:=by
 rw[List.take_succ_eq_append_getElem h,List.map_append];rfl
theorem aa9{n:Int}{l:List Int}(h:aY n l=true):l.length<=32:=by
 obtain⟨_,_,_,_,z,_⟩:=cS h;exact z
def dC(n:Int)(l:List Int):ByteArray:=if aY n l=true then bR eS (l.map aX) else ByteArray.empty
theorem tD(n:Int)(l:List Int):(dC n l).size<=704:=by
 unfold dC
 split
 ·rename_i h
  obtain⟨N,_,_,_,D,z⟩:=cS h;have:=nF l (fun x F=>by
   obtain⟨k,hk,rfl⟩:=List.mem_iff_getElem.1 F;have:=z k hk;exact⟨by omega,by omega⟩)
  omega
 ·simp
theorem CO(n:Int)(l:List Int)(v:Value)(w:World)(O:aK w v l)(Z:iY w):
  Calls prog 178 #[.agg #[n,v]] w fun e w'=>e=.returned (.string (dC n l))/\Below w w w':=by
 have I:=O;obtain⟨a,c,rfl⟩:=O.shape;have S:=aP.new w 27 #[n,aA a l.length c];go_enter func178,ntmps178;go_wp2_with fail;refine(dM n l _ _ (I.alloc _)).mono ?_;rintro e w1 ⟨rfl,D⟩;have Y:=S.keep D;have z:Below w w w1:=(bF _ _).after D (by simp);have G1:=Y.cell
 cases F:aY n l with
 |false=>
  have J:dC n l=ByteArray.empty:=by unfold dC;rw[F];rfl
  have K:=aH J;clear J F;go_wp2;go_ret;exact⟨bJ K.out.symm,z⟩
 |true=>
  have J:dC n l=bR eS (l.map aX):=by unfold dC;rw[if_pos F]
  have M:=aa9 F;have R:=aH (uN l _ w1 (I.below z aI) aD (Z.keep z));have K:=aH J;clear J F M;go_wp2_with fail;refine R.out.mono ?_;rintro e w2 ⟨rfl,N⟩;go_wp2;go_ret;exact⟨bJ K.out.symm,z.after N z.size⟩
theorem xM(n:Int)(l:List Int)(v:Value)(w:World)(hv:aK w v l):
  Calls prog 7 #[.agg #[n,v]] w fun e w'=>e=.returned (.string (dC n l))/\Below w w w':=by
 have b5:=hv;have a9:=hv.inR;obtain⟨a,b,f5,c,rfl,b1,b0,hc,hb⟩:=hv.view prog 25 3 underlying25 aN;have K0:=aP.new w 27 #[n,aA a l.length c];have HC:=aH hc;have Y:=aH a9;have b9:=aH b0;clear hc a9 b0 b1
 cases N:aY n l with
 |false=>
  have J:dC n l=ByteArray.empty:=by unfold dC;rw[N];rfl
  have HX:=aH J;have HF:=aH N;clear J N;go_enter func7,ntmps7;go_wp2_with fail;go_loopw [3,4] (fun sv iv wr=>iv=aG 0/\sv=.string ⟨#[]⟩/\Below w w wr/\aP wr w 27 #[n,aA a l.length c]) (fun _ _ _=>0)
  case atStart=>exact⟨rfl,rfl,bF _ _,K0⟩
  case round=>obtain⟨rfl,rfl,B,K⟩:=hrel;have G1:=K.cell;go_wp2_with fail;refine(dH n l _ _ (b5.below B aI)).mono ?_;rintro e w1 ⟨rfl,z⟩;rw[HF.out];go_wp2;go_ret;exact⟨bJ HX.out.symm,B.after z B.size⟩
 |true=>
  have J:dC n l=bR eS (l.map aX):=by unfold dC;rw[if_pos N]
  have d0:=aa9 N;have hl:l.length<=1000:=aD;have HX:=aH J;have HF:=aH N;clear J N d0;go_enter func7,ntmps7;go_wp2_with fail;go_loopw [3,4] (fun sv iv wr=>∃(k:Nat) (S:ByteArray),k<=l.length/\iv=aG k/\sv=.string S/\S=bR eS ((l.take k).map aX)/\Below w w wr/\aP wr w 27 #[n,aA a l.length c]) (fun _ iv _=>l.length-(intOf iv).toNat)
  case atStart=>exact⟨0,_,Nat.zero_le _,rfl,rfl,rfl,bF _ _,K0⟩
  case round=>
   obtain⟨k,S,hk,rfl,rfl,F,B,K⟩:=hrel;obtain⟨wz,rfl⟩:∃q:World,q=wr:=⟨_,rfl⟩;have HS:=aH F;clear F K0;have G1:=K.cell;go_wp2_with fail;refine(dH n l _ _ (b5.below B aI)).mono ?_;rintro e w1 ⟨rfl,z⟩;rw[HF.out];have K:=K.keep z;have B:=B.after z B.size;clear G1 z;have G1:=K.cell;have F:=HS.out;have f2:S.size<=22000:=by rw[F];exact xL l k Y.out hl hk
   by_cases hlt:k<l.length
   ·have b4:(k:Int)<(l.length:Int):=aD;have e5:=aR HC.out hb B aI k hlt;have f4:=fun W=>b9.out W k hlt;have D:=CM l k hlt;have O:=Y.out l[k] (List.getElem_mem hlt);rw[<-F]at D;have M:k=0->S=ByteArray.empty:=fun h=>by rw[F,h];rfl
    obtain⟨x,J⟩:=aJ (l[k]);rw[<-J]at e5 D O;have hT:=cM x O;have hF:=fS x O w1;obtain⟨T,a7⟩:=aJ (aX x);rw[<-a7]at D hT hF;have R:=aH hF;have Z:=aH D;clear hF D J a7 F HS;by_cases I:k=0
    ·have e4:=M I;subst e4;have c5:=aH I;have e6:¬0<(k:Int):=aD;have a8:¬0<k:=aD;clear M I;go_wp2_with fail;refine R.out.mono ?_;rintro e w3 ⟨rfl,b3⟩;have B:=B.after b3 B.size;have K:=K.keep b3;go_wp2;go_roundw
     case rel=>exact⟨k+1,_,by omega,by go_num,rfl,by rw[Z.out,if_pos c5.out],B,K⟩
     case measure=>simp[intOf];omega
    ·have e6:0<(k:Int):=aD;have a8:0<k:=aD;have f0:(S++eS).size<=22001:=by rw[ByteArray.size_append];show S.size+1<=22001;omega
     clear M;go_wp2_with fail;refine R.out.mono ?_;rintro e w3 ⟨rfl,b3⟩;have B:=B.after b3 B.size;have K:=K.keep b3;go_wp2;go_roundw
     case rel=>exact⟨k+1,_,by omega,by go_num,rfl,by rw[Z.out,if_neg I];rfl,B,K⟩
     case measure=>simp[intOf];omega
   ·have b4:¬(k:Int)<(l.length:Int):=aD;have a6:dC n l=S:=by rw[HX.out,F,show k=l.length by omega,List.take_length]
    have c7:=aH a6;clear a6 F HS;go_wp2;go_ret;exact⟨bJ c7.out.symm,B⟩
theorem nG(g:Int)(l:List Int)(v:Value)(w:World)(hv:aK w v l):
  Calls prog 9 #[.agg #[g,v]] w fun e w'=>e=.returned (.string (bZ g l))/\Below w w w':=by
 have J:=hv;obtain⟨a,b,f6,c,rfl,c6,c5,hc,hb⟩:=hv.view prog 25 3 underlying25 aN;have K0:=aP.new w 29 #[g,aA a l.length c];have HC:=aH hc;have e5:=aH c5;clear hc c5 c6
 cases R:aU g l with
 |false=>
  have hx:bZ g l=ByteArray.empty:=by unfold bZ;rw[R];rfl
  have HX:=aH hx;have HF:=aH R;clear hx R;go_enter func9,ntmps9;go_wp2_with fail;go_loopw [3,4] (fun sv iv wr=>iv=aG 0/\sv=.string ⟨#[]⟩/\Below w w wr/\aP wr w 29 #[g,aA a l.length c]) (fun _ _ _=>0)
  case atStart=>exact⟨rfl,rfl,bF _ _,K0⟩
  case round=>
   obtain⟨rfl,rfl,B,K⟩:=hrel;have G1:=K.cell;by_cases D:0<l.length
   ·have f5:(0:Int)<(l.length:Int):=aD;go_wp2_with fail;refine(cK g l _ _ (J.below B aI)).mono ?_;rintro e w1 ⟨rfl,z⟩;rw[HF.out];have K:=K.keep z;have B:=B.after z B.size;clear G1;have G1:=K.cell;go_wp2_with fail;refine(cK g l _ _ (J.below B aI)).mono ?_;rintro e w2 ⟨rfl,F⟩;rw[HF.out];go_wp2;go_ret;exact⟨bJ HX.out.symm,B.after F B.size⟩
   ·have f5:¬(0:Int)<(l.length:Int):=aD;go_wp2_with fail;refine(cK g l _ _ (J.below B aI)).mono ?_;rintro e w2 ⟨rfl,F⟩;rw[HF.out];go_wp2;go_ret;exact⟨bJ HX.out.symm,B.after F B.size⟩
 |true=>
  have e9:=iL R;have c8:bZ g l=if l=[] then eF else bR bar (l.map (bG g)):=by unfold bZ;rw[if_pos R]
  have O:(bR bar (l.map (bG g))=ByteArray.empty)=(l=[]):=akC g l (aqD R);have e4:=aH O;have b4:=aH c8;have HF:=aH R;clear c8 R O;go_enter func9,ntmps9;go_wp2_with fail;go_loopw [3,4] (fun sv iv wr=>∃(k:Nat) (S:ByteArray),k<=l.length/\iv=aG k/\sv=.string S/\S=bR bar ((l.take k).map (bG g))/\Below w w wr/\aP wr w 29 #[g,aA a l.length c]) (fun _ iv _=>l.length-(intOf iv).toNat)
  case atStart=>exact⟨0,_,Nat.zero_le _,rfl,rfl,rfl,bF _ _,K0⟩
  case round=>
   obtain⟨k,S,hk,rfl,rfl,Z,B,K⟩:=hrel;obtain⟨wz,rfl⟩:∃q:World,q=wr:=⟨_,rfl⟩;have g7:S.size<=22000:=by rw[Z];exact ae0 g l k e9 hk
   have HS:=aH Z;clear Z K0;have G1:=K.cell;by_cases hlt:k<l.length
   ·have c7:(k:Int)<(l.length:Int):=aD;go_wp2_with fail;refine(cK g l _ _ (J.below B aI)).mono ?_;rintro e w1 ⟨rfl,z⟩;rw[HF.out];have K:=K.keep z;have B:=B.after z B.size;clear G1 z;have Z:=HS.out;have a6:=aR HC.out hb B aI k hlt;have g9:=fun W=>e5.out W k hlt;have I:=aeZ g l k hlt;rw[<-Z]at I;have a1:k=0->S=ByteArray.empty:=fun h=>by rw[Z,h];rfl
    obtain⟨x,hx⟩:=aJ (l[k]);rw[<-hx]at a6 I;have hT:=fA g x;have hF:=fun y:Ext w1=>nH g x y.w;obtain⟨T,b8⟩:=aJ (bG g x);rw[<-b8]at I hT hF;have b1:=aH hF;have b5:=aH I;have f0:=K.cell 0;have f1:=K.cell 1;simp only[List.getElem?_toArray,List.getElem?_cons_zero,List.getElem?_cons_succ]at f0 f1;have q0:∀y:Ext w1,y.w.cell? ⟨w.heap.size,0,none⟩=some (aG g):=fun y=>y.cell f0;have q1:∀y:Ext w1,y.w.cell? ⟨w.heap.size,1,none⟩=some (aA a l.length c):=fun y=>y.cell f1;have qk:∀y:Ext w1,y.w.cell? ⟨b,f6+k,none⟩=some (aG x):=fun y=>y.cell a6;clear hF I hx b8 Z HS f0 f1 a6;by_cases N:k=0
    ·have f3:=a1 N;subst f3;have e6:=aH N;have f4:¬0<(k:Int):=aD;have b9:¬0<k:=aD;clear a1 N;go_wp2_with fail;refine bH _ aO aO ?_
     repeat(first|go_big_quiet_skip|(go_big_quiet_want;go_big_quiet_op;first|go_big_quiet_on|(apply Exists.intro;refine⟨fun _=>?_,?_⟩;(go_at_call 22;with_reducible exact bW (b1.out _));go_big_quiet_on)))
     refine wpQuiet_nil ?_;rintro w3 ⟨⟨w3,b3⟩,rfl⟩
     try dsimp only
     have B:=B.after b3 B.size;have K:=K.keep b3;go_wp2;go_roundw
     case rel=>exact⟨k+1,_,by omega,by go_num,rfl,by rw[b5.out,if_pos e6.out],B,K⟩
     case measure=>simp[intOf];omega
    ·have f4:0<(k:Int):=aD;have b9:0<k:=aD;have g6:(S++bar).size<=22001:=by rw[ByteArray.size_append];show S.size+1<=22001;omega
     clear a1;go_wp2_with fail;refine bH _ aO aO ?_
     repeat(first|go_big_quiet_skip|(go_big_quiet_want;go_big_quiet_op;first|go_big_quiet_on|(apply Exists.intro;refine⟨fun _=>?_,?_⟩;(go_at_call 22;with_reducible exact bW (b1.out _));go_big_quiet_on)))
     refine wpQuiet_nil ?_;rintro w3 ⟨⟨w3,b3⟩,rfl⟩
     try dsimp only
     have B:=B.after b3 B.size;have K:=K.keep b3;go_wp2;go_roundw
     case rel=>exact⟨k+1,_,by omega,by go_num,rfl,by rw[b5.out,if_neg N];rfl,B,K⟩
     case measure=>simp[intOf];omega
   ·have c7:¬(k:Int)<(l.length:Int):=aD;have M:S=bR bar (l.map (bG g)):=by rw[HS.out,show k=l.length by omega,List.take_length]
    have a8:=tK S;have a7:decide (S=ByteArray.empty)=decide (l=[]):=by rw[M];simp only[e4.out]
    rw[a7]at a8
    cases h0:decide (l=[]) with
    |true=>
     have D:bZ g l=eF:=by rw[b4.out,if_pos (of_decide_eq_true h0)]
     rw[h0]at a8;have Y:=aH D;clear h0 a7 M D HS;go_wp2_with fail;refine(cK g l _ _ (J.below B aI)).mono ?_;rintro e w2 ⟨rfl,F⟩;rw[HF.out];go_wp2;go_ret;exact⟨bJ Y.out.symm,B.after F B.size⟩
    |false=>
     have D:bZ g l=S:=by rw[b4.out,if_neg (of_decide_eq_false h0)];exact M.symm
     rw[h0]at a8;have Y:=aH D;clear h0 a7 M D HS;go_wp2;go_ret;exact⟨bJ Y.out.symm,B⟩
end
end Go.Proofs.YtkdbkjjacgigiaaGreatDoor
