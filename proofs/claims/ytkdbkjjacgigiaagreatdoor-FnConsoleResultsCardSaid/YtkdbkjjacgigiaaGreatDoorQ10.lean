/- Lemmas for CardConsoleResults. No condition. -/
import Derived.Test.YtkdbkjjacgigiaaGreatDoorQ09
set_option maxRecDepth 100000
set_option maxHeartbeats 64000000
namespace Go.Proofs.YtkdbkjjacgigiaaGreatDoor
section
open Go.RowKit Go.G5 Go.Proofs.Tryz
theorem adW(n:Nat)(hn:n<=5)(l:List Int)(v:Value)(g s:Nat)(W:World)(hv:aK W v l)(hl:l.length=2^n)(hs:s<2^n)(c0:W.cell? ⟨g,0,none⟩=some (aG n))(c1:W.cell? ⟨g,1,none⟩=some v):
  Calls prog 339 #[s,.pointer (some ⟨g,0,none⟩)] W fun e w'=>e=.returned (uW l s)/\Below W W w':=by
 have R:=hv;obtain⟨a,b,S,c,rfl,a1,J,hc,hb⟩:=hv.view prog 25 3 underlying25 aN;have Z:=JX l s aD;have p5:(2:Nat)^n<=32:=Nat.pow_le_pow_right (n:=2) aQ hn;have hd:=OM n hn s hs;have z:=xK (2^n-1) s aD aD;rw[hd]at z;have N:=Nat.two_pow_pos n;have D:((2^n-1:Nat):Int)=(2:Int)^n-1:=by rw[Int.ofNat_sub N];simp
 rw[D]at z;have I:=hc (l.length-1-s) aD;have F:=fun W=>J W (l.length-1-s) aD;rw[<-Z]at I;rw[hl]at I F;have e0:∀x:Ext W,x.w.cell? ⟨g,0,none⟩=some (aG n):=fun x=>x.cell c0;have e1:∀x:Ext W,x.w.cell? ⟨g,1,none⟩=some (aA a l.length c):=fun x=>x.cell c1;have e2:∀x:Ext W,x.w.cell? ⟨b,S+(2^n-1-s),none⟩=some (aG (uW l s)):=fun x=>x.cell I;obtain⟨q,O⟩:=aJ (uW l s);rw[<-O]at e2;obtain⟨m,hm⟩:=aJ (2^n-1-s);simp only[<-hm]at F e2 z;have HQ:=aH O;have K:=aH (fun(x:Ext W)=>sF (n:Int) (aA a l.length c) l x.w (x.ints R) aD aD);have Y:l.length=2^n:=hl;rw[<-Y]at F;have a8:=aH hl;clear hc J hb Z hd I O hm D hl Y;go_enter func339,ntmps339;go_wp2_with fail;refine bH _ aO aO ?_
 repeat(first|go_big_quiet_skip|(go_big_quiet_want;go_big_quiet_op;first|go_big_quiet_on|(apply Exists.intro;refine⟨fun _=>?_,?_⟩;(go_at_call 272;exact bW (K.out _));go_big_quiet_on)))
 refine wpQuiet_nil ?_;rintro w3 ⟨⟨w3,M⟩,rfl⟩
 try dsimp only
 go_wp2;go_ret;exact⟨fL HQ.out,M⟩
theorem KH:∀args w,(callFunc 339 args).run prog w=.ok (.enter 339 args) w:=enters_of func339 aO rfl
theorem aq0(w:World)(n:Int)(v:Value)(l:List Int)(hv:aK w v l)(_:l.length<=1048576):
  Calls prog 267 #[.agg #[n,v]] w fun e w'=>∃ad i S,e=.returned (.tuple #[.agg #[(DD n l),aA ad i S],.bool (aY n l)])/\aM 3 w w' (aA ad i S) (CE n l)/\Below w w w':=by
 obtain⟨a,c,rfl⟩:=hv.shape;have e6:∀(fn:Fn) (first cap:Array Value) (w:World),(Instr.makeFunc fn first cap).run prog w=.ok (.func fn first cap) w:=fun _ _ _ _=>rfl;go_enter func267,ntmps267;go_wp2_with fail;refine bU ?_;intro V hV;have B:Below w w V:=gO hV;have K1:aP V w 27 #[n,aA a l.length c]:=gR hV;have F:aP V (w.heap.size+1) 27 #[aB,()]:=iP hV;clear hV;refine(dM n l _ _ (hv.below B aI)).mono ?_;rintro e w1 ⟨rfl,J⟩;have K1:=K1.keep J;have F:=F.keep J;have B1:=B.after J B.size;have c9:=hv.below B1 aI;clear B J;have G1:=K1.cell;have z1:=K1.lt;have z2:=F.lt
 cases K:aY n l with
 |false=>
  have Z:DD n l=0:=by unfold DD;rw[K];rfl
  have Y:CE n l=[]:=by unfold CE;rw[K];rfl
  have HN:=aH Z;have HL:=aH Y;have HF:=aH K;have G2:=F.cell;have F2:=F.frozen;clear Z Y;go_wp2;refine bN ?_;intro Wf z;have M:aP Wf (w.heap.size+1) 27 #[aB,()]:=by rw[z];have:=(F.set 0 (aG 0)).set 1 (aA none 0 0);simpa using this
  have Bf:Below w w Wf:=by rw[z];exact Below.setCell (Below.setCell B1 (by first|omega|(simp;done)|(simp;omega)) _) (by first|omega|(simp;done)|(simp;omega)) _
  have Gf:=M.cell;clear z G1 G2 F2;exact bodyPost_ret (v:=.tuple #[.agg #[aB,()],.bool false]) (by simp[results,results267,go_sem,Gf]) rfl ⟨none,0,0,by rw[HN.out,HF.out],by rw[HL.out];exact aM.nil _ _ _,Bf⟩
 |true=>
  obtain⟨h0,h5,I,a7⟩:=kP K;obtain⟨N,rfl⟩:=Int.eq_ofNat_of_zero_le h0;have a1:N<=5:=aD;have R:l.length=2^N:=by
   have e2:(N:Int).toNat=N:=aD;rw[e2]at I
   exact_mod_cast I
  have Z:DD N l=N:=by unfold DD;rw[K];rfl
  have Y:CE N l=qT l:=by unfold CE;rw[K];rfl
  have D:eY (uW l) (2^N)=qT l:=by unfold qT;rw[R]
  have a6:aY N (eY (uW l) (2^N))=true:=by rw[D];exact aoU N l K
  have a8:∀W,aK W (aA a l.length c) l->W.cell? ⟨w.heap.size,0,none⟩=some (aG N)->W.cell? ⟨w.heap.size,1,none⟩=some (aA a l.length c)->Calls prog 337 #[N,.func (.func 339) #[] #[.pointer (some ⟨w,0,none⟩)]] W fun e w'=>
    ∃ad i S,e=.returned (.tuple #[.agg #[N,aA ad i S],.bool true])/\aM 3 W w' (aA ad i S) (qT l)/\Below W W w':=fun W hW c0 c1=>by
   have:=MK W N a1 339 KH w.heap.size (uW l) (fun s hs=>by rw[JX l s aD];have:=a7 (l.length-1-s) aD;exact⟨by omega,by omega⟩)
    (fun s W' hs hB=>adW N a1 l _ w.heap.size s W' (hW.keep hB) R hs (keep hB c0) (keep hB c1))
   rw[a6,if_pos rfl,if_pos rfl,D]at this;exact this
  have HN:=aH Z;have HL:=aH Y;have HF:=aH K;have c6:=aH a8;clear Z Y K D a6 a8 R I a7;go_wp2_with fail;refine(c6.out _ c9 (G1 0) (G1 1)).mono ?_;rintro e w3 ⟨p3,i3,q3,rfl,o3,O⟩;have F:=F.keep O;have B3:=B1.after O B1.size;have G2:=F.cell;have F2:=F.frozen;have z3:=F.lt;clear G1 O;go_wp2;refine bN ?_;intro Wf z;have M:aP Wf (w.heap.size+1) 27 #[N,aA p3 i3 q3]:=by rw[z];have:=(F.set 0 (aG N)).set 1 (aA p3 i3 q3);simpa using this
  have Bf:Below w w Wf:=by rw[z];exact Below.setCell (Below.setCell B3 (by first|omega|(simp;done)|(simp;omega)) _) (by first|omega|(simp;done)|(simp;omega)) _
  have of:aM 3 w Wf (aA p3 i3 q3) (qT l):=by rw[z];exact((o3.setBelow (by first|omega|(simp;done)|(simp;omega)) _).setBelow (by first|omega|(simp;done)|(simp;omega)) _).mono (by first|omega|(simp;done)|(simp;omega))
  have Gf:=M.cell;clear z G2 F2;exact bodyPost_ret (v:=.tuple #[.agg #[N,aA p3 i3 q3],.bool true]) (by simp[results,results267,go_sem,Gf]) rfl ⟨p3,i3,q3,by rw[HN.out,HF.out],by rw[HL.out];exact of,Bf⟩
theorem acY(n F:Int)(v J:Value)(l D:List Int)(w:World)(I:aK w v l)(z:aK w J D):
  Calls prog 268 #[.agg #[n,v],.agg #[F,J]] w fun e w'=>e=.returned (.bool (n==F&&decide (l=D)))/\Below w w w':=by
 obtain⟨a,c,rfl⟩:=I.shape;obtain⟨K,M,rfl⟩:=z.shape
 cases h:(n==F) with
 |false=>go_enter func268,ntmps268;go_wp2;go_ret;exact⟨rfl,wI _ _ _⟩
 |true=>go_enter func268,ntmps268;go_wp2_with (go_at_call 340;refine(O4 _ _ l D _ ((I.alloc _).alloc _) ((z.alloc _).alloc _)).mono ?_;rintro e O ⟨rfl,N,rfl⟩);go_ret;exact⟨rfl,(wI _ _ _).drewN' _⟩
theorem agZ{p:Prop}(h:p:=by
  have J:sW n l=false:=by unfold sW;rw[I];rfl
  have HX:=aH J;clear J I;go_wp2;go_ret;exact⟨by rw[HX.out];rfl,(by repeat(first|exact Below.refl _ _|(with_reducible refine Below.setCell ?_ (by first|omega|(simp;done)|(simp;omega)) _)|(with_reducible refine Below.alloc ?_ (by first|omega|(simp;done)|(simp;omega)) _)|(with_reducible refine Below.drewN' ?_ _)|(with_reducible refine Below.drew ?_)|(with_reducible assumption)|refine Below.trans ?_ (Below.mono (by assumption) (by first|omega|(simp;done)|(simp;omega)))))⟩):p:=h
theorem YS(n:Int)(l:List Int)(v:Value)(w:World)(M:aK w v l)(hl:l.length<=1048576):
  Calls prog 188 #[.agg #[n,v]] w fun e w'=>e=.returned (.bool (sW n l))/\Below w w w':=by
 obtain⟨a,c,rfl⟩:=M.shape;have K0:=aP.new w 27 #[n,aA a l.length c];go_enter func188,ntmps188;go_wp2_with fail;refine(aq0 _ n _ l (M.alloc _) hl).mono ?_;rintro e w1 ⟨p1,i1,q1,rfl,Z,F⟩;have R:=K0.keep F;have D:Below w w w1:=(bF _ _).after F (by simp);have y1:=D.size;have z1:=R.lt
 cases I:aY n l with
 |false=>exact agZ
 |true=>
  have J:sW n l=decide (l=qT l):=by unfold sW;rw[I];rfl
  have Y:DD n l=n:=by unfold DD;rw[I];rfl
  have S:CE n l=qT l:=by unfold CE;rw[I];rfl
  rw[S]at Z;have z:=fun W (h1:aK W (aA a l.length c) l) (h2:aK W (aA p1 i1 q1) (qT l))=>acY n n _ _ l (qT l) W h1 h2;simp only[beq_self_eq_true,Bool.true_and,<-J]at z;have K:=aH z;have ca:∀i,(w1.alloc (.cells #[n,aA p1 i1 q1] 27)).cell? ⟨w.heap.size,i,none⟩=(#[aG n,aA a l.length c]:Array Value)[i]?:=(R.alloc _).cell;rw[Y];have O:=M.below D aI;clear J Y S z I;have G1:=R.cell;go_wp2_with (go_at_call 268;refine(K.out _ (O.alloc _) (Z.alloc _).ints).mono ?_;rintro e w2 ⟨rfl,a8⟩);go_ret;exact⟨rfl,(D.alloc D.size _).after a8 (D.alloc D.size _).size⟩
theorem NB(n:Int)(l:List Int)(v:Value)(w:World)(N:aK w v l)(hl:l.length<=1048576):
  Calls prog 275 #[.agg #[n,v]] w fun e w'=>e=.returned (.bool (gK n l))/\Below w w w':=by
 obtain⟨a,c,rfl⟩:=N.shape;have S:=aP.new w 27 #[n,aA a l.length c];go_enter func275,ntmps275;go_wp2_with fail;refine(pX n l _ _ (N.alloc _) hl).mono ?_;rintro e w1 ⟨rfl,D⟩;have Y:=S.keep D;have J:Below w w w1:=(bF _ _).after D (by simp);clear D S
 cases K:fO n l with
 |false=>
  have z:gK n l=false:=by unfold gK;rw[K];rfl
  have I:=aH z;clear z K;go_wp2;go_ret;exact⟨by rw[I.out];rfl,J⟩
 |true=>
  have R:=aH K;clear K;have Z:=Y.cell;go_wp2_with fail;refine(YS n l _ _ (N.below J aI) hl).mono ?_;rintro e w2 ⟨rfl,F⟩;have K2:=Y.keep F;have O:=J.after F J.size;clear F Z
  cases M:sW n l with
  |false=>
   have z:gK n l=false:=by unfold gK;rw[R.out,M];rfl
   have I:=aH z;clear z M;go_wp2;go_ret;exact⟨by rw[I.out];rfl,O⟩
  |true=>
   have z:gK n l=decide (2<=n):=by unfold gK;rw[R.out,M];rfl
   have I:=aH z;clear z M;have G2:=K2.cell;go_wp2;go_ret;exact⟨by rw[I.out];rfl,O⟩
theorem P0{n:Int}{l:List Int}(h:gK n l=true):aY n l=true/\2<=n:=by
 unfold gK fO at h;simp only[Bool.and_eq_true,decide_eq_true_eq]at h;exact⟨h.1.1.1,h.2⟩
theorem VU{n:Int}{l:List Int}(h:gK n l=true):4<=l.length/\l.length<=32/\(l.length:Int)=2^n.toNat/\n<=5/\∀k,(hk:k<l.length)->-1000<=l[k]/\l[k]<=1000:=by
 obtain⟨h1,h2⟩:=P0 h;obtain⟨N,I,z,F⟩:=kP h1;obtain⟨m,hm⟩:∃m:Nat,n.toNat=m:=⟨_,rfl⟩;have D:2<=m/\m<=5:=aD;have K:(2:Nat)^2<=2^m:=Nat.pow_le_pow_right aQ D.1;have M:(2:Nat)^m<=2^5:=Nat.pow_le_pow_right aQ D.2;have J:l.length=2^m:=by rw[hm]at z;exact_mod_cast z
 exact⟨by omega,by omega,z,I,F⟩
theorem ag2{p:Prop}(h:p:=by
  by_cases e8:x<y
  ·have b6:=aH (b7.out.trans (if_pos e8));go_wp2_with fail;go_quiet (fail);go_wp2;go_roundw
   case rel=>exact⟨k+1,by omega,by omega,by go_num,by rw[b6.out],B3.drewN' _,K3.drewN _⟩
   case measure=>simp[intOf];omega
  ·have b6:=aH (b7.out.trans (if_neg e8));go_wp2_with fail;go_quiet (fail);go_wp2;go_roundw
   case rel=>exact⟨k+1,by omega,by omega,by go_num,by rw[b6.out],B3.drewN' _,K3.drewN _⟩
   case measure=>simp[intOf];omega):p:=h
theorem SK(w:World)(n:Int)(v:Value)(l:List Int)(hv:aK w v l)(hl:l.length<=1048576):
  Calls prog 200 #[.agg #[n,v]] w fun e w'=>e=.returned (.tuple #[(lO n l),(nZ n l),.bool (gK n l)])/\Below w w w':=by
 have N:=hv;obtain⟨a,b,f9,c,rfl,e0,Z,hc,hb⟩:=hv.view prog 25 3 underlying25 aN;have K0:=aP.new w 27 #[n,aA a l.length c]
 cases I:gK n l with
 |false=>
  have S:lO n l=0:=by unfold lO;rw[I];rfl
  have Y:nZ n l=0:=by unfold nZ;rw[I];rfl
  have H:=aH (And.intro S Y);have HF:=aH I;clear S Y I hc;go_enter func200,ntmps200;go_wp2_with (go_at_call 275;refine(NB n l _ _ (N.alloc _) hl).mono ?_;rintro e w1 ⟨rfl,z⟩;rw[HF.out]);go_ret3;exact⟨by rw[H.out.1,H.out.2];rfl,(bF _ _).after z (by simp)⟩
 |true=>
  obtain⟨h4,f6,M,f7,a7⟩:=VU I;have e5:0<=n:=by have:=(P0 I).2;omega
  have S:lO n l=l.getD (jM l (l.length-1)) 0:=by unfold lO;rw[I];rfl
  have Y:nZ n l=(jM l (l.length-1):Int):=by unfold nZ;rw[I];rfl
  have H:=aH (And.intro S Y);have HF:=aH I;have f3:=aH a7;have HC:=aH hc;have O:=aH Z;have R:=aH M;have c7:=aH (fun(W:World) (hW:aK W (aA a l.length c) l)=>sF n (aA a l.length c) l W hW e5 aD);clear S Y I a7 hc Z M;go_enter func200,ntmps200;go_wp2_with fail;refine(NB n l _ _ (N.alloc _) hl).mono ?_;rintro e w1 ⟨rfl,z⟩;rw[HF.out];have K1:=K0.keep z;have B1:Below w w w1:=(bF _ _).after z (by simp);clear K0 z;go_wp2_with fail;go_loopw [5,6] (fun b8 i wr=>∃k:Nat,2<=k/\k<=l.length-1/\i=aG k/\b8=aG (jM l k:Int)/\Below w w wr/\aP wr w 27 #[n,aA a l.length c]) (fun _ i _=>l.length-(intOf i).toNat)
  case atStart=>exact⟨2,by omega,by omega,rfl,rfl,B1,K1⟩
  case round=>
   obtain⟨k,a1,hk,rfl,rfl,B,K⟩:=hrel;have G1:=K.cell;have b9:=RI l k a1;obtain⟨p,hp⟩:=aJ (jM l k);rw[<-hp]at b9 ⊢;have cp:=HC.out p aD;have J:=aR HC.out hb B aI p aD;have ip:=fun W=>O.out W p aD;by_cases hlt:k<l.length-1
   ·have D:=CK l k a1;rw[<-hp,aS l k aD,aS l p aD]at D;have ck:=aR HC.out hb B aI k aD;have ik:=fun W=>O.out W k aD;obtain⟨x,hx⟩:=aJ (l[k]);obtain⟨y,hy⟩:=aJ (l[p]);rw[<-hx]at ck D;rw[<-hy]at J D;have a8:(k:Int)<2^n.toNat-1:=by rw[<-R.out];omega
    have b7:=aH D;clear D hp hx hy cp;go_wp2_with fail;refine(c7.out _ (N.below B aI)).mono ?_;rintro e w3 ⟨rfl,F⟩;have B3:=B.after F B.size;have K3:=K.keep F;have ck:=keep F ck;have J:=keep F J;clear G1 F;have G3:=K3.cell;exact ag2
   ·have a6:k=l.length-1:=aD;have a8:¬(k:Int)<2^n.toNat-1:=by rw[<-R.out];omega
    have hg:l.getD p 0=l[p]:=aS l p aD;obtain⟨y,hy⟩:=aJ (l[p]);rw[<-hy]at J hg;have HP:=aH hp;have HG:=aH hg;have b5:=aH a6;clear hp hg a6 hy cp;go_wp2_with fail;refine(c7.out _ (N.below B aI)).mono ?_;rintro e w3 ⟨rfl,F⟩;have B3:=B.after F B.size;have K3:=K.keep F;have J:=keep F J;clear G1 F;have G3:=K3.cell;go_wp2;go_ret3;exact⟨by rw[H.out.1,H.out.2,<-b5.out,<-HP.out,HG.out];rfl,B3⟩
theorem aq1(w:World)(n:Int)(v:Value)(l:List Int)(hv:aK w v l)(_:l.length<=1048576):
  Calls prog 97 #[.agg #[n,v]] w fun e w'=>∃ad i F,e=.returned (.tuple #[.agg #[(DD n l),aA ad i F],.bool (aY n l)])/\aM 3 w w' (aA ad i F) (CE n l)/\Below w w w':=by
 obtain⟨a,b,g9,c,rfl,e5,c8,hc,hb⟩:=hv.view prog 25 3 underlying25 aN;go_enter func97,ntmps97;go_wp2_with fail;refine bU ?_;intro V hV;have B:Below w w V:=gO hV;have Z:aP V w 27 #[n,aA a l.length c]:=gR hV;have D:aP V (w.heap.size+1) 27 #[aB,()]:=iP hV;clear hV;refine(dH n l _ _ (hv.below B aI)).mono ?_;rintro e w1 ⟨rfl,J⟩;have Z:=Z.keep J;have D:=D.keep J;have Y:=B.after J B.size;have g0:=hv.below Y aI;clear B J;have G1:=Z.cell;have z1:=Z.lt;have z2:=D.lt
 cases K:aY n l with
 |false=>
  have hN:DD n l=0:=by unfold DD;rw[K];rfl
  have hL:CE n l=[]:=by unfold CE;rw[K];rfl
  have HN:=aH hN;have HL:=aH hL;have HF:=aH K;have G2:=D.cell;have F2:=D.frozen;clear hN hL;go_wp2;refine bN ?_;intro Wf z;have O:aP Wf (w.heap.size+1) 27 #[aB,()]:=by rw[z];have:=(D.set 0 (aG 0)).set 1 (aA none 0 0);simpa using this
  have Bf:Below w w Wf:=by rw[z];exact Below.setCell (Below.setCell Y (by first|omega|(simp;done)|(simp;omega)) _) (by first|omega|(simp;done)|(simp;omega)) _
  have Gf:=O.cell;clear z G1 G2 F2;exact bodyPost_ret (v:=.tuple #[.agg #[aB,()],.bool false]) (by simp[results,results97,go_sem,Gf]) rfl ⟨none,0,0,by rw[HN.out,HF.out],by rw[HL.out];exact aM.nil _ _ _,Bf⟩
 |true=>
  obtain⟨h0,h5,R,a7⟩:=kP K;have e4:l.length<=32:=by have hp:=(lG h0 h5).1;omega
  have hN:DD n l=n:=by unfold DD;rw[K];rfl
  have hL:CE n l=eY (uW l) l.length:=by unfold CE;rw[K];rfl
  have HN:=aH hN;have HL:=aH hL;have HF:=aH K;have b8:=aH a7;have o0:=aM.lit0 (E:=3) (B:=w1.heap.size) w1 aI;clear hN hL K R a7;go_wp2_with fail;go_loopw [4,5] (fun out i wr=>∃(k:Nat) (ad:Option Addr) (N F:Nat),k<=l.length/\out=aA ad N F/\i=aG k/\aM 3 w1 wr (aA ad N F) (eY (uW l) k)/\Below w1 w1 wr)
   (fun _ i _=>l.length-(intOf i).toNat)
  case atStart=>exact⟨0,_,_,_,Nat.zero_le _,rfl,rfl,o0,bF _ _⟩
  case round=>
   obtain⟨k,ad,N,F,hk,rfl,rfl,ho,B⟩:=hrel;have HO:=aH ho;have Kr:=Z.keep B;clear ho o0 G1;have G1:=Kr.cell;have yB:=B.size;by_cases hlt:k<l.length
   ·have S:=EV (uW l) k;have a8:=JX l k hlt;have ck:=aR hc hb (Y.after B Y.size) aI (l.length-1-k) aD;have ik:=fun W=>c8 W (l.length-1-k) aD;have I:=b8.out (l.length-1-k) aD;have g2:IntKind.i64.wrap ((l.length:Int)-1)=(l.length:Int)-1:=by rw[IntKind.wrap_i64];omega
    have g5:IntKind.i64.wrap ((l.length:Int)-1-k)=((l.length-1-k:Nat):Int):=by rw[IntKind.wrap_i64];omega
    rw[<-a8]at ck I;obtain⟨x,hx⟩:=aJ (uW l k);rw[<-hx]at ck I S;have f7:(eY (uW l) k).length<=32:=by unfold eY;simp;omega
    have b9:=aH S;have g6:=I.1;have g7:=I.2;clear S a8 hx I;go_wp2_with (at_builtin;refine fN rfl _ _ _ rfl 3 underlying25 aN w1.heap.size _ _ x wr.heap.size rfl rfl (aZ wr #[x] 3 0 _ rfl) (HO.out.alloc _) ⟨by omega,by omega⟩ aD aT ?_;intro v' w6 M c7 f8;obtain⟨av,nv,cv,rfl⟩:=M.shape3);have B6:Below w1 w1 w6:=(B.alloc B.size (.cells #[x] 3)).grown c7 aT (fun q hq=>(HO.out.lt q hq).1);go_roundw
    case rel=>exact⟨k+1,av,nv,cv,by omega,rfl,by go_num,by rw[b9.out];exact M,B6⟩
    case measure=>simp[intOf];omega
   ·have c9:k=l.length:=aD;subst c9;have D:=D.keep B;have B7:=Y.after B Y.size;have G2:=D.cell;have F2:=D.frozen;have h7:=D.lt;go_wp2;refine bN ?_;intro Wf z;have O:aP Wf (w.heap.size+1) 27 #[n,aA ad N F]:=by rw[z];have:=(D.set 0 (aG n)).set 1 (aA ad N F);simpa using this
    have Bf:Below w w Wf:=by rw[z];exact Below.setCell (Below.setCell B7 (by first|omega|(simp;done)|(simp;omega)) _) (by first|omega|(simp;done)|(simp;omega)) _
    have of:aM 3 w Wf (aA ad N F) (eY (uW l) l.length):=by rw[z];exact((HO.out.setBelow (by first|omega|(simp;done)|(simp;omega)) _).setBelow (by first|omega|(simp;done)|(simp;omega)) _).mono (by first|omega|(simp;done)|(simp;omega))
    have Gf:=O.cell;clear z G1 G2 F2;exact bodyPost_ret (v:=.tuple #[.agg #[n,aA ad N F],.bool true]) (by simp[results,results97,go_sem,Gf]) rfl ⟨ad,N,F,by rw[HN.out,HF.out],by rw[HL.out];exact of,Bf⟩
theorem YT(n:Int)(l:List Int)(v:Value)(w:World)(M:aK w v l)(hl:l.length<=1048576):
  Calls prog 46 #[.agg #[n,v]] w fun e w'=>e=.returned (.bool (sW n l))/\Below w w w':=by
 obtain⟨a,c,rfl⟩:=M.shape;have K0:=aP.new w 27 #[n,aA a l.length c];go_enter func46,ntmps46;go_wp2_with fail;refine(aq1 _ n _ l (M.alloc _) hl).mono ?_;rintro e w1 ⟨p1,i1,q1,rfl,Z,F⟩;have R:=K0.keep F;have D:Below w w w1:=(bF _ _).after F (by simp);have y1:=D.size;have z1:=R.lt
 cases I:aY n l with
 |false=>exact agZ
 |true=>
  have J:sW n l=decide (l=qT l):=by unfold sW;rw[I];rfl
  have S:CE n l=qT l:=by unfold CE;rw[I];rfl
  rw[S]at Z;have z:=fun W (h1:aK W (aA a l.length c) l) (h2:aK W (aA p1 i1 q1) (qT l))=>adH _ _ l (qT l) W h1 h2;simp only[<-J]at z;have K:=aH z;obtain⟨N,Y⟩:=aJ (DD n l);rw[<-Y];have O:=M.below D aI;clear J Y S z I;have G1:=R.cell;go_wp2_with (go_at_call 98;refine(K.out _ (O.alloc _) (Z.alloc _).ints).mono ?_;rintro e w2 ⟨rfl,nn,rfl⟩);go_ret;exact⟨rfl,(D.alloc D.size _).drewN' _⟩
theorem OB(n:Int)(l:List Int)(v:Value)(w:World)(N:aK w v l)(hl:l.length<=1048576):
  Calls prog 99 #[.agg #[n,v]] w fun e w'=>e=.returned (.bool (gK n l))/\Below w w w':=by
 obtain⟨a,c,rfl⟩:=N.shape;have K:=aP.new w 27 #[n,aA a l.length c];have S:=K.cell;by_cases O:2<=n
 ·go_enter func99,ntmps99;go_wp2_with fail;refine(pY n l _ _ (N.alloc _) hl).mono ?_;rintro e w1 ⟨rfl,D⟩;have Y:=K.keep D;have I:Below w w w1:=(bF _ _).after D (by simp);clear D K S
  cases J:fO n l with
  |false=>
   have z:gK n l=false:=by unfold gK;rw[J];rfl
   have F:=aH z;clear z J;go_wp2;go_ret;exact⟨by rw[F.out];rfl,I⟩
  |true=>
   have z:gK n l=sW n l:=by unfold gK;rw[J,decide_eq_true O];simp
   have F:=aH z;clear J z;have Z:=Y.cell;go_wp2_with fail;refine(YT n l _ _ (N.below I aI) hl).mono ?_;rintro e w2 ⟨rfl,M⟩;have R:=I.after M I.size;go_wp2;go_ret;exact⟨by rw[F.out];rfl,R⟩
 ·have z:gK n l=false:=by unfold gK;rw[decide_eq_false O];simp
  have F:=aH z;clear z;go_enter func99,ntmps99;go_wp2;go_ret;exact⟨by rw[F.out];rfl,bF _ _⟩
theorem aiM(w:World)(n:Int)(v:Value)(l:List Int)(hv:aK w v l)(hl:l.length<=1048576):
  Calls prog 52 #[.agg #[n,v]] w fun e w'=>e=.returned (.tuple #[(lO n l),(nZ n l),.bool (gK n l)])/\Below w w w':=by
 have N:=hv;obtain⟨a,b,f9,c,rfl,e0,Z,hc,hb⟩:=hv.view prog 25 3 underlying25 aN;have K0:=aP.new w 27 #[n,aA a l.length c]
 cases I:gK n l with
 |false=>
  have S:lO n l=0:=by unfold lO;rw[I];rfl
  have Y:nZ n l=0:=by unfold nZ;rw[I];rfl
  have H:=aH (And.intro S Y);have HF:=aH I;clear S Y I hc;go_enter func52,ntmps52;go_wp2_with (go_at_call 99;refine(OB n l _ _ (N.alloc _) hl).mono ?_;rintro e w1 ⟨rfl,z⟩;rw[HF.out]);go_ret3;exact⟨by rw[H.out.1,H.out.2];rfl,(bF _ _).after z (by simp)⟩
 |true=>
  obtain⟨h4,f6,M,f7,a7⟩:=VU I;have e5:0<=n:=by have:=(P0 I).2;omega
  have S:lO n l=l.getD (jM l (l.length-1)) 0:=by unfold lO;rw[I];rfl
  have Y:nZ n l=(jM l (l.length-1):Int):=by unfold nZ;rw[I];rfl
  have H:=aH (And.intro S Y);have HF:=aH I;have f3:=aH a7;have HC:=aH hc;have O:=aH Z;have R:=aH M;clear S Y I a7 hc Z M;go_enter func52,ntmps52;go_wp2_with fail;refine(OB n l _ _ (N.alloc _) hl).mono ?_;rintro e w1 ⟨rfl,z⟩;rw[HF.out];have K1:=K0.keep z;have B1:Below w w w1:=(bF _ _).after z (by simp);clear K0 z;go_wp2_with fail;go_loopw [5,6] (fun b8 i wr=>∃k:Nat,2<=k/\k<=l.length-1/\i=aG k/\b8=aG (jM l k:Int)/\Below w w wr/\aP wr w 27 #[n,aA a l.length c]) (fun _ i _=>l.length-(intOf i).toNat)
  case atStart=>exact⟨2,by omega,by omega,rfl,rfl,B1,K1⟩
  case round=>
   obtain⟨k,a1,hk,rfl,rfl,B,K⟩:=hrel;have G1:=K.cell;have b9:=RI l k a1;obtain⟨p,hp⟩:=aJ (jM l k);rw[<-hp]at b9 ⊢;have cp:=HC.out p aD;have J:=aR HC.out hb B aI p aD;have ip:=fun W=>O.out W p aD;by_cases hlt:k<l.length-1
   ·have D:=CK l k a1;rw[<-hp,aS l k aD,aS l p aD]at D;have ck:=aR HC.out hb B aI k aD;have ik:=fun W=>O.out W k aD;obtain⟨x,hx⟩:=aJ (l[k]);obtain⟨y,hy⟩:=aJ (l[p]);rw[<-hx]at ck D;rw[<-hy]at J D;have a8:(k:Int)<2^n.toNat-1:=by rw[<-R.out];omega
    have b7:=aH D;clear D hp hx hy cp;have f8:IntKind.i64.wrap ((l.length:Int)-1)=(l.length:Int)-1:=by rw[IntKind.wrap_i64];omega
    have e4:(k:Int)<(l.length:Int)-1:=aD;have B3:=B;have K3:=K;exact ag2
   ·have a6:k=l.length-1:=aD;have a8:¬(k:Int)<2^n.toNat-1:=by rw[<-R.out];omega
    have hg:l.getD p 0=l[p]:=aS l p aD;obtain⟨y,hy⟩:=aJ (l[p]);rw[<-hy]at J hg;have HP:=aH hp;have HG:=aH hg;have b5:=aH a6;clear hp hg a6 hy cp;have f8:IntKind.i64.wrap ((l.length:Int)-1)=(l.length:Int)-1:=by rw[IntKind.wrap_i64];omega
    have e4:¬(k:Int)<(l.length:Int)-1:=aD;have B3:=B;go_wp2;go_ret3;exact⟨by rw[H.out.1,H.out.2,<-b5.out,<-HP.out,HG.out];rfl,B3⟩
theorem J9(w:World)(n:Nat)(hn:n<=5)(c:FuncId)(he:∀args w,(callFunc c args).run prog w=.ok (.enter c args) w)(g g':Nat)(F:Nat->Int)(hF:∀s,s<2^n->dL (F s))
  (hw:∀(s:Nat) W',s<2^n->Below w w W'->Calls prog c #[(s:Int),.pointer (some ⟨g,0,none⟩),.pointer (some ⟨g',0,none⟩)] W' fun e J=>e=.returned (F s)/\Below W' W' J):
  Calls prog 337 #[(n:Int),.func (.func c) #[] #[.pointer (some ⟨g,0,none⟩),.pointer (some ⟨g',0,none⟩)]] w fun e w'=>
   ∃ad i D,e=.returned (.tuple #[.agg #[aG (if aY n (eY F (2^n)) then (n:Int) else 0),aA ad i D],.bool (aY n (eY F (2^n)))])/\aM 3 w w' (aA ad i D) (if aY n (eY F (2^n)) then eY F (2^n) else [])/\Below w w w':=by
 exact am5
def AR(l:List Int)(s:Nat):Int:=-(l.getD s 0)
def mW(l:List Int):List Int:=eY (AR l) l.length
def CD(n:Int)(l:List Int):Int:=if aY n l then n else 0
def CC(n:Int)(l:List Int):List Int:=if aY n l then mW l else []
theorem AS(l:List Int):(mW l).length=l.length:=by unfold mW eY;simp
theorem JW(l:List Int)(s:Nat)(h:s<l.length):AR l s=-l[s]:=by unfold AR;rw[aS l _ h]
theorem aoT(l:List Int)(s:Nat)(h:s<l.length):(mW l)[s]'(by rw[AS];exact h)=-l[s]:=by
 unfold mW eY;rw[List.getElem_map,List.getElem_range];exact JW l s h
theorem abJ(n:Int)(l:List Int)(h:aY n l=true):aY n (mW l)=true:=by
 obtain⟨I,J,z,D⟩:=kP h;unfold aY kA;rw[AS,cR.2 ⟨I,J⟩,decide_eq_true z];simp only[Bool.true_and,List.all_eq_true];intro x K;obtain⟨s,F,rfl⟩:=List.getElem_of_mem K;rw[AS]at F;rw[aoT l s F];have:=D s F;exact cR.2 ⟨by omega,by omega⟩
theorem adT(l:List Int)(v:Value)(g h s:Nat)(W:World)(hv:aK W v l)(I:s<l.length)(F:∀k,(hk:k<l.length)->-1000<=l[k]/\l[k]<=1000)
  (Z:W.cell? ⟨h,0,none⟩=some (aG (-1))) (c1:W.cell? ⟨g,1,none⟩=some v):
  Calls prog 338 #[s,.pointer (some ⟨h,0,none⟩),.pointer (some ⟨g,0,none⟩)] W fun e w'=>e=.returned (AR l s)/\Below W W w':=by
 obtain⟨a,b,N,c,rfl,R,D,hc,hb⟩:=hv.view prog 25 3 underlying25 aN;have M:=JW l s I;have z:=hc s I;have O:=fun W=>D W s I;have K:=F s I;obtain⟨x,S⟩:=aJ (l[s]);rw[<-S]at M z K;have e0:∀y:Ext W,y.w.cell? ⟨h,0,none⟩=some (aG (-1)):=fun y=>y.cell Z;have e1:∀x:Ext W,x.w.cell? ⟨g,1,none⟩=some (aA a l.length c):=fun x=>x.cell c1;have e2:∀y:Ext W,y.w.cell? ⟨b,N+s,none⟩=some (aG x):=fun y=>y.cell z;have Y:=aH M;clear hc D hb M z S F;go_enter func338,ntmps338;go_wp2_with fail;refine bH _ aO aO ?_
 repeat(first|go_big_quiet_skip|(go_big_quiet_want;go_big_quiet_op;first|go_big_quiet_on|(apply Exists.intro;refine⟨fun _=>?_,?_⟩;(fail);go_big_quiet_on)))
 refine wpQuiet_nil ?_;rintro w3 ⟨⟨w3,J⟩,rfl⟩
 try dsimp only
 go_wp2;go_ret;exact⟨fL (by rw[Y.out]),J⟩
theorem KG:∀args w,(callFunc 338 args).run prog w=.ok (.enter 338 args) w:=enters_of func338 aO rfl
theorem aqV(w:World)(n:Int)(v:Value)(l:List Int)(hv:aK w v l)(_:l.length<=1048576):
  Calls prog 265 #[.agg #[n,v],aG (-1)] w fun e w'=>∃ad i cp,e=.returned (.tuple #[.agg #[(CD n l),aA ad i cp],.bool (aY n l)])/\aM 3 w w' (aA ad i cp) (CC n l)/\Below w w w':=by
 obtain⟨a,c,rfl⟩:=hv.shape;have e8:∀(fn:Fn) (first cap:Array Value) (w:World),(Instr.makeFunc fn first cap).run prog w=.ok (.func fn first cap) w:=fun _ _ _ _=>rfl;have Z:=aH (fun W=>gH (-1) (-1000) 1000 W);rw[show dV (-1) (-1000) 1000=true by decide]at Z;go_enter func265,ntmps265;go_wp2_with fail;refine bU ?_;intro V hV;have B:Below w w V:=by rw[hV];exact bl3 _ _ _ _
 have K1:aP V w 27 #[n,aA a l.length c]:=by rw[hV];exact((aP.new _ _ _).alloc _).alloc _
 have O:aP V (w.heap.size+1) 3 #[aG (-1)]:=by rw[hV];have:=(aP.new (w.alloc (.cells #[n,aA a l.length c] 27)) 3 #[aG (-1)]).alloc (.cells #[aB,()] 27);simpa using this
 have F:aP V (w.heap.size+1+1) 27 #[aB,()]:=by rw[hV];have:=aP.new ((w.alloc (.cells #[n,aA a l.length c] 27)).alloc (.cells #[aG (-1)] 3)) 27 #[aB,()];simpa using this
 clear hV;refine(dM n l _ _ (hv.below B aI)).mono ?_;rintro e w1 ⟨rfl,I⟩;have K1:=K1.keep I;have O:=O.keep I;have M:=O.cell;have F:=F.keep I;have B1:=B.after I B.size;have e4:=hv.below B1 aI;clear B I;have G1:=K1.cell;have z1:=K1.lt;have z2:=F.lt
 cases K:aY n l with
 |false=>
  have hN:CD n l=0:=by unfold CD;rw[K];rfl
  have hL:CC n l=[]:=by unfold CC;rw[K];rfl
  have HN:=aH hN;have HL:=aH hL;have HF:=aH K;have G2:=F.cell;have F2:=F.frozen;clear hN hL;go_wp2;refine bN ?_;intro Wf z;have R:aP Wf (w.heap.size+1+1) 27 #[aB,()]:=by rw[z];have:=(F.set 0 (aG 0)).set 1 (aA none 0 0);simpa using this
  have Bf:Below w w Wf:=by rw[z];exact Below.setCell (Below.setCell B1 (by first|omega|(simp;done)|(simp;omega)) _) (by first|omega|(simp;done)|(simp;omega)) _
  have Gf:=R.cell;clear z G1 M G2 F2;exact bodyPost_ret (v:=.tuple #[.agg #[aB,()],.bool false]) (by simp[results,results265,go_sem,Gf]) rfl ⟨none,0,0,by rw[HN.out,HF.out],by rw[HL.out];exact aM.nil _ _ _,Bf⟩
 |true=>
  obtain⟨h0,h5,J,Y⟩:=kP K;obtain⟨N,rfl⟩:=Int.eq_ofNat_of_zero_le h0;have d0:N<=5:=aD;have b0:l.length=2^N:=by
   have e2:(N:Int).toNat=N:=aD;rw[e2]at J
   exact_mod_cast J
  have hN:CD N l=N:=by unfold CD;rw[K];rfl
  have hL:CC N l=mW l:=by unfold CC;rw[K];rfl
  have D:eY (AR l) (2^N)=mW l:=by unfold mW;rw[b0]
  have a9:aY N (eY (AR l) (2^N))=true:=by rw[D];exact abJ N l K
  have b1:∀W,aK W (aA a l.length c) l->W.cell? ⟨w.heap.size+1,0,none⟩=some (aG (-1))->W.cell? ⟨w.heap.size,1,none⟩=some (aA a l.length c)->Calls prog 337 #[N,.func (.func 338) #[] #[.pointer (some ⟨w.heap.size+1,0,none⟩),.pointer (some ⟨w,0,none⟩)]] W fun e w'=>
    ∃ad i cp,e=.returned (.tuple #[.agg #[N,aA ad i cp],.bool true])/\aM 3 W w' (aA ad i cp) (mW l)/\Below W W w':=fun W hW c0 c1=>by
   have:=J9 W N d0 338 KG (w.heap.size+1) w.heap.size (AR l) (fun s hs=>by rw[JW l s aD];have:=Y s aD;exact⟨by omega,by omega⟩)
    (fun s W' hs hB=>adT l _ w.heap.size (w.heap.size+1) s W' (hW.keep hB) aD Y (keep hB c0) (keep hB c1))
   rw[a9,if_pos rfl,if_pos rfl,D]at this;exact this
  have HN:=aH hN;have HL:=aH hL;have HF:=aH K;have c8:=aH b1;clear hN hL K D a9 b1 b0 J Y;go_wp2_with fail;refine(Z.out _).mono ?_;rintro e w2 ⟨rfl,rfl⟩;go_wp2_with fail;refine(c8.out _ e4 (M 0) (G1 1)).mono ?_;rintro e w3 ⟨p3,i3,q3,rfl,o3,S⟩;have F:=F.keep S;have B3:=B1.after S B1.size;have G2:=F.cell;have F2:=F.frozen;have z3:=F.lt;clear G1 M S;go_wp2;refine bN ?_;intro Wf z;have R:aP Wf (w.heap.size+1+1) 27 #[N,aA p3 i3 q3]:=by rw[z];have:=(F.set 0 (aG N)).set 1 (aA p3 i3 q3);simpa using this
  have Bf:Below w w Wf:=by rw[z];exact Below.setCell (Below.setCell B3 (by first|omega|(simp;done)|(simp;omega)) _) (by first|omega|(simp;done)|(simp;omega)) _
  have of:aM 3 w Wf (aA p3 i3 q3) (mW l):=by rw[z];exact((o3.setBelow (by first|omega|(simp;done)|(simp;omega)) _).setBelow (by first|omega|(simp;done)|(simp;omega)) _).mono (by first|omega|(simp;done)|(simp;omega))
  have Gf:=R.cell;clear z G2 F2;exact bodyPost_ret (v:=.tuple #[.agg #[N,aA p3 i3 q3],.bool true]) (by simp[results,results265,go_sem,Gf]) rfl ⟨p3,i3,q3,by rw[HN.out,HF.out],by rw[HL.out];exact of,Bf⟩
theorem aqW(w:World)(n:Int)(v:Value)(l:List Int)(hv:aK w v l)(_:l.length<=1048576):
  Calls prog 96 #[.agg #[n,v],aG (-1)] w fun e w'=>∃ad i F,e=.returned (.tuple #[.agg #[(CD n l),aA ad i F],.bool (aY n l)])/\aM 3 w w' (aA ad i F) (CC n l)/\Below w w w':=by
 obtain⟨a,b,j3,c,rfl,g0,f0,hc,hb⟩:=hv.view prog 25 3 underlying25 aN;have a7:=aH (fun W=>cP (-1) (-1000) 1000 W);rw[show dV (-1) (-1000) 1000=true by decide]at a7;go_enter func96,ntmps96;go_wp2_with fail;refine bU ?_;intro V hV;have B:Below w w V:=by rw[hV];exact bl3 _ _ _ _
 have K1:aP V w 27 #[n,aA a l.length c]:=by rw[hV];exact((aP.new _ _ _).alloc _).alloc _
 have D:aP V (w.heap.size+1) 27 #[aB,()]:=by rw[hV];have:=(aP.new (w.alloc (.cells #[n,aA a l.length c] 27)) 27 #[aB,()]).alloc (.cells #[] 3);simpa using this
 have o0:aM 3 (w.heap.size+1+1) V (aA (some ⟨w.heap.size+1+1,0,none⟩) 0 0) []:=by rw[hV];have:=aM.lit0 (E:=3) (B:=w.heap.size+1+1) ((w.alloc (.cells #[n,aA a l.length c] 27)).alloc (.cells #[aB,()] 27)) (by simp);simpa using this
 clear hV;refine(dH n l _ _ (hv.below B aI)).mono ?_;rintro e w1 ⟨rfl,I⟩;have K1:=K1.keep I;have D:=D.keep I;have o0:=o0.keep I;have B1:=B.after I B.size;have i8:=hv.below B1 aI;clear B I;have G1:=K1.cell;have z1:=K1.lt;have z2:=D.lt
 cases M:aY n l with
 |false=>
  have hN:CD n l=0:=by unfold CD;rw[M];rfl
  have hL:CC n l=[]:=by unfold CC;rw[M];rfl
  have HN:=aH hN;have HL:=aH hL;have HF:=aH M;have G2:=D.cell;have F2:=D.frozen;clear hN hL;go_wp2;refine bN ?_;intro Wf z;have R:aP Wf (w.heap.size+1) 27 #[aB,()]:=by rw[z];have:=(D.set 0 (aG 0)).set 1 (aA none 0 0);simpa using this
  have Bf:Below w w Wf:=by rw[z];exact Below.setCell (Below.setCell B1 (by first|omega|(simp;done)|(simp;omega)) _) (by first|omega|(simp;done)|(simp;omega)) _
  have Gf:=R.cell;clear z G1 G2 F2;exact bodyPost_ret (v:=.tuple #[.agg #[aB,()],.bool false]) (by simp[results,results96,go_sem,Gf]) rfl ⟨none,0,0,by rw[HN.out,HF.out],by rw[HL.out];exact aM.nil _ _ _,Bf⟩
 |true=>
  obtain⟨h0,h5,Z,b1⟩:=kP M;have f9:l.length<=32:=by have hp:=(lG h0 h5).1;omega
  have hN:CD n l=n:=by unfold CD;rw[M];rfl
  have hL:CC n l=eY (AR l) l.length:=by unfold CC;rw[M];rfl
  have b5:=abJ n l M;have HN:=aH hN;have HL:=aH hL;have HF:=aH M;have e8:=aH b5;have e4:=aH b1;clear hN hL M Z b1 b5;go_wp2_with fail;refine(a7.out _).mono ?_;rintro e w2 ⟨rfl,rfl⟩;go_wp2_with fail;go_loopw [6,7] (fun out i wr=>∃(k:Nat) (ad:Option Addr) (J F:Nat),k<=l.length/\out=aA ad J F/\i=aG k/\aM 3 (w.heap.size+1+1) wr (aA ad J F) (eY (AR l) k)/\aP wr w 27 #[n,aA a l.length c]/\aP wr (w.heap.size+1) 27 #[aB,()]/\Below w w wr)
   (fun _ i _=>l.length-(intOf i).toNat)
  case atStart=>exact⟨0,_,_,_,Nat.zero_le _,rfl,rfl,o0,K1,D,B1⟩
  case round=>
   obtain⟨k,ad,J,F,hk,rfl,rfl,ho,Kr,S,B⟩:=hrel;have HO:=aH ho;clear ho o0 G1 K1 D z1 z2;have G1:=Kr.cell;have yB:=B.size;have z2:=S.lt;by_cases hlt:k<l.length
   ·have N:=EV (AR l) k;have b6:=JW l k hlt;have ck:=aR hc hb B aI k hlt;have ik:=fun W=>f0 W k hlt;have K:=e4.out k hlt;rw[b6]at N;obtain⟨x,hx⟩:=aJ (l[k]);rw[<-hx]at ck K N;have i6:(eY (AR l) k).length<=32:=by unfold eY;simp;omega
    have e6:=aH N;have j0:=K.1;have j1:=K.2;clear N b6 hx K;go_wp2_with (at_builtin;refine fN rfl _ _ _ rfl 3 underlying25 aN (w.heap.size+1+1) _ _ (-x) wr.heap.size rfl rfl (aZ wr #[aG (-x)] 3 0 _ rfl) (HO.out.alloc _) ⟨by omega,by omega⟩ aD aT ?_;intro v' w6 O Y i7;obtain⟨av,nv,cv,rfl⟩:=O.shape3);have a1:=HO.out.lt;have B6:Below w w w6:=(B.alloc B.size (.cells #[aG (-x)] 3)).grown Y aT (fun q hq=>by have:=(a1 q hq).1;omega);have K6:=(Kr.alloc (.cells #[aG (-x)] 3)).grow Y (fun e=>by have:=(a1 _ e).1;omega);have K7:=(S.alloc (.cells #[aG (-x)] 3)).grow Y (fun e=>by have:=(a1 _ e).1;omega);go_roundw
    case rel=>exact⟨k+1,av,nv,cv,by omega,rfl,by go_num,by rw[e6.out];exact O,K6,K7,B6⟩
    case measure=>simp[intOf];omega
   ·have f2:k=l.length:=aD;subst f2;have b3:=fun(W:World) (h:aK W (aA ad J F) (mW l))=>adG W n ad J F (mW l) h e8.out;have e5:=aH b3;clear b3;go_wp2_with fail;refine(e5.out wr HO.out.ints).mono ?_;rintro e w4 ⟨rfl,b4⟩;have D:=S.keep b4;have B4:=B.after b4 B.size;have o4:=HO.out.keep b4;have F2:=D.frozen;have G2:=D.cell;have z4:=D.lt;clear G1;go_wp2;refine bN ?_;intro Wf z;have R:aP Wf (w.heap.size+1) 27 #[n,aA ad J F]:=by rw[z];have:=((D.set 0 (aG n)).set 1 (aA ad J F)).alloc (.cells #[n,aA ad J F] 27);simpa using this
    have hg:w4.grownBy Wf (some (w.heap.size+1)):=by rw[z];exact V8 (bQ (bQ (World.grownBy.refl _ _) 0 _) 1 _) (alD _ (bF _ _))
    have Bf:Below w w Wf:=B4.grown hg B4.size jI;have f4:=o4.lt;have of:=(o4.grow hg (fun q hq e=>by have:=Option.some.inj hq;have:=(f4 _ e).1;omega)).mono (B':=w.heap.size) aD;have Gf:=R.cell;clear z G2 F2;exact bodyPost_ret (v:=.tuple #[.agg #[n,aA ad J F],.bool true]) (by simp[results,results96,go_sem,Gf]) rfl ⟨ad,J,F,by rw[HN.out,HF.out],by rw[HL.out];exact of,Bf⟩
end
end Go.Proofs.YtkdbkjjacgigiaaGreatDoor
