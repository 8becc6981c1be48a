/- Lemmas for CardConsoleResults. No condition. -/
import Derived.Test.YtkdbkjjacgigiaaGreatDoorQ19
set_option maxRecDepth 100000
set_option maxHeartbeats 64000000
namespace Go.Proofs.YtkdbkjjacgigiaaGreatDoor
section
open Go.RowKit Go.G5 Go.Proofs.Tryz
def vB(l:List Int)(s:Int):Bool:=sV (l++[s])
theorem afP(sets:List Int)(sv:Value)(K:Int)(c8:∀x∈sets,0<=x/\x<64)(_:dL K):∀(n f:Nat) (l:List Int) (lv:Value) (w:World) (B:Nat),f+n=sets.length->aK w sv sets->aM 3 B w lv l->B<=w.heap.size->(∀x∈l,0<=x/\x<64)->l.length+sets.length<=100+f ->
  Calls prog 116 #[sv,f,lv,K] w fun e w'=>∃ad i cp,e=.returned (.tuple #[aA ad i cp,.bool (eT vB (sets.drop f) l K).isSome])/\aM 3 B w' (aA ad i cp) ((eT vB (sets.drop f) l K).getD [])/\Below w w w':=by
 have e7:=aH c8;clear c8;intro n
 induction n using Nat.strongRecOn with
 |_ n ih=>
  intro f l lv w B hn hv jS hB c6 g5;have f6:=hv;obtain⟨a,b,f8,c,rfl,f5,f4,hc,hb⟩:=hv.view prog 25 3 underlying25 aN;obtain⟨al,cl,rfl⟩:=jS.shape;have hf:f<=sets.length:=aD;have HN:=aH hn;clear hn;by_cases hk:(l.length:Int)=K
  ·have ht:((l.length:Int)==K)=true:=by simpa using hk
   have hr:=tC vB (sets.drop f) l K hk;have HR:=aH hr;clear hr hk;go_enter func116,ntmps116;go_wp2;go_ret2;exact⟨al,l.length,cl,by rw[HR.out];rfl,by rw[HR.out];exact jS,Below.refl _ _⟩
  ·have ht:((l.length:Int)==K)=false:=by simpa using hk
   have HK:=aH hk;have IH:=aH ih;have e6:=aH c6;clear hk ih c6;go_enter func116,ntmps116;go_wp2_with fail;go_loopw [10] (fun i wr=>∃k:Nat,f<=k/\k<=sets.length/\i=aG k/\eT vB (sets.drop k) l K=eT vB (sets.drop f) l K/\Below w w wr) (fun i _=>sets.length-(intOf i).toNat)
   case atStart=>exact⟨f,aI,hf,rfl,rfl,Below.refl _ _⟩
   case round=>
    obtain⟨k,j3,hk,rfl,S,Y⟩:=hrel;have H:=aH S;clear S;have o:=jS.keep Y;by_cases hlt:k<sets.length
    ·have a7:=aR hc hb Y aI k hlt
     have i6:b<wr.heap.size:=World.block_lt_of_cell? _ _ a7;have c5:=e7.out _ (List.getElem_mem hlt);have M:sets.drop k=sets[k]::sets.drop (k+1):=List.drop_eq_getElem_cons hlt;have z:=zE vB sets[k] (sets.drop (k+1)) l K HK.out;rw[<-M,H.out]at z;obtain⟨x,hx⟩:=aJ (sets[k]);rw[<-hx]at a7 c5 z;have g2:=fun W=>f4 W k hlt;have N:∀y∈l++[x],0<=y/\y<64:=by
      intro y hy;rcases List.mem_append.1 hy with hy|hy
      ·exact e6.out y hy
      ·rw[List.mem_singleton]at hy;rw[hy];exact c5
     have b8:([]:List Int).length+l.length<=17592186044416:=by simp;omega
     have b9:([]++l).length + [x].length<=17592186044416:=by simp;omega
     have c9:dL x:=⟨by omega,by omega⟩;have b3:=aH b8;have b5:=aH b9;have e9:=aH c9;have b6:=aH N;have a6:=aH z;clear M hx b8 b9 c9 N z;go_wp2_with fail;go_cut [11] from 20 to 48 (fun v wc=>∃ad i cp,v=aA ad i cp/\aM 3 wr wc (aA ad i cp) (l++[x])/\Below wr wr wc)
     case first=>
      go_region_held3 (fun w'=>w'.cell? ⟨b,f8+k,none⟩=some (aG x)) (go_keep)
       (first
        |(refine gE rfl _ _ _ rfl 3 underlying25 aN wr.heap.size (aA (some ⟨_,0,none⟩) 0 0) [] rfl (aA al l.length cl) l rfl ?_ ?_ b3.out wr ?_ aI ?_;(first|(with_reducible exact(aM.lit0 wr aI).drew')|(with_reducible exact((aM.lit0 wr aI).alloc _).drew')|(with_reducible exact(aM.lit0' wr _).drew'));(first|(with_reducible exact(o.ints.alloc _).drew')|(with_reducible exact((o.ints.alloc _).alloc _).drew'));(first|(with_reducible exact(bF wr _).drew)|(with_reducible exact(wI wr _ _).drew));(intro v1 w1 o1 b1 pc;obtain⟨i7,j1⟩:=gN b1 wr.heap.size aI))
        |(refine gE rfl _ _ _ rfl 3 underlying25 aN wr.heap.size v1 ([]++l) rfl (aA (some ⟨_,0,none⟩) 1 1) [x] rfl ?_ ?_ b5.out wr ?_ aI ?_;(first|(with_reducible exact o1)|(with_reducible exact o1.alloc _));(refine aK.one ?_ e9.out;first|(with_reducible exact aZ _ _ _ _ _ rfl)|(with_reducible exact pc _ _ (rJ _ _ _ _) (wW _ _ _))|(with_reducible exact pc _ _ (sZ _ _ _ _) (wX _ _ _)));(first|(with_reducible exact b1)|(with_reducible exact b1.alloc b1.size _));(intro v2 w2 o2 b2 _;obtain⟨i8,j2⟩:=gN b2 wr.heap.size aI))
       )
      all_goals
       go_wp2;go_meet
       case rel=>obtain⟨a2,n2,c2,rfl⟩:=o2.shape3;exact⟨a2,n2,c2,rfl,o2,b2⟩
     case rest=>
      obtain⟨a2,n2,c2,rfl,o2,b2⟩:=hcut;have F:=Y.after b2 Y.size;have hT:=OC (l++[x]) _ wc o2.ints b6.out;rw[show sV (l++[x])=vB l x from rfl]at hT;have HT:=aH hT;have z:=a6.out;clear hT a7
      cases I:vB l x with
      |false=>
       rw[I]at z;have HF:=aH z;have HI:=aH I;clear z I a6;go_wp2_with (go_at_call 158;refine HT.out.mono ?_;rintro e J ⟨rfl,D⟩;rw[HI.out]);go_roundw
       case rel=>exact⟨k+1,by omega,by omega,by go_num,by rw[HF.out];rfl,F.after D F.size⟩
       case measure=>simp[intOf];omega
      |true=>
       rw[I]at z;have c7:sets.length-(k+1)<n:=by have:=HN.out;omega
       have O:∀(J:World),aM 3 wr J (aA a2 n2 c2) (l++[x])->Below wc wc J->Calls prog 116 #[aA a sets.length c,aG ((k:Int)+1),aA a2 n2 c2,K] J fun e w'=>
         ∃ad i cp,e=.returned (.tuple #[aA ad i cp,.bool (eT vB (sets.drop (k+1)) (l++[x]) K).isSome])/\aM 3 wr w' (aA ad i cp) ((eT vB (sets.drop (k+1)) (l++[x]) K).getD [])/\Below J J w':=fun J h1 h2=>
        IH.out _ c7 (k+1) (l++[x]) _ J wr.heap.size aD (f6.below (F.after h2 F.size) aI) h1 (Nat.le_trans b2.size h2.size) b6.out (by rw[List.length_append,List.length_singleton];omega)
       obtain⟨R,hR⟩:=aJ (eT vB (sets.drop (k+1)) (l++[x]) K);rw[<-hR]at z;simp only[<-hR]at O;have Z:=aH O;have HI:=aH I;have yB:=F.size;have j6:=Y.size;clear O hR c7 a6 I
       cases R with
       |some y=>
        have HF:=aH z;clear z;go_wp2_with (first
         |(go_at_call 158;refine HT.out.mono ?_;rintro e J ⟨rfl,D⟩;rw[HI.out])
         |(go_at_call 116;with_reducible refine(Z.out J (o2.keep D) D).mono ?_;rintro e4 w4 ⟨p4,i4,q4,rfl,o4,b4⟩))
        go_ret2;exact⟨p4,i4,q4,by rw[HF.out];rfl,by rw[HF.out];exact o4.mono aD,(F.after D F.size).after b4 (F.after D F.size).size⟩
       |none=>
        have HF:=aH z;clear z;go_wp2_with (first
         |(go_at_call 158;refine HT.out.mono ?_;rintro e J ⟨rfl,D⟩;rw[HI.out])
         |(go_at_call 116;with_reducible refine(Z.out J (o2.keep D) D).mono ?_;rintro e4 w4 ⟨p4,i4,q4,rfl,o4,b4⟩))
        go_roundw
        case rel=>exact⟨k+1,by omega,by omega,by go_num,by rw[HF.out];rfl,(F.after D F.size).after b4 (F.after D F.size).size⟩
        case measure=>simp[intOf];omega
    ·have hr:eT vB (sets.drop f) l K=none:=by rw[<-H.out,List.drop_eq_nil_of_le aD];exact BO _ _ _ HK.out
     have HR:=aH hr;clear hr;go_wp2;go_ret2;exact⟨_,0,0,by rw[HR.out];rfl,by rw[HR.out];exact(aM.lit0 wr aI).mono (Nat.le_trans hB Y.size),Y.alloc Y.size _⟩
theorem NQ(w:World)(g:Int)(v:Value)(l:List Int)(hv:aK w v l)(_:l.length<=1048576)(k:Int)(hk:dL k):
  Calls prog 240 #[.agg #[g,v],k] w fun e w'=>∃ad i N,e=.returned (.tuple #[aA ad i N,.bool (iE g l k)])/\bK 3 w.heap.size w' (aA ad i N) (iH g l k)/\Below w w w':=by
 obtain⟨a,c,rfl⟩:=hv.shape;have K:=hv;have K0:=aP.new w 29 #[g,aA a l.length c];have G0:=K0.cell
 cases J:aU g l with
 |false=>
  have z:nT g l k=false:=by unfold nT;rw[J];rfl
  have S:=aH J;have hr:sU g l k=none:=by unfold sU;rw[z];rfl
  have hB:iE g l k=false:=by unfold iE;rw[hr];rfl
  have M:iH g l k=[]:=by unfold iH;rw[hr];rfl
  have Y:=aH hB;have HL:=aH M;clear hr hB M z J;go_enter func240,ntmps240;go_wp2_with (go_at_call 146;refine(cQ g l _ _ (K.alloc _)).mono ?_;rintro e w1 ⟨rfl,D⟩;rw[S.out]);go_ret2;exact⟨none,0,0,by rw[Y.out];rfl,by rw[HL.out];exact bK.nil _ _ _,(bF _ _).after D (by simp)⟩
 |true=>
  have S:=aH J
  cases F:dV k 1 5 with
  |false=>
   have z:nT g l k=false:=by unfold nT;rw[F];simp
   have HI:=aH F;have hr:sU g l k=none:=by unfold sU;rw[z];rfl
   have hB:iE g l k=false:=by unfold iE;rw[hr];rfl
   have M:iH g l k=[]:=by unfold iH;rw[hr];rfl
   have Y:=aH hB;have HL:=aH M;clear hr hB M z J F;go_enter func240,ntmps240;go_wp2_with (first
    |(go_at_call 146;refine(cQ g l _ _ (K.alloc _)).mono ?_;rintro e w1 ⟨rfl,D⟩;rw[S.out])
    |(go_at_call 144;refine(gH _ _ _ _).mono ?_;rintro e w2 ⟨rfl,rfl⟩;rw[HI.out]))
   go_ret2;exact⟨none,0,0,by rw[Y.out];rfl,by rw[HL.out];exact bK.nil _ _ _,(bF _ _).after D (by simp)⟩
  |true=>
   have HI:=aH F;have z:nT g l k=true:=by unfold nT;rw[J,F];rfl
   have hr:sU g l k=eT lE l [] k:=by unfold sU;rw[z];rfl
   have hB:iE g l k=(eT lE l [] k).isSome:=by unfold iE;rw[hr]
   have M:iH g l k=(eT lE l [] k).getD []:=by unfold iH;rw[hr]
   obtain⟨h0,h6,hm⟩:=oH J;have b0:l.length<=64:=by obtain⟨q0,q6,qm,qa⟩:=dB J;have hp:=lH q0 q6;exact LM l 64 qa (fun x hx=>by have:=qm x hx;omega)
   have O:∀x∈l,0<=x/\x<64:=fun x hx=>by obtain⟨i,hi,rfl⟩:=List.getElem_of_mem hx;exact hm i hi
   have I:∀W,aK W (aA a l.length c) l->Calls prog 322 #[aA a l.length c,(),k] W fun e w'=>
     ∃ad i N,e=.returned (.tuple #[aA ad i N,.bool (iE g l k)])/\aM 3 W w' (aA ad i N) (iH g l k)/\Below W W w':=fun W hW=>by
    rw[hB,M];exact afO l.length l [] _ _ k W W.heap.size rfl hW (aM.nil _ _ _) aI O (by simp) aT hk
   have Z:=aH I;clear hr hB M z J F I hm O h0 h6 G0;go_enter func240,ntmps240;go_wp2_with fail;refine(cQ g l _ _ (K.alloc _)).mono ?_;rintro e w1 ⟨rfl,D⟩;rw[S.out];have K1:=K0.keep D;have G1:=K1.cell;have z1:=K1.lt;have R:Below w w w1:=(bF _ _).after D (by simp);have y1:=R.size;go_wp2_with (first
    |(go_at_call 144;refine(gH _ _ _ _).mono ?_;rintro e w2 ⟨rfl,rfl⟩;rw[HI.out])
    |(go_at_call 322;refine(Z.out _ (K.below R aI)).mono ?_;rintro e w3 ⟨p3,i3,q3,rfl,o3,b3⟩))
   go_ret2;exact⟨p3,i3,q3,rfl,o3.toW.mono aD,R.after b3 R.size⟩
theorem aiG{p:Prop}(h:p:=by
  go_ret2;have N:Below w w w1:=(bF _ _).after F (by simp);exact⟨_,0,0,by rw[HB.out];rfl,by rw[HL.out];exact(aM.lit0 w1 N.size).toW,N.alloc N.size _⟩):p:=h
theorem ac0(w:World)(g:Int)(v:Value)(l:List Int)(hv:aK w v l)(_:l.length<=1048576)(k:Int)(hk:dL k):
  Calls prog 73 #[.agg #[g,v],k] w fun e w'=>∃ad i O,e=.returned (.tuple #[aA ad i O,.bool (iE g l k)])/\bK 3 w.heap.size w' (aA ad i O) (iH g l k)/\Below w w w':=by
 obtain⟨a,c,rfl⟩:=hv.shape;have K:=hv;have K0:=aP.new w 29 #[g,aA a l.length c];have G0:=K0.cell
 cases J:aU g l with
 |false=>
  have z:nT g l k=false:=by unfold nT;rw[J];rfl
  have Y:=aH J;have hr:sU g l k=none:=by unfold sU;rw[z];rfl
  have hB:iE g l k=false:=by unfold iE;rw[hr];rfl
  have M:iH g l k=[]:=by unfold iH;rw[hr];rfl
  have HB:=aH hB;have HL:=aH M;clear hr hB M z J;go_enter func73,ntmps73;go_wp2_with (go_at_call 21;refine(cK g l _ _ (K.alloc _)).mono ?_;rintro e w1 ⟨rfl,F⟩;rw[Y.out]);exact aiG
 |true=>
  have Y:=aH J
  cases D:dV k 1 5 with
  |false=>
   have z:nT g l k=false:=by unfold nT;rw[D];simp
   have HI:=aH D;have hr:sU g l k=none:=by unfold sU;rw[z];rfl
   have hB:iE g l k=false:=by unfold iE;rw[hr];rfl
   have M:iH g l k=[]:=by unfold iH;rw[hr];rfl
   have HB:=aH hB;have HL:=aH M;clear hr hB M z J D;go_enter func73,ntmps73;go_wp2_with (first
    |(go_at_call 21;refine(cK g l _ _ (K.alloc _)).mono ?_;rintro e w1 ⟨rfl,F⟩;rw[Y.out])
    |(go_at_call 77;refine(cP _ _ _ _).mono ?_;rintro e w2 ⟨rfl,rfl⟩;rw[HI.out]))
   exact aiG
  |true=>
   have HI:=aH D;have z:nT g l k=true:=by unfold nT;rw[J,D];rfl
   have hr:sU g l k=eT vB l [] k:=aj0 g l k z;have hB:iE g l k=(eT vB l [] k).isSome:=by unfold iE;rw[hr]
   have M:iH g l k=(eT vB l [] k).getD []:=by unfold iH;rw[hr]
   obtain⟨h0,h6,hm⟩:=oH J;have b4:l.length<=64:=by obtain⟨q0,q6,qm,qa⟩:=dB J;have hp:=lH q0 q6;exact LM l 64 qa (fun x hx=>by have:=qm x hx;omega)
   have R:∀x∈l,0<=x/\x<64:=fun x hx=>by obtain⟨i,hi,rfl⟩:=List.getElem_of_mem hx;exact hm i hi
   have I:∀W u,aK W (aA a l.length c) l->aM 3 w W u []->w.heap.size<=W.heap.size->Calls prog 116 #[aA a l.length c,aB,u,k] W fun e w'=>
     ∃ad i O,e=.returned (.tuple #[aA ad i O,.bool (iE g l k)])/\aM 3 w w' (aA ad i O) (iH g l k)/\Below W W w':=fun W u hW hu a6=>by
    rw[hB,M];have:=afP l (aA a l.length c) k R hk l.length 0 [] u W w.heap.size aD hW hu a6 (by simp) aT;simpa using this
   have Z:=aH I;clear hr hB M z J D I hm R h0 h6 G0;go_enter func73,ntmps73;go_wp2_with fail;refine(cK g l _ _ (K.alloc _)).mono ?_;rintro e w1 ⟨rfl,F⟩;rw[Y.out];have K1:=K0.keep F;have G1:=K1.cell;have z1:=K1.lt;have N:Below w w w1:=(bF _ _).after F (by simp);have y1:=N.size;have S:=N.alloc N.size (.cells #[] 3);go_wp2_with (first
    |(go_at_call 77;refine(cP _ _ _ _).mono ?_;rintro e w2 ⟨rfl,rfl⟩;rw[HI.out])
    |(go_at_call 116;refine(Z.out _ _ (K.below S aI) (aM.lit0 w1 y1) S.size).mono ?_;rintro e w3 ⟨p3,i3,q3,rfl,o3,b3⟩))
   go_ret2;exact⟨p3,i3,q3,rfl,o3.toW,S.after b3 S.size⟩
theorem NH(l o:List Int)(hl:l.length=2^o.length)(D:∀k,(hk:k<l.length)->-1000<=l[k]/\l[k]<=1000)(F:∀x∈o,0<=x/\x<o.length):
  ∀x∈tA l o,-2000<=x/\x<=2000:=by
 have h:∀k,k<=o.length->∀x∈jB l o k,-2000<=x/\x<=2000:=by
  intro k
  induction k with
  |zero=>intro _ x z;have:=List.eq_of_mem_replicate z;omega
  |succ k ih=>
   intro hk x z;rw[jB]at z;rcases List.mem_or_eq_of_mem_set z with z|z
   ·exact ih aD x z
   ·rw[z];have hlt:k<o.length:=aD;have hm:=F _ (List.getElem_mem hlt);have I:=YA o o.length k F aD;rw[List.getD_eq_getElem?_getD,List.getElem?_eq_getElem hlt,Option.getD_some];refine L0 l _ _ aD ?_ D;rw[hl];exact eI _ _ _ I aD
 exact h o.length aI
theorem abA(l:List Int)(h:∀x∈l,-2000<=x/\x<=2000)(e:Nat):-2000<=l.getD e 0/\l.getD e 0<=2000:=by
 rw[List.getD_eq_getElem?_getD];by_cases z:e<l.length
 ·rw[List.getElem?_eq_getElem z];exact h _ (List.getElem_mem z)
 ·rw[List.getElem?_eq_none aD];decide
theorem arD(l:List Int)(os:List (List Int))(n:Nat)(hl:l.length=2^n)(z:∀k,(hk:k<l.length)->-1000<=l[k]/\l[k]<=1000)(F:∀o∈os,o.length=n/\∀x∈o,0<=x/\x<n)(e j:Nat)(I:j<=os.length):
  -2000*(j:Int)<=AX l os e j/\AX l os e j<=2000*(j:Int):=by
 induction j with
 |zero=>simp[AX]
 |succ j ih=>have h1:=ih aD;have D:=F _ (List.getElem_mem (show j<os.length by omega));have hb:=abA _ (NH l os[j] (by rw[D.1];exact hl) z (by rw[D.1];exact D.2)) e;rw[AX,show os.getD j []=os[j] by rw[List.getD_eq_getElem?_getD,List.getElem?_eq_getElem (show j<os.length by omega)];rfl];omega
theorem abX(w:World)(n:Int)(v:Value)(l:List Int)(hv:aK w v l)(_:l.length<=1048576):
  Calls prog 182 #[.agg #[n,v]] w fun e w'=>∃ad i cp,e=.returned (aA ad i cp)/\aM 3 w w' (aA ad i cp) (gX n l)/\Below w w w':=by
 obtain⟨a,c,rfl⟩:=hv.shape;go_enter func182,ntmps182;go_wp2_with fail;refine(dM n l _ _ (hv.alloc _)).mono ?_;rintro e w1 ⟨rfl,c8⟩;have X1:=(Box2.new w n (aA a l.length c) 27).after c8;clear c8
 cases hf:aY n l with
 |false=>
  have hx:gX n l=[]:=by unfold gX;rw[hf];rfl
  have HX:=aH hx;obtain⟨I,d1,B1,z1⟩:=X1;clear hx;go_wp2;go_ret;exact⟨none,0,0,rfl,by rw[HX.out];exact aM.nil _ _ _,B1⟩
 |true=>
  obtain⟨h0,h5,hl,e9⟩:=kP hf;obtain⟨N,rfl⟩:=Int.eq_ofNat_of_zero_le h0;have hN:N<=5:=aD;have e8:l.length=2^N:=by
   have:((l.length:Nat):Int)=((2^N:Nat):Int):=by push_cast;exact hl
   exact_mod_cast this
  have hx:gX N l=mK l (cY N N) N (cY N N).length:=by unfold gX;rw[if_pos hf,ajR N hN];rfl
  have f2:=aaD N hN N;have j0:(5:Nat)^N<=5^5:=Nat.pow_le_pow_right aQ hN;have Y:=uI N N;have c5:=fun W=>XR N hN W;obtain⟨os,f3⟩:=aJ (cY N N);rw[<-f3]at hx f2 Y c5;have l4:os.length<=3125:=aD;have HX:=aH hx;have a9:=aH Y;have h8:=aH c5;have b3:=aH e9;have b4:=aH e8;have o0:=X1.z;clear hx f2 j0 Y c5 f3 hl e9 e8 hf;obtain⟨I,d1,B1,z1⟩:=X1;go_wp2_with (at_make;refine kZ rfl _ _ _ rfl 3 underlying25 aN N _ _ rfl rfl rfl rfl aD ?_;intro w2 a1 hg;have X2:=(Box2.mk I d1 B1 z1).grow hg (by simp);have n1:=hg.size;have rO:=a1.lt;clear hg I d1;obtain⟨I,d1,B2,z2⟩:=X2);refine(h8.out _).mono ?_;rintro e w3 ⟨p3,i3,q3,rfl,oL,J⟩;have X3:=(Box2.mk I d1 B2 z2).after J;have a6:=a1.keep J;obtain⟨o1,o3,e3,_⟩:=oL.len;simp only[Value.slice.injEq]at e3;obtain⟨rfl,rfl,rfl⟩:=e3;have z3:=J.size;have b0:w1.heap.size<w2.heap.size:=(rO _ rfl).2;clear I d1 a1 J B2 z2;go_wp2_with fail;go_loopw [18] (fun i wr=>∃j:Nat,j<=os.length/\i=aG j/\aM 3 w1 wr (aA (some ⟨w1,0,none⟩) N N) (mK l os N j)/\cV 3 25 w2.heap.size wr (aA p3 os.length q3) os/\Box2 w wr N (aA a l.length c)/\w2.heap.size<=wr.heap.size)
   (fun i _=>os.length-(intOf i).toNat)
  case atStart=>exact⟨0,Nat.zero_le _,rfl,by rw[ajN];exact a6,oL,X3,z3⟩
  case round=>
   obtain⟨j,hj,rfl,K,oL,X,zr⟩:=hrel;obtain⟨wo,rfl⟩:∃wo:World,wo=wr:=⟨_,rfl⟩;clear X3 a6;by_cases hlt:j<os.length
   ·obtain⟨g,u,j5,b7,hu⟩:=oL.view prog 77 underlying77 lY j hlt;have D:=a9.out _ (List.getElem_mem hlt);have b8:os.getD j []=os[j]:=by rw[List.getD_eq_getElem?_getD,List.getElem?_eq_getElem hlt];rfl
    obtain⟨o,ho⟩:=aJ (os[j]);rw[<-ho]at hu D b8;obtain⟨au,nu,cu,rfl⟩:=hu.shape3;have hcl:(tA l o).length=N:=by unfold tA;rw[AD];exact D.1
    have b6:=NH l o (by rw[D.1];exact b4.out) b3.out (by rw[D.1];exact D.2);have b5:∀(W:World),aK W (aA a l.length c) l->aK W (aA au nu cu) o->Calls prog 264 #[.agg #[(N:Int),aA a l.length c],aA au nu cu] W fun e w'=>∃ad i c,e=.returned (aA ad i c)/\aM 3 W w' (aA ad i c) (tA l o)/\Below W W w':=
     fun W h1 h2=>acM N l o _ _ W h1 h2 (by rw[D.1];exact hN) (by rw[D.1];exact b4.out) b3.out (by rw[D.1];exact D.2)
    have f4:=fun e j' (h:j'<=os.length)=>arD l os N b4.out b3.out a9.out e j' h;have F:∀e,AX l os e (j+1)=AX l os e j+(tA l o).getD e 0:=fun e=>by rw[AX,b8]
    obtain⟨C,hC⟩:=aJ (tA l o);rw[<-hC]at hcl b6 b5 F;have g8:=aH b6;have g7:=aH b5;have h9:=aH f4;have i1:=aH F;have HW:=aH K;have h7:=aH oL;obtain⟨I,d1,B3,f8⟩:=X;have k0:=hv.below B3 aI;clear hC b6 b5 f4 F ho D b8 K oL;go_wp2_with fail;refine(g7.out _ k0 hu.ints).mono ?_;rintro e w4 ⟨p4,i4,q4,rfl,oC,O⟩;obtain⟨o2,o5,e4⟩:=oC.shape;simp only[Value.slice.injEq]at e4;obtain⟨rfl,rfl,rfl⟩:=e4;rw[hcl]at oC ⊢;have X4:=(Box2.mk I d1 B3 f8).after O;have f6:=HW.out.keep O;have f5:=h7.out.keep O;have z4:=O.size;have rC:=oC.lt;clear I d1 j5 b7 hu O;go_wp2_with fail;go_loopw [26] (fun i wr=>∃e:Nat,e<=N/\i=aG e/\aM 3 w1 wr (aA (some ⟨w1,0,none⟩) N N) ((mK l os N (j+1)).take e++(mK l os N j).drop e)/\aM 3 wo wr (aA p4 N q4) C /\
      cV 3 25 w2.heap.size wr (aA p3 os.length q3) os/\Box2 w wr N (aA a l.length c)/\w2.heap.size<=wr.heap.size)
     (fun i _=>N-(intOf i).toNat)
    case atStart=>exact⟨0,Nat.zero_le _,rfl,by simpa using f6,oC,f5,X4,by omega⟩
    case round=>
     obtain⟨e,he,rfl,K,oC,oL,X,zi⟩:=hrel;obtain⟨wi,rfl⟩:∃wi:World,wi=wr:=⟨_,rfl⟩;clear f6 f5 X4;obtain⟨I,d1,B4,f9⟩:=X;by_cases j3:e<N
     ·have S:(mK l os N (j+1)).length=N:=E9 _ _ _ _;have f0:(mK l os N j).length=N:=E9 _ _ _ _;have Z:=aoQ (mK l os N (j+1)) (mK l os N j) e aD aD;have c9:=K.cellAt (by rw[Z,S]) e (by rw[Z,S];exact j3);rw[aoP _ _ _ aD aD,YG]at c9;have n0:=K.frozenAt (by rw[Z,S]) e;obtain⟨aC,bC,l8,cC,eC,j6,R,e5,m8⟩:=oC.ints.view prog 25 3 underlying25 aN;simp only[Value.slice.injEq]at eC;obtain⟨rfl,eN,rfl⟩:=eC;rw[hcl]at R;have e0:=e5 e aD;have e6:C[e]=C.getD e 0:=by rw[List.getD_eq_getElem?_getD,List.getElem?_eq_getElem (show e<C.length by omega)];rfl
      rw[e6]at e0;have j1:=abA C g8.out e;have J:=h9.out e j hj;have F:=i1.out e;obtain⟨x,hx⟩:=aJ (AX l os e j);obtain⟨y,hy⟩:=aJ (C.getD e 0);rw[<-hx]at c9 J F;rw[<-hy]at e0 j1 F;have c6:=K.stored (by rw[Z,S]) e (x+y) ⟨by omega,by omega⟩;have b9:=alV (mK l os N (j+1)) (mK l os N j) e aD aD;rw[YG,F]at b9;rw[b9]at c6;have M:=aH c6;have g9:=aH oC;have h6:=aH oL;have l2:=R;have m9:(0:Int)<=(e:Int):=Int.natCast_nonneg _;have l1:(e:Int)<(N:Int):=aD;have m4:=aH hcl;clear eN hcl S f0 Z K hx hy F b9 c6 oC oL e6 e5 R;go_wp2;go_roundw
      case rel=>exact⟨e+1,by omega,by go_num,M.out.1,g9.out.grow M.out.2 (fun q hq j7=>by cases hq;have:=(rC _ j7).1;have:=b0;omega),h6.out.growLow M.out.2 b0,(Box2.mk I d1 B4 f9).grow M.out.2 aT,by have:=M.out.2.size;omega⟩
      case measure=>simp[intOf];omega
     ·have j2:e=N:=aD;subst j2;have j8:(mK l os e (j+1)).take e++(mK l os e j).drop e=mK l os e (j+1):=by rw[List.take_of_length_le (by rw[E9];exact aI),List.drop_eq_nil_of_le (by rw[E9];exact aI),List.append_nil]
      rw[j8]at K;go_wp2;go_roundw
      case rel=>exact⟨j+1,by omega,by go_num,K,oL,⟨I,d1,B4,f9⟩,zi⟩
      case measure=>simp[intOf];omega
   ·have e7:os.length=j:=aD;obtain⟨I,d1,B3,f8⟩:=X;rw[<-e7]at K;have HW:=aH K;clear K e7;go_wp2;go_ret;exact⟨_,_,_,rfl,by rw[HX.out];exact HW.out.mono B1.size,B3⟩
theorem ab7(w:World)(g N s:Nat)(l:List Int)(v:Value)(hv:aK w v l)(K:aP w g 27 #[N,v])(hs:s<l.length)(b3:l.length=2^N)(hN:N<=5):
  Calls prog 277 #[(s:Int),.pointer (some ⟨g,0,none⟩)] w fun e w'=>e=.returned (.bool (mS l s))/\Below w w w':=by
 have a8:=hv;obtain⟨a,b,a9,c,rfl,a6,R,hc,hb⟩:=hv.view prog 25 3 underlying25 aN;have c6:(2:Nat)^N<=32:=Nat.pow_le_pow_right (n:=2) aQ hN;have c5:0<(2:Nat)^N:=Nat.two_pow_pos N;have F:l.length-1<l.length:=aD;have a7:((l.length-1:Nat):Int)=2^N-1:=by
  have:((2^N:Nat):Int)=(2:Int)^N:=by simp
  omega
 have ck:=hc s hs;have M:=hc (l.length-1) F;have ik:=fun W=>R W s hs;have b5:=fun W=>R W (l.length-1) F;rw[a7]at b5;have hg:l.getD s 0=l[s]:=aS l s hs;have a1:vA l=l[l.length-1]:=aS l _ F;have z:mS l s=(fX l s&&decide (l[s]=vA l)):=by unfold mS;rw[hg]
 obtain⟨x,hx⟩:=aJ (l[s]);obtain⟨t,ht⟩:=aJ (vA l);rw[<-hx,<-ht]at z;rw[<-hx]at ck;rw[<-a1,<-ht]at M;have e0:∀y:Ext w,y.w.cell? ⟨g,0,none⟩=some (aG N):=fun y=>y.cell (K.cell 0);have e1:∀y:Ext w,y.w.cell? ⟨g,1,none⟩=some (aA a l.length c):=fun y=>y.cell (K.cell 1);have e2:∀y:Ext w,y.w.cell? ⟨b,a9+s,none⟩=some (aG x):=fun y=>y.cell ck;have e3:∀y:Ext w,y.w.cell? ⟨b,a9+(l.length-1),none⟩=some (aG t):=fun y=>y.cell M;have D:∀y:Ext w,Calls prog 278 #[.agg #[(N:Int),aA a l.length c],s] y.w fun e w'=>e=.returned (.bool (fX l s))/\Below y.w.heap.size y.w w':=fun y=>tF y.w N _ l (y.ints a8) s hs aD;have Z:∀y:Ext w,Calls prog 272 #[.agg #[(N:Int),aA a l.length c]] y.w fun e w'=>e=.returned (aG (2^N-1))/\Below y.w.heap.size y.w w':=fun y=>by have:=sF (N:Int) (aA a l.length c) l y.w (y.ints a8) aD aD;rw[Int.toNat_natCast]at this;exact this
 have Y:=aH Z;clear hc R hb hg a1 hx ht ck M Z a7 a6 b3
 cases S:fX l s with
 |false=>
  rw[S]at z;simp only[S]at D;have I:=aH z;have J:=aH D;clear z D S;go_enter func277,ntmps277;go_wp2_with fail;refine bH _ aO aO ?_
  repeat(first|go_big_quiet_skip|(go_big_quiet_want;go_big_quiet_op;first|go_big_quiet_on|(apply Exists.intro;refine⟨fun _=>?_,?_⟩;(first|(go_at_call 278;exact bW (J.out _))|(go_at_call 272;exact bW (Y.out _)));go_big_quiet_on)))
  refine wpQuiet_nil ?_;rintro w3 ⟨⟨w3,O⟩,rfl⟩
  try dsimp only
  go_wp2;go_ret;exact⟨aW (by rw[I.out];rfl),O⟩
 |true=>
  rw[S]at z;simp only[S]at D;have I:=aH z;have J:=aH D;clear z D S;go_enter func277,ntmps277;go_wp2_with fail;refine bH _ aO aO ?_
  repeat(first|go_big_quiet_skip|(go_big_quiet_want;go_big_quiet_op;first|go_big_quiet_on|(apply Exists.intro;refine⟨fun _=>?_,?_⟩;(first|(go_at_call 278;exact bW (J.out _))|(go_at_call 272;exact bW (Y.out _)));go_big_quiet_on)))
  refine wpQuiet_nil ?_;rintro w3 ⟨⟨w3,O⟩,rfl⟩
  try dsimp only
  go_wp2;go_ret;exact⟨aW (by rw[I.out,Bool.true_and];exact PG _ _),O⟩
theorem J0:∀args w,(callFunc 277 args).run prog w=.ok (.enter 277 args) w:=enters_of func277 aO rfl
theorem acH(w:World)(g N s:Nat)(l:List Int)(v:Value)(F:aK w v l)(K:aP w g 27 #[N,v])(M:s<l.length)(J:l.length<=32):
  Calls prog 279 #[(s:Int),.pointer (some ⟨g,0,none⟩)] w fun e w'=>e=.returned (.bool (CL l s))/\Below w w w':=by
 have D:=F;obtain⟨a,c,rfl⟩:=F.shape;have G:=K.cell;have z:=K.lt;go_enter func279,ntmps279;go_wp2_with fail;refine(tF w N _ l D s M aD).mono ?_;rintro e w1 ⟨rfl,I⟩;go_wp2;go_ret;exact⟨aW (by unfold CL;cases fX l s<;>rfl),I⟩
theorem J5:∀args w,(callFunc 279 args).run prog w=.ok (.enter 279 args) w:=enters_of func279 aO rfl
theorem UI(w:World)(n:Int)(v:Value)(l:List Int)(hv:aK w v l)(hl:l.length<=1048576):
  Calls prog 201 #[.agg #[n,v]] w fun e w'=>∃ad i S,e=.returned (.tuple #[.agg #[(qP n l),aA ad i S],.bool (dQ n l)])/\aM 3 w w' (aA ad i S) (mR n l)/\Below w w w':=by
 obtain⟨a,c,rfl⟩:=hv.shape;go_enter func201,ntmps201;go_wp2_with fail;refine bU ?_;intro V hV;have B:Below w w V:=gO hV;have K1:aP V w 27 #[n,aA a l.length c]:=gR hV;have K:aP V (w.heap.size+1) 29 #[aB,()]:=iP hV;clear hV;refine(lX n l _ _ (hv.below B aI) hl).mono ?_;rintro e w1 ⟨rfl,F⟩;have J:=K1.keep F;have D:=K.keep F;have R:=B.after F B.size;have G1:=J.cell;have G2:=D.cell;have F2:=D.frozen;have z1:=J.lt;have z2:=D.lt;have b9:=hv.below R aI;clear K1 K B F
 cases I:dQ n l with
 |false=>
  have Z:qP n l=0:=by unfold qP;rw[I];rfl
  have Y:mR n l=[]:=by unfold mR;rw[I];rfl
  have HN:=aH Z;have HL:=aH Y;have HF:=aH I;clear Z Y;go_wp2;refine bN ?_;intro Wf z;have M:aP Wf (w.heap.size+1) 29 #[aB,()]:=by rw[z];have:=(D.set 0 (aG 0)).set 1 (aA none 0 0);simpa using this
  have Bf:Below w w Wf:=by rw[z];exact Below.setCell (Below.setCell R (by first|omega|(simp;done)|(simp;omega)) _) (by first|omega|(simp;done)|(simp;omega)) _
  have Gf:=M.cell;clear z G1 G2 F2;exact bodyPost_ret (v:=.tuple #[.agg #[aB,()],.bool false]) (by simp[results,results201,go_sem,Gf]) rfl ⟨none,0,0,by rw[HN.out,HF.out],by rw[HL.out];exact aM.nil _ _ _,Bf⟩
 |true=>
  obtain⟨N,rfl,h5,O,c7,_⟩:=cS (uZ I);have Z:qP N l=N:=by unfold qP;rw[I];rfl
  have Y:mR N l=cD (mS l) (2^N):=by unfold mR;rw[I,if_pos rfl,O]
  have HN:=aH Z;have HL:=aH Y;have HF:=aH I;have a6:Calls prog 276 #[(N:Int),.func (.func 277) #[] #[.pointer (some ⟨w,0,none⟩)]] w1 fun e w'=>
    ∃ad i S,e=.returned (.agg #[(N:Int),aA ad i S])/\aM 3 w1 w' (aA ad i S) (cD (mS l) (2^N))/\Below w1 w1 w':=
   zA w1 N aD 277 J0 w.heap.size (mS l) (fun s W' hs hB=>ab7 W' w.heap.size N s l _ (b9.keep hB) (J.keep hB) aD O h5)
  have b4:=aH a6;clear Z Y a6 I O;go_wp2_with fail;refine b4.out.mono ?_;rintro e w3 ⟨p3,i3,q3,rfl,o3,a1⟩;have B3:=R.after a1 R.size;have K:=D.keep a1;clear G1 G2 F2;have G2:=K.cell;have F2:=K.frozen;have z5:=K.lt;have y1:=R.size;go_wp2;refine bN ?_;intro Wf z;have M:aP Wf (w.heap.size+1) 29 #[N,aA p3 i3 q3]:=by rw[z];have:=(K.set 0 (aG N)).set 1 (aA p3 i3 q3);simpa using this
  have Bf:Below w w Wf:=by rw[z];exact Below.setCell (Below.setCell B3 (by first|omega|(simp;done)|(simp;omega)) _) (by first|omega|(simp;done)|(simp;omega)) _
  have of:aM 3 w Wf (aA p3 i3 q3) (cD (mS l) (2^N)):=by rw[z];exact((o3.setBelow (by first|omega|(simp;done)|(simp;omega)) _).setBelow (by first|omega|(simp;done)|(simp;omega)) _).mono (by first|omega|(simp;done)|(simp;omega))
  have Gf:=M.cell;clear z G2 F2;exact bodyPost_ret (v:=.tuple #[.agg #[N,aA p3 i3 q3],.bool true]) (by simp[results,results201,go_sem,Gf]) rfl ⟨p3,i3,q3,by rw[HN.out,HF.out],by rw[HL.out];exact of,Bf⟩
theorem ap7(w:World)(n:Int)(v:Value)(l:List Int)(hv:aK w v l)(hl:l.length<=1048576):
  Calls prog 202 #[.agg #[n,v]] w fun e w'=>∃ad i I,e=.returned (.tuple #[.agg #[(qP n l),aA ad i I],.bool (dQ n l)])/\aM 3 w w' (aA ad i I) (nX n l)/\Below w w w':=by
 obtain⟨a,c,rfl⟩:=hv.shape;go_enter func202,ntmps202;go_wp2_with fail;refine bU ?_;intro V hV;have B:Below w w V:=gO hV;have K1:aP V w 27 #[n,aA a l.length c]:=gR hV;have F:aP V (w.heap.size+1) 29 #[aB,()]:=iP hV;clear hV;refine(lX n l _ _ (hv.below B aI) hl).mono ?_;rintro e w1 ⟨rfl,J⟩;have R:=K1.keep J;have D:=F.keep J;have S:=B.after J B.size;have G1:=R.cell;have G2:=D.cell;have F2:=D.frozen;have z1:=R.lt;have z2:=D.lt;have e5:=hv.below S aI;clear K1 F B J
 cases K:dQ n l with
 |false=>
  have hN:qP n l=0:=by unfold qP;rw[K];rfl
  have hL:nX n l=[]:=by unfold nX;rw[K];rfl
  have HN:=aH hN;have HL:=aH hL;have HF:=aH K;clear hN hL;go_wp2;refine bN ?_;intro Wf z;have M:aP Wf (w.heap.size+1) 29 #[aB,()]:=by rw[z];have:=(D.set 0 (aG 0)).set 1 (aA none 0 0);simpa using this
  have Bf:Below w w Wf:=by rw[z];exact Below.setCell (Below.setCell S (by first|omega|(simp;done)|(simp;omega)) _) (by first|omega|(simp;done)|(simp;omega)) _
  have Gf:=M.cell;clear z G1 G2 F2;exact bodyPost_ret (v:=.tuple #[.agg #[aB,()],.bool false]) (by simp[results,results202,go_sem,Gf]) rfl ⟨none,0,0,by rw[HN.out,HF.out],by rw[HL.out];exact aM.nil _ _ _,Bf⟩
 |true=>
  obtain⟨N,rfl,h5,e9,f0,_⟩:=cS (uZ K);have hN:qP N l=N:=by unfold qP;rw[K];rfl
  have hL:nX N l=jR (cD (CL l) (2^N)):=by unfold nX;rw[K,if_pos rfl,e9]
  have HN:=aH hN;have HL:=aH hL;have HF:=aH K;have a7:Calls prog 276 #[(N:Int),.func (.func 279) #[] #[.pointer (some ⟨w,0,none⟩)]] w1 fun e w'=>
    ∃ad i I,e=.returned (.agg #[(N:Int),aA ad i I])/\aM 3 w1 w' (aA ad i I) (cD (CL l) (2^N))/\Below w1 w1 w':=
   zA w1 N aD 279 J5 w.heap.size (CL l) (fun s W' hs hB=>acH W' w.heap.size N s l _ (e5.keep hB) (R.keep hB) aD f0)
  have f2:=jO (CL l) (2^N);have a8:∀(W:World) (ad:Option Addr) (i I:Nat),aK W (aA ad i I) (cD (CL l) (2^N))->Calls prog 280 #[.agg #[(N:Int),aA ad i I]] W fun e w'=>
    ∃Y i' Z,e=.returned (.tuple #[.agg #[(N:Int),aA Y i' Z],.bool true])/\aM 3 W w' (aA Y i' Z) (jR (cD (CL l) (2^N)))/\Below W W w':=fun W ad i I hW=>
   LE N _ _ W hW aD (NC _ N aD)
  have c5:=aH a7;have c8:=aH a8;clear hN hL a7 a8 K e9 f2;go_wp2_with fail;refine c5.out.mono ?_;rintro e w3 ⟨p3,i3,q3,rfl,o3,O⟩;have B3:=S.after O S.size;have F:=D.keep O;clear G1 G2 F2;go_wp2_with fail;refine(c8.out _ p3 i3 q3 (o3.alloc _).ints).mono ?_;rintro e w5 ⟨p5,i5,q5,rfl,o5,e0⟩;have b5:Below w3 w3 w5:=(bF w3 _).after e0 (by simp);have B5:=B3.after b5 B3.size;have F:=F.keep b5;have G2:=F.cell;have F2:=F.frozen;have z5:=F.lt;have y3:=B3.size;have y1:=S.size;have z6:=O.size;have z7:=b5.size;go_wp2;refine bN ?_;intro Wf z;have M:aP Wf (w.heap.size+1) 29 #[N,aA p5 i5 q5]:=by rw[z];have:=(F.set 0 (aG N)).set 1 (aA p5 i5 q5);simpa using this
  have Bf:Below w w Wf:=by rw[z];exact Below.setCell (Below.setCell B5 (by first|omega|(simp;done)|(simp;omega)) _) (by first|omega|(simp;done)|(simp;omega)) _
  have of:aM 3 w Wf (aA p5 i5 q5) (jR (cD (CL l) (2^N))):=by exact ahQ
  have Gf:=M.cell;clear z G2 F2;exact bodyPost_ret (v:=.tuple #[.agg #[N,aA p5 i5 q5],.bool true]) (by simp[results,results202,go_sem,Gf]) rfl ⟨p5,i5,q5,by rw[HN.out,HF.out],by rw[HL.out];exact of,Bf⟩
end
end Go.Proofs.YtkdbkjjacgigiaaGreatDoor
