/- Lemmas for CardClaims, part 20 of 52. No condition. -/
import Derived.Test.YtipejodijbjpcaaGreatDoorQ02
import Derived.Test.YtipejodijbjpcaaGreatDoorQ03
import Derived.Test.YtipejodijbjpcaaGreatDoorQ05
import Derived.Test.YtipejodijbjpcaaGreatDoorQ06
import Derived.Test.YtipejodijbjpcaaGreatDoorQ10
import Derived.Test.YtipejodijbjpcaaGreatDoorQ17
set_option maxRecDepth 100000
set_option maxHeartbeats 64000000
namespace Go.Proofs.YtipejodijbjpcaaGreatDoor
section
open Go.RowKit Go.G5
def jA(l:List Int):Nat->Int
 |0=>l.getD 0 0
 |k+1=>min (jA l k) (l.getD k 0)
def cO(l:List Int):Int:=jA l l.length
def fW(l:List Int)(m:Int):Nat->List Int
 |0=>[]
 |k+1=>if l.getD k 0=m then fW l m k++[(k:Int)] else fW l m k
def iR(n:Int)(l:List Int):List Int:=if aN n l then fW l (cO l) l.length else []
def iS(M:Int)(q:List Int):Nat->Int
 |0=>M
 |k+1=>cQ (iS M q k) (q.getD k 0)
def kY(n:Int)(l:List Int):Int:=if cY n l then iS (2^n.toNat-1) (iR n l) (iR n l).length else 0
def rC(n:Int)(l:List Int):Int:=if aN n l then cO l else 0
theorem MZ(l:List Int):jA l 1=l.getD 0 0:=by show min (l.getD 0 0) (l.getD 0 0)=_;omega
theorem FQ(l:List Int)(h:0<l.length):∀k,k<=l.length->∃i,i<l.length/\l.getD i 0=jA l k:=by
 intro k
 induction k with
 |zero=>intro _;exact⟨0,h,rfl⟩
 |succ k ih=>
  intro D;obtain⟨i,o,A⟩:=ih (by omega);rw[jA]
  by_cases z:jA l k<=l.getD k 0
  ·exact⟨i,o,by omega⟩
  ·exact⟨k,by omega,by omega⟩
theorem XG(l:List Int)(m:Int):∀k,∀s∈fW l m k,0<=s/\s<k:=by
 intro k
 induction k with
 |zero=>intro s h;simp[fW]at h
 |succ k ih=>
  intro s h;rw[fW]at h
  by_cases o:l.getD k 0=m
  ·rw[if_pos o]at h
   rcases List.mem_append.1 h with h|h
   ·have:=ih s h;omega
   ·have:=List.mem_singleton.1 h;omega
  ·rw[if_neg o]at h
   have:=ih s h;omega
theorem IOz(l:List Int)(m:Int):∀k,(fW l m k).length<=k:=by
 intro k
 induction k with
 |zero=>simp[fW]
 |succ k ih=>
  rw[fW]
  split
  ·simp;omega
  ·omega
theorem TZ(l:List Int)(m:Int)(i:Nat)(z:l.getD i 0=m):∀k,i<k->fW l m k≠[]:=by
 intro k
 induction k with
 |zero=>intro h;omega
 |succ k ih=>
  intro A;rw[fW]
  by_cases o:l.getD k 0=m
  ·rw[if_pos o];simp
  ·rw[if_neg o]
   have:i≠k:=fun e=>o (e▸z);exact ih (by omega)
theorem EB{n:Int}{l:List Int}(h:aN n l=true):iR n l≠[]/\(iR n l).length<=32/\∀s∈iR n l,0<=s/\s<2^n.toNat/\s<64:=by
 obtain⟨N,rfl,D,A,o,_⟩:=bN h;have L:iR (N:Int) l=fW l (cO l) l.length:=by unfold iR;rw[h];rfl
 have z:0<l.length:=by rw[A];exact Nat.two_pow_pos N
 rw[L];obtain⟨i,I,F⟩:=FQ l z l.length (Nat.le_refl _);refine⟨TZ l (cO l) i F l.length I,Nat.le_trans (IOz l _ _) o,fun s K=>?_⟩;have:=XG l _ _ s K;have h4:((2^N:Nat):Int)=(2:Int)^N:=by push_cast;rfl
 simp only[Int.toNat_natCast];omega
theorem JN(l:List Int)(v:Value)(w:World)(U:aD w v l)(o:0<l.length):
  Calls Tryz.prog 130 #[v] w fun e w'=>e=.returned (.int .i64 (cO l))/\w=w':=by
 obtain⟨a,b,D,c,rfl,L,z,I,hb⟩:=U.view Tryz.prog 22 3 Tryz.underlying22 aG;have h1:¬(l.length:Int)<1:=by omega
 have i0:∀W,(Instr.indexAt 22 (.slice a l.length c) (.int .i64 0)).run Tryz.prog W=.ok (.pointer (some ⟨b,D,none⟩)) W:=fun W=>z W 0 o;have c0:w.cell? ⟨b,D,none⟩=some (.int .i64 (l.getD 0 0)):=by rw[aJ l 0 o];exact I 0 o
 go_enter Tryz.func130,Tryz.ntmps130;go_wp2;go_loop [3,4] (fun m i=>∃k:Nat,1<=k/\k<=l.length/\i=.int .i64 k/\m=.int .i64 (jA l k)) (fun _ i=>l.length-(intOf i).toNat)
 case atStart=>exact⟨1,Nat.le_refl _,o,rfl,by rw[MZ,aJ l 0 o]⟩
 case round=>
  obtain⟨k,S,Y,rfl,rfl⟩:=hrel
  by_cases hlt:k<l.length
  ·have K:=I k hlt
   have R:=fun W=>z W k hlt;have F:jA l (k+1)=min (jA l k) l[k]:=by rw[jA,aJ l k hlt]
   obtain⟨p,M⟩:∃p,p=l[k]:=⟨_,rfl⟩;obtain⟨q,N⟩:∃q,q=jA l k:=⟨_,rfl⟩;rw[<-M]at K F;rw[<-N]at F ⊢;have Q:=Lib.hid F;clear F M N I z;go_wp2;go_round
   case rel=>exact⟨k+1,by omega,by omega,by go_num,by rw[Q.out]<;>(congr 1<;>(split<;>omega))⟩
   case measure=>simp[intOf];omega
  ·have A:k=l.length:=by omega
   have O:=Lib.hid A;clear A;go_wp2;go_ret;exact⟨eJ (by rw[O.out];rfl),rfl⟩
theorem qU(w:World)(n:Int)(v:Value)(l:List Int)(L:aD w v l):
  Calls Tryz.prog 21 #[.agg #[.int .i64 n,v]] w fun e w'=>e=.returned (.tuple #[.int .i64 (rC n l),.bool (aN n l)])/\Below w.heap.size w w':=by
 obtain⟨a,c,rfl⟩:=L.shape;go_enter Tryz.func21,Tryz.ntmps21;go_wp2_with fail;refine aH ?_;intro V F;have B:Below w.heap.size w V:=by rw[F];exact aM _ _
 have K:aB V w.heap.size 32 #[.int .i64 n,.slice a l.length c]:=by rw[F];exact aB.new _ _ _
 clear F;refine(eZ n l _ V (L.below B (Nat.le_refl _))).mono ?_;rintro e Q ⟨rfl,M⟩;have K:=K.keep M;have B:=B.after M B.size;have G:=K.cell
 cases o:aN n l with
 |false=>
  have D:rC n l=0:=by unfold rC;rw[o];rfl
  have z:=Lib.hid (And.intro D o);clear D o;go_wp2;go_ret2;exact⟨by rw[z.out.1,z.out.2];rfl,B⟩
 |true=>
  have D:rC n l=cO l:=by unfold rC;rw[o];rfl
  have A:0<l.length:=by
   obtain⟨N,rfl,_,I,_⟩:=bN o;rw[I];exact Nat.two_pow_pos N
  have z:=Lib.hid (And.intro D o);have O:=Lib.hid (JN l _ Q (L.below B (Nat.le_refl _)) A);clear D o;go_wp2_with (go_at_call 130;refine O.out.mono ?_;rintro e w' ⟨rfl,rfl⟩);go_ret2;exact⟨by rw[z.out.1,z.out.2];rfl,B⟩
theorem nM(w:World)(n:Int)(v:Value)(l:List Int)(Y:aD w v l)(o:0<l.length):
  Calls Tryz.prog 161 #[.agg #[.int .i64 n,v]] w fun e w'=>e=.returned (.int .i64 (cO l))/\Below w.heap.size w w':=by
 obtain⟨a,b,F,c,rfl,M,A,L,hb⟩:=Y.view Tryz.prog 22 3 Tryz.underlying22 aG;have z:=aK L hb (aM w (.cells #[.int .i64 n,.slice a l.length c] 32)) (Nat.le_refl _);have i0:∀W,(Instr.indexAt 22 (.slice a l.length c) (.int .i64 0)).run Tryz.prog W=.ok (.pointer (some ⟨b,F,none⟩)) W:=fun W=>A W 0 o;have c0:(w.alloc (.cells #[.int .i64 n,.slice a l.length c] 32)).cell? ⟨b,F,none⟩=some (.int .i64 (l.getD 0 0)):=by rw[aJ l 0 o];exact z 0 o
 go_enter Tryz.func161,Tryz.ntmps161;go_wp2;go_loop [3,4] (fun m i=>∃k:Nat,1<=k/\k<=l.length/\i=.int .i64 k/\m=.int .i64 (jA l k)) (fun _ i=>l.length-(intOf i).toNat)
 case atStart=>exact⟨1,Nat.le_refl _,o,rfl,by rw[MZ,aJ l 0 o]⟩
 case round=>
  obtain⟨k,U,Z,rfl,rfl⟩:=hrel
  by_cases hlt:k<l.length
  ·have K:=z k hlt
   have S:=fun W=>A W k hlt;have I:jA l (k+1)=min (jA l k) l[k]:=by rw[jA,aJ l k hlt]
   obtain⟨p,N⟩:∃p,p=l[k]:=⟨_,rfl⟩;obtain⟨q,O⟩:∃q,q=jA l k:=⟨_,rfl⟩;rw[<-N]at K I;rw[<-O]at I ⊢;have R:=Lib.hid I;clear I N O L z A;go_wp2;go_round
   case rel=>exact⟨k+1,by omega,by omega,by go_num,by rw[R.out]<;>(congr 1<;>(split<;>omega))⟩
   case measure=>simp[intOf];omega
  ·have D:k=l.length:=by omega
   have Q:=Lib.hid D;clear D;go_wp2;go_ret;exact⟨eJ (by rw[Q.out];rfl),aM _ _⟩
theorem AB(w:World)(n:Int)(v:Value)(l:List Int)(hv:aD w v l):
  Calls Tryz.prog 23 #[.agg #[.int .i64 n,v]] w fun e w'=>∃z i c,e=.returned (.tuple #[.slice z i c,.bool (aN n l)])/\aC 3 w.heap.size w' (.slice z i c) (iR n l)/\Below w.heap.size w w':=by
 obtain⟨a,b,e7,c,rfl,b7,b0,hc,hb⟩:=hv.view Tryz.prog 22 3 Tryz.underlying22 aG;go_enter Tryz.func23,Tryz.ntmps23;go_wp2_with fail;refine aH ?_;intro V hV;have B:Below w.heap.size w V:=by rw[hV];exact aM _ _
 have K:aB V w.heap.size 32 #[.int .i64 n,.slice a l.length c]:=by rw[hV];exact aB.new _ _ _
 clear hV;refine(qU V n _ l (hv.below B (Nat.le_refl _))).mono ?_;rintro e w1 ⟨rfl,b1⟩;have K:=K.keep b1;have B:=B.after b1 B.size;have G:=K.cell
 cases A:aN n l with
 |false=>
  have Y:iR n l=[]:=by unfold iR;rw[A];rfl
  have Q:=Lib.hid (And.intro Y A);clear Y A;go_wp2;go_ret2;exact⟨none,0,0,by rw[Q.out.2];rfl,by rw[Q.out.1];exact aC.nil _ _ _,B⟩
 |true=>
  have Y:iR n l=fW l (cO l) l.length:=by unfold iR;rw[A];rfl
  have hm:rC n l=cO l:=by unfold rC;rw[A];rfl
  have b6:l.length<=32:=by
   obtain⟨N,rfl,_,_,h,_⟩:=bN A;exact h
  obtain⟨M,hM⟩:∃M,M=cO l:=⟨_,rfl⟩;rw[hm,<-hM];have HM:=Lib.hid hM;have Q:=Lib.hid (And.intro Y A);clear Y A hm hM;go_wp2_with fail;go_loopw [6,19] (fun out i wr=>∃(k:Nat) (z:Option Addr) (Z R:Nat),k<=l.length/\out=.slice z Z R/\i=.int .i64 k/\aC 3 w.heap.size wr (.slice z Z R) (fW l (cO l) k)/\Below w.heap.size w wr) (fun _ i _=>l.length-(intOf i).toNat)
  case atStart=>exact⟨0,none,0,0,Nat.zero_le _,rfl,rfl,aC.nil _ _ _,B⟩
  case round=>
   obtain⟨k,z,Z,R,hk,rfl,rfl,L,I⟩:=hrel;have O:=Lib.hid L;clear L
   by_cases hlt:k<l.length
   ·have U:(k:Int)<(l.length:Int):=by omega
    have a8:=aK hc hb I (Nat.le_refl _) k hlt;have e4:=fun W=>b0 W k hlt;have hn:fW l (cO l) (k+1)=if l[k]=M then fW l (cO l) k++[(k:Int)] else fW l (cO l) k:=by rw[fW,aJ l k hlt,HM.out]
    obtain⟨y,hy⟩:∃y,y=l[k]:=⟨_,rfl⟩;rw[<-hy]at a8 hn;have HN:=Lib.hid hn;clear hn hy
    by_cases o:y=M
    ·have a7:(y==M)=true:=by simp[o]
     have F:=Lib.hid o;clear o;have o4:=O.out;have r4:=o4.lt;have zr:=I.size;go_wp2_with (at_builtin;refine eI rfl _ _ _ rfl 3 Tryz.underlying22 aG w.heap.size _ _ (k:Int) wr.heap.size rfl rfl (by simp) (o4.alloc _) ⟨by omega,by omega⟩ (by have:=IOz l (cO l) k;omega) (by simp;omega) ?_;intro v' w6 D a9;obtain⟨av,nv,cv,rfl⟩:=D.shape3);have B6:Below w.heap.size w w6:=(I.alloc I.size (.cells #[.int .i64 (k:Int)] 3)).grown a9 (by simp;omega) (fun q hq=>(r4 q hq).1);go_roundw
     case rel=>exact⟨k+1,av,nv,cv,by omega,rfl,by go_num,by rw[HN.out,if_pos F.out];exact D,B6⟩
     case measure=>simp[intOf];omega
    ·have a7:(y==M)=false:=by simp[o]
     have F:=Lib.hid o;clear o;go_wp2;go_roundw
     case rel=>exact⟨k+1,z,Z,R,by omega,rfl,by go_num,by rw[HN.out,if_neg F.out];exact O.out,I⟩
     case measure=>simp[intOf];omega
   ·have U:¬(k:Int)<(l.length:Int):=by omega
    have S:k=l.length:=by omega
    have L:=O.out;rw[S,<-Q.out.1]at L;have O:=Lib.hid L;clear S L;go_wp2;go_ret2;exact⟨z,Z,R,by rw[Q.out.2];rfl,O.out,I⟩
theorem EY(w:World)(n:Int)(v:Value)(l:List Int)(hv:aD w v l)(hl:l.length<=1048576):
  Calls Tryz.prog 135 #[.agg #[.int .i64 n,v]] w fun e w'=>e=.returned (.tuple #[.int .i64 (kY n l),.bool (cY n l)])/\Below w.heap.size w w':=by
 obtain⟨a,c,rfl⟩:=hv.shape;go_enter Tryz.func135,Tryz.ntmps135;go_wp2_with fail;refine aH ?_;intro V hV;have B:Below w.heap.size w V:=by rw[hV];exact aM _ _
 have K:aB V w.heap.size 32 #[.int .i64 n,.slice a l.length c]:=by rw[hV];exact aB.new _ _ _
 clear hV;refine(jP n l _ V (hv.below B (Nat.le_refl _)) hl).mono ?_;rintro e w1 ⟨rfl,b1⟩;have K:=K.keep b1;have B:=B.after b1 B.size;have G:=K.cell
 cases F:cY n l with
 |false=>
  have hx:kY n l=0:=by unfold kY;rw[F];rfl
  have Q:=Lib.hid (And.intro hx F);clear hx F;go_wp2;go_ret2;exact⟨by rw[Q.out.1,Q.out.2];rfl,B⟩
 |true=>
  have hf:aN n l=true:=by unfold cY at F;exact(Bool.and_eq_true_iff.1 F).1
  have hx:kY n l=iS (2^n.toNat-1) (iR n l) (iR n l).length:=by unfold kY;rw[F];rfl
  obtain⟨_,a6,O⟩:=EB hf;obtain⟨h0,h5,_,_⟩:=jS hf;have Q:=Lib.hid (And.intro hx F);obtain⟨q,hq⟩:∃q,q=iR n l:=⟨_,rfl⟩;have N:=AB w1 n _ l (hv.below B (Nat.le_refl _));rw[<-hq]at N a6 O;have b5:=Lib.hid N;have HQ:=Lib.hid hq;have b6:=Lib.hid O;clear hx F hf N hq O;go_wp2_with fail;clear G;refine b5.out.mono ?_;rintro e w2 ⟨p,i,cc,rfl,o,b2⟩;have K:=K.keep b2;have B1:=B.after b2 B.size;have hi:i=q.length:=by
   obtain⟨_,_,h⟩:=o.shape
   injection h
  subst hi;have G:=K.cell;go_wp2_with fail;clear G;refine(jM n _ l w2 (hv.below B1 (Nat.le_refl _)) h0 (by omega)).mono ?_;rintro e w3 ⟨rfl,b3⟩;have B2:=B1.after b3 B1.size;have o:=o.keep b3;obtain⟨a1,bq,e6,c1,c9,c6,D,S,A⟩:=o.ints.view Tryz.prog 22 3 Tryz.underlying22 aG
  injection c9 with h1 h2 h3
  subst h1 h3;have hM:=bJ n.toNat 5 (by omega);obtain⟨M,I⟩:∃M:Int,M=2^n.toNat-1:=⟨_,rfl⟩;have b8:0<=M/\M<64:=by have h1:=hM.1;have h2:=hM.2;simp at h1;omega
  rw[<-I];have b4:=Lib.hid I;clear hM I o;go_wp2_with fail;go_loop [6,21] (fun m i=>∃k:Nat,k<=q.length/\i=.int .i64 k/\m=.int .i64 (iS M q k)/\0<=iS M q k/\iS M q k<64) (fun _ i=>q.length-(intOf i).toNat)
  case atStart=>exact⟨0,Nat.zero_le _,rfl,rfl,b8⟩
  case round=>
   obtain⟨k,hk,rfl,rfl,A,R⟩:=hrel
   by_cases hlt:k<q.length
   ·have Y:(k:Int)<(q.length:Int):=by omega
    have ck:=S k hlt;have ik:=fun W=>D W k hlt;have hm:=b6.out _ (List.getElem_mem hlt);have Z:iS M q (k+1)=cQ (iS M q k) q[k]:=by rw[iS,aJ q k hlt]
    obtain⟨y,hy⟩:∃y,y=q[k]:=⟨_,rfl⟩;obtain⟨z,hz⟩:∃z,z=iS M q k:=⟨_,rfl⟩;rw[<-hy]at ck hm Z;rw[<-hz]at Z A R ⊢;have f5:=oO A (by omega) hm.1 (by omega);have L:=MR z y 64 A R;rw[<-Z]at L;have HN:=Lib.hid Z;have b0:=Lib.hid L;clear Z L hy hz hm S D;go_wp2;go_round
    case rel=>exact⟨k+1,by omega,by go_num,by rw[HN.out],b0.out⟩
    case measure=>simp[intOf];omega
   ·have Y:¬(k:Int)<(q.length:Int):=by omega
    have U:k=q.length:=by omega
    have HK:=Lib.hid U;clear U;go_wp2;go_ret2;exact⟨by rw[Q.out.1,Q.out.2,<-HQ.out,<-b4.out,<-HK.out];rfl,B2⟩
theorem AH(w:World)(n:Int)(v:Value)(l:List Int)(hv:aD w v l):
  Calls Tryz.prog 271 #[.agg #[.int .i64 n,v]] w fun e w'=>∃D i c,e=.returned (.tuple #[.slice D i c,.bool (aN n l)])/\aC 3 w.heap.size w' (.slice D i c) (iR n l)/\Below w.heap.size w w':=by
 obtain⟨a,b,e0,c,rfl,e9,a9,hc,hb⟩:=hv.view Tryz.prog 22 3 Tryz.underlying22 aG;obtain⟨V,hV⟩:∃V,V=(w.alloc (.cells #[.int .i64 n,.slice a l.length c] 32)).alloc (.cells #[] 3):=⟨_,rfl⟩;have B:Below w.heap.size w V:=by rw[hV];exact cD _ _ _
 have K:aB V w.heap.size 32 #[.int .i64 n,.slice a l.length c]:=by rw[hV];exact(aB.new _ _ _).alloc _
 have o0:aC 3 (w.heap.size+1) V (.slice (some ⟨w.heap.size+1,0,none⟩) 0 0) []:=by rw[hV];have:=aC.lit0 (E:=3) (B:=w.heap.size+1) (w.alloc (.cells #[.int .i64 n,.slice a l.length c] 32)) (by simp);simpa using this
 go_enter Tryz.func271,Tryz.ntmps271;go_wp2_with fail;rw[<-hV];clear hV;go_loopw [4,5] (fun out i wr=>∃(k:Nat) (D:Option Addr) (Y U:Nat),k<=l.length/\out=.slice D Y U/\i=.int .i64 k/\aC 3 (w.heap.size+1) wr (.slice D Y U) (fW l (cO l) k)/\aB wr w.heap.size 32 #[.int .i64 n,.slice a l.length c]/\Below w.heap.size w wr/\(aN n l=false->k=0)) (fun _ i _=>l.length-(intOf i).toNat)
 case atStart=>exact⟨0,_,_,_,Nat.zero_le _,rfl,rfl,o0,K,B,fun _=>rfl⟩
 case round=>
  obtain⟨k,D,Y,U,hk,rfl,rfl,ho,Kr,Br,hz⟩:=hrel;clear o0 K B;have HO:=Lib.hid ho;have HZ:=Lib.hid hz;have G:=Kr.cell;clear ho hz;go_wp2_with fail;clear G;refine(cI n l _ wr (hv.below Br (Nat.le_refl _))).mono ?_;rintro e Z ⟨rfl,b1⟩;have K1:=Kr.keep b1;have A:=Br.after b1 Br.size;have S:=HO.out.keep b1;have G:=K1.cell;clear Kr
  cases F:aN n l with
  |false=>
   have hx:iR n l=[]:=by unfold iR;rw[F];rfl
   rw[HZ.out F]at S;have HX:=Lib.hid (And.intro hx F);clear hx F;have L:=Lib.hid (cI n l _ Z (hv.below A (Nat.le_refl _)));go_wp2_with (go_at_call 129;refine L.out.mono ?_;rintro e w2 ⟨rfl,b2⟩);go_ret2;exact⟨D,Y,U,rfl,by rw[HX.out.1];exact(S.keep b2).mono (by omega),A.after b2 A.size⟩
  |true=>
   have hx:iR n l=fW l (cO l) l.length:=by unfold iR;rw[F];rfl
   have e8:l.length<=32:=by
    obtain⟨N,rfl,_,_,h,_⟩:=bN F;exact h
   have HX:=Lib.hid (And.intro hx F);clear hx
   by_cases hlt:k<l.length
   ·have b3:(k:Int)<(l.length:Int):=by omega
    have O:=Lib.hid (fun y:Ext Z=>nM y.w n _ l (y.ints (hv.below A (Nat.le_refl _))) (by omega));have R:=aK hc hb A (Nat.le_refl _) k hlt;have g2:=fun W=>a9 W k hlt;have hn:fW l (cO l) (k+1)=if l[k]=cO l then fW l (cO l) k++[(k:Int)] else fW l (cO l) k:=by rw[fW,aJ l k hlt]
    obtain⟨y,hy⟩:∃y,y=l[k]:=⟨_,rfl⟩;rw[<-hy]at R hn;obtain⟨M,hM⟩:∃M,M=cO l:=⟨_,rfl⟩;have b4:fW l (cO l) (k+1)=if y=M then fW l (cO l) k++[(k:Int)] else fW l (cO l) k:=by rw[hn,hM]
    rw[<-hM]at O;have HN:=Lib.hid b4;have O1:=Lib.hid S;have d0:∀x:Ext Z,x.w.cell? ⟨b,e0+k,none⟩=some (.int .i64 y):=fun x=>x.cell R;have c0:∀x:Ext Z,x.w.cell? ⟨w.heap.size,0,none⟩=some (.int .i64 n):=fun x=>x.cell (K1.cell 0);have c1:∀x:Ext Z,x.w.cell? ⟨w.heap.size,1,none⟩=some (.slice a l.length c):=fun x=>x.cell (K1.cell 1);clear hn hy b4 hM hc a9 S R F
    by_cases z:y=M
    ·have c8:(y==M)=true:=by simp[z]
     have Q:=Lib.hid z;clear z;go_wp2_with fail;refine aO _ (by kernel_rfl) (by kernel_rfl) ?_
     repeat(first|go_big_quiet_skip|(go_big_quiet_want;go_big_quiet_op;first|go_big_quiet_on|(apply Exists.intro;refine⟨fun _=>?_,?_⟩;(go_at_call 161;exact aV (O.out _));go_big_quiet_on)))
     refine wpQuiet_nil ?_;rintro w3 ⟨⟨w3,o⟩,rfl⟩
     try dsimp only
     have K3:=K1.keep o;have B3:=A.after o A.size;have o3:=O1.out.keep o;have r3:=o3.lt;have z3:=K3.lt;clear G d0 c0 c1;go_wp2_with (at_builtin;refine eI rfl _ _ _ rfl 3 Tryz.underlying22 aG (w.heap.size+1) _ _ (k:Int) w3.heap.size rfl rfl (by simp) (o3.alloc _) ⟨by omega,by omega⟩ (by have:=IOz l (cO l) k;omega) (by simp;omega) ?_;intro v' w6 I a8;obtain⟨av,nv,cv,rfl⟩:=I.shape3);have B6:Below w.heap.size w w6:=(B3.alloc B3.size (.cells #[.int .i64 (k:Int)] 3)).grown a8 (by simp;omega) (fun q hq=>by have:=(r3 q hq).1;omega);have K6:=(K3.alloc (.cells #[.int .i64 (k:Int)] 3)).grow a8 (fun e=>by have:=(r3 _ e).1;omega);go_roundw
     case rel=>exact⟨k+1,av,nv,cv,by omega,rfl,by go_num,by rw[HN.out,if_pos Q.out];exact I,K6,B6,fun h=>by rw[HX.out.2]at h;cases h⟩
     case measure=>simp[intOf];omega
    ·have c8:(y==M)=false:=by simp[z]
     have Q:=Lib.hid z;clear z;go_wp2_with fail;refine aO _ (by kernel_rfl) (by kernel_rfl) ?_
     repeat(first|go_big_quiet_skip|(go_big_quiet_want;go_big_quiet_op;first|go_big_quiet_on|(apply Exists.intro;refine⟨fun _=>?_,?_⟩;(go_at_call 161;exact aV (O.out _));go_big_quiet_on)))
     refine wpQuiet_nil ?_;rintro w3 ⟨⟨w3,o⟩,rfl⟩
     try dsimp only
     go_wp2;go_roundw
     case rel=>exact⟨k+1,D,Y,U,by omega,rfl,by go_num,by rw[HN.out,if_neg Q.out];exact O1.out.keep o,K1.keep o,A.after o A.size,fun h=>by rw[HX.out.2]at h;cases h⟩
     case measure=>simp[intOf];omega
   ·have b3:¬(k:Int)<(l.length:Int):=by omega
    have b0:k=l.length:=by omega
    rw[b0,<-HX.out.1]at S;have O1:=Lib.hid S;have L:=Lib.hid (cI n l _ Z (hv.below A (Nat.le_refl _)));clear b0 S F;go_wp2_with (go_at_call 129;refine L.out.mono ?_;rintro e w2 ⟨rfl,b2⟩);go_ret2;exact⟨D,Y,U,rfl,(O1.out.keep b2).mono (by omega),A.after b2 A.size⟩
theorem EP(w:World)(n:Int)(v:Value)(l:List Int)(hv:aD w v l)(hl:l.length<=1048576):
  Calls Tryz.prog 160 #[.agg #[.int .i64 n,v]] w fun e w'=>e=.returned (.tuple #[.int .i64 (kY n l),.bool (cY n l)])/\Below w.heap.size w w':=by
 obtain⟨a,c,rfl⟩:=hv.shape;go_enter Tryz.func160,Tryz.ntmps160;go_wp2_with fail;refine aH ?_;intro V hV;have B:Below w.heap.size w V:=by rw[hV];exact aM _ _
 have K:aB V w.heap.size 32 #[.int .i64 n,.slice a l.length c]:=by rw[hV];exact aB.new _ _ _
 clear hV;refine(iK n l _ V (hv.below B (Nat.le_refl _)) hl).mono ?_;rintro e w1 ⟨rfl,b1⟩;have K:=K.keep b1;have B:=B.after b1 B.size;have G:=K.cell
 cases I:cY n l with
 |false=>
  have hx:kY n l=0:=by unfold kY;rw[I];rfl
  have Z:=Lib.hid (And.intro hx I);clear hx I;go_wp2;go_ret2;exact⟨by rw[Z.out.1,Z.out.2];rfl,B⟩
 |true=>
  have hf:aN n l=true:=by unfold cY at I;exact(Bool.and_eq_true_iff.1 I).1
  have hx:kY n l=iS (2^n.toNat-1) (iR n l) (iR n l).length:=by unfold kY;rw[I];rfl
  obtain⟨b5,b4,U⟩:=EB hf;have A:0<(iR n l).length:=List.length_pos_iff.2 b5;clear b5;obtain⟨h0,h5,_,_⟩:=jS hf;have Z:=Lib.hid (And.intro hx I);obtain⟨q,hq⟩:∃q,q=iR n l:=⟨_,rfl⟩;have S:=AH w1 n _ l (hv.below B (Nat.le_refl _));rw[<-hq]at S b4 U A;have c5:=Lib.hid S;have HQ:=Lib.hid hq;have Y:=Lib.hid U;clear hx I hf S hq U;go_wp2_with fail;clear G;refine c5.out.mono ?_;rintro e w2 ⟨p,i,cc,rfl,o,b2⟩;have K:=K.keep b2;have B1:=B.after b2 B.size;have hi:i=q.length:=by
   obtain⟨_,_,h⟩:=o.shape
   injection h
  subst hi;obtain⟨a1,bq,L,c1,e6,d0,D,R,F⟩:=o.ints.view Tryz.prog 22 3 Tryz.underlying22 aG
  injection e6 with h1 h2 h3
  subst h1 h3;have hM:=bJ n.toNat 5 (by omega);obtain⟨M,a6⟩:∃M:Int,M=2^n.toNat-1:=⟨_,rfl⟩;have f9:0<=M/\M<64:=by have h1:=hM.1;have h2:=hM.2;simp at h1;omega
  have b9:=Lib.hid a6;have e5:=Y.out _ (List.getElem_mem A);have O:iS M q 1=q[0]:=by
   show cQ M (q.getD 0 0)=_;rw[aJ q 0 A];unfold cQ;have e1:∀y:Nat,y<2^n.toNat->(2^n.toNat-1) &&& y=y:=fun y hy=>by rw[Nat.and_comm,Nat.and_two_pow_sub_one_eq_mod];exact Nat.mod_eq_of_lt hy
   have h4:((2^n.toNat:Nat):Int)=(2:Int)^n.toNat:=by push_cast;rfl
   have hp:=Nat.two_pow_pos n.toNat;have c7:M.toNat=2^n.toNat-1:=by omega
   rw[c7,e1 _ (by omega)];omega
  have c0:w2.cell? ⟨bq,L,none⟩=some (.int .i64 q[0]):=R 0 A;have i0:∀W,(Instr.indexAt 22 (.slice p q.length cc) (.int .i64 0)).run Tryz.prog W=.ok (.pointer (some ⟨bq,L,none⟩)) W:=fun W=>D W 0 A;obtain⟨q0,b3⟩:∃q0,q0=q[0]:=⟨_,rfl⟩;rw[<-b3]at O c0 e5;have N:=Lib.hid O;clear hM a6 o b3 O;go_wp2_with fail;go_loop [6,7] (fun m i=>∃k:Nat,1<=k/\k<=q.length/\i=.int .i64 k/\m=.int .i64 (iS M q k)/\0<=iS M q k/\iS M q k<64) (fun _ i=>q.length-(intOf i).toNat)
  case atStart=>exact⟨1,Nat.le_refl _,A,rfl,by rw[N.out],by rw[N.out];omega,by rw[N.out];omega⟩
  case round=>
   obtain⟨k,g2,hk,rfl,rfl,F,a7⟩:=hrel
   by_cases hlt:k<q.length
   ·have a9:(k:Int)<(q.length:Int):=by omega
    have ck:=R k hlt;have ik:=fun W=>D W k hlt;have hm:=Y.out _ (List.getElem_mem hlt);have hn:iS M q (k+1)=cQ (iS M q k) q[k]:=by rw[iS,aJ q k hlt]
    obtain⟨y,hy⟩:∃y,y=q[k]:=⟨_,rfl⟩;obtain⟨z,hz⟩:∃z,z=iS M q k:=⟨_,rfl⟩;rw[<-hy]at ck hm hn;rw[<-hz]at hn F a7 ⊢;have g1:=oO F (by omega) hm.1 (by omega);have Q:=MR z y 64 F a7;rw[<-hn]at Q;have HN:=Lib.hid hn;have b8:=Lib.hid Q;clear hn Q hy hz hm R D;go_wp2;go_round
    case rel=>exact⟨k+1,by omega,by omega,by go_num,by rw[HN.out],b8.out⟩
    case measure=>simp[intOf];omega
   ·have a9:¬(k:Int)<(q.length:Int):=by omega
    have a8:k=q.length:=by omega
    have HK:=Lib.hid a8;clear a8;go_wp2;go_ret2;exact⟨by rw[Z.out.1,Z.out.2,<-HQ.out,<-b9.out,<-HK.out];rfl,B1⟩
end
section
open Go.RowKit Go.G5
def eV(n:Int)(l x m:List Int):Bool:=cY n l&&dZ n l x&&cR n m
def dA(n:Int)(l x m:List Int):Nat->List Int
 |0=>x
 |k+1=>if (dA n l x m k).getD k 0<m.getD k 0 then (dA n l x m k).set k (min ((dA n l x m k).getD k 0+iA n l (dA n l x m k) k) (m.getD k 0)) else dA n l x m k
def kX(n:Int)(l x m:List Int):List Int:=if eV n l x m then dA n l x m x.length else []
theorem tZ(n:Int)(l x m:List Int):∀k,(dA n l x m k).length=x.length:=by
 intro k
 induction k with
 |zero=>rfl
 |succ k ih=>rw[dA];split<;>simp[ih]
theorem MM(n:Int)(l x m:List Int)(M:m.length=x.length)(I:∀k,(D:k<x.length)->-5000<=x[k]/\x[k]<=5000)(z:∀k,(D:k<m.length)->-5000<=m[k]/\m[k]<=5000):∀k,k<=x.length->∀y∈dA n l x m k,-5000<=y/\y<=5000:=by
 intro k
 induction k with
 |zero=>
  intro _ y o;obtain⟨i,F,rfl⟩:=List.getElem_of_mem o;exact I i F
 |succ k ih=>
  intro D y o;have ih:=ih (by omega);rw[dA]at o
  by_cases A:(dA n l x m k).getD k 0<m.getD k 0
  ·rw[if_pos A]at o
   rcases List.mem_or_eq_of_mem_set o with o|o
   ·exact ih y o
   ·have L:=tZ n l x m k
    have h1:(dA n l x m k).getD k 0=(dA n l x m k)[k]'(by omega):=aJ _ k (by omega);have h2:m.getD k 0=m[k]'(by omega):=aJ _ k (by omega);have h3:=ih _ (List.getElem_mem (show k<(dA n l x m k).length by omega));have h4:=z k (by omega);have K:=BQ n l (dA n l x m k) k;rw[h1,h2]at o;omega
  ·rw[if_neg A]at o
   exact ih y o
theorem J6{n:Int}{l x m:List Int}(h:eV n l x m=true):∃N:Nat,n=N/\N<=5/\x.length=N/\m.length=x.length/\(∀k,(F:k<x.length)->-5000<=x[k]/\x[k]<=5000)/\(∀k,(F:k<m.length)->-5000<=m[k]/\m[k]<=5000):=by
 unfold eV at h;simp only[Bool.and_eq_true]at h;obtain⟨⟨_,h2⟩,h3⟩:=h;obtain⟨N,rfl,o,_,_,A,_,z,_⟩:=sY h2;obtain⟨h4,D⟩:=iV h3;exact⟨N,rfl,o,A,by omega,z,D⟩
theorem OG(w:World)(n:Int)(v:Value)(l:List Int)(hv:aD w v l)(hl:l.length<=1048576)(u:Value)(x:List Int)(hu:aD w u x)(t:Value)(m:List Int)(ht:aD w t m):
  Calls Tryz.prog 128 #[.agg #[.int .i64 n,v],u,t] w fun e' w'=>∃ad i c,e'=.returned (.tuple #[.slice ad i c,.bool (eV n l x m)])/\aC 3 w.heap.size w' (.slice ad i c) (kX n l x m)/\Below w.heap.size w w':=by
 obtain⟨a,c,rfl⟩:=hv.shape;obtain⟨b,cu,rfl⟩:=hu.shape;obtain⟨bt,bq,f2,ct,rfl,g5,Z,c9,g3⟩:=ht.view Tryz.prog 22 3 Tryz.underlying22 aG;obtain⟨V,hV⟩:∃V,V=w.alloc (.cells #[.int .i64 n,.slice a l.length c] 32):=⟨_,rfl⟩;have B:Below w.heap.size w V:=by rw[hV];exact aM _ _
 have K:aB V w.heap.size 32 #[.int .i64 n,.slice a l.length c]:=by rw[hV];exact aB.new _ _ _
 go_enter Tryz.func128,Tryz.ntmps128;go_wp2_with fail;rw[<-hV];clear hV;refine(jP n l _ V (hv.below B (Nat.le_refl _)) hl).mono ?_;rintro e' w1 ⟨rfl,b1⟩;have K:=K.keep b1;have B:=B.after b1 B.size;have G:=K.cell
 cases hs:cY n l with
 |false=>
  have D:eV n l x m=false:=by unfold eV;rw[hs];rfl
  have M:kX n l x m=[]:=by unfold kX;rw[D];rfl
  have I:=Lib.hid (And.intro D M);clear D M hs;go_wp2;go_ret2;exact⟨none,0,0,by rw[I.out.1];rfl,by rw[I.out.2];exact aC.nil _ _ _,B⟩
 |true=>
 go_wp2_with fail;clear G;refine(lU w1 n _ l (hv.below B (Nat.le_refl _)) _ x (hu.below B (Nat.le_refl _))).mono ?_;rintro e' w2 ⟨rfl,b2⟩;have K:=K.keep b2;have B:=B.after b2 B.size;have G:=K.cell
 cases hb:dZ n l x with
 |false=>
  have D:eV n l x m=false:=by unfold eV;rw[hb];simp
  have M:kX n l x m=[]:=by unfold kX;rw[D];rfl
  have I:=Lib.hid (And.intro D M);clear D M hs hb;go_wp2;go_ret2;exact⟨none,0,0,by rw[I.out.1];rfl,by rw[I.out.2];exact aC.nil _ _ _,B⟩
 |true=>
 go_wp2_with fail;clear G;refine(zO n l _ m _ w2 (hv.below B (Nat.le_refl _)) (ht.below B (Nat.le_refl _))).mono ?_;rintro e' w3 ⟨rfl,b3⟩;have K:=K.keep b3;have B:=B.after b3 B.size;have G:=K.cell
 cases U:cR n m with
 |false=>
  have D:eV n l x m=false:=by unfold eV;rw[U];simp
  have M:kX n l x m=[]:=by unfold kX;rw[D];rfl
  have I:=Lib.hid (And.intro D M);clear D M hs hb U;go_wp2;go_ret2;exact⟨none,0,0,by rw[I.out.1];rfl,by rw[I.out.2];exact aC.nil _ _ _,B⟩
 |true=>
 have D:eV n l x m=true:=by unfold eV;rw[hs,hb,U];rfl
 have M:kX n l x m=dA n l x m x.length:=by unfold kX;rw[D];rfl
 obtain⟨N,rfl,j3,f0,a9,e9,a8⟩:=J6 D;have f5:=Lib.hid (MM N l x m a9 e9 a8);have f7:=Lib.hid a8;have I:=Lib.hid (And.intro D M);have f8:=Lib.hid a9;have c7:=Lib.hid f0;clear D M hs hb U e9 a8 a9 f0;go_wp2_with fail;clear G;refine(pY _ x w3 (hu.below B (Nat.le_refl _)) (by have:=c7.out;omega)).mono ?_;rintro e' w4 ⟨p,i,q,rfl,o,b4⟩;have zk:=K.lt;have L:∀g,(Value.slice p i q).ownBlock=some g->w.heap.size<g:=fun g h=>by have:=(o.lt g h).1;omega
 have K:=K.keep b4;have o:=o.mono (B':=w.heap.size) B.size;have B:=B.after b4 B.size;have hi:i=x.length:=by
  obtain⟨_,_,h⟩:=o.shape
  injection h
 subst hi;go_wp2_with fail;go_loopw [31] (fun i wr=>∃k:Nat,k<=x.length/\i=.int .i64 k/\aC 3 w.heap.size wr (.slice p x.length q) (dA N l x m k)/\(∀g,(Value.slice p x.length q).ownBlock=some g->w.heap.size<g)/\aB wr w.heap.size 32 #[.int .i64 (N:Int),.slice a l.length c]/\Below w.heap.size w wr) (fun i _=>x.length-(intOf i).toNat)
 case atStart=>exact⟨0,Nat.zero_le _,rfl,o,L,K,B⟩
 case round=>
  clear L;obtain⟨k,hk,rfl,ow,L,Kr,Br⟩:=hrel;clear o K B;have HO:=Lib.hid ow;have O:=Lib.hid L;clear ow L
  by_cases hlt:k<x.length
  ·have e4:(k:Int)<(x.length:Int):=by omega
   have F:=tZ N l x m k
   rcases HO.out.cases with⟨h1,h2⟩|⟨g,cap,h1,j4,j5⟩
   ·rw[h2]at F;simp at F;omega
   ·injection h1 with h1 h3 h4
    subst h1 h4;have j6:=O.out g rfl;clear h3;have R:k<(dA N l x m k).length:=by omega
    have co:=HO.out.cellAt F.symm k R;have ob:=f5.out k hk _ (List.getElem_mem R);have e7:(dA N l x m k).getD k 0=(dA N l x m k)[k]:=aJ _ k R;have Q:k<m.length:=by have:=f8.out;omega
    have cm:=aK c9 g3 Br (Nat.le_refl _) k Q;have im:=fun W=>Z W k Q;have mb:=f7.out k Q;have e5:m.getD k 0=m[k]:=aJ _ k Q;have g4:=BQ N l (dA N l x m k) k;have Y:dA N l x m (k+1)=if (dA N l x m k).getD k 0<m.getD k 0 then (dA N l x m k).set k (min ((dA N l x m k).getD k 0+iA N l (dA N l x m k) k) (m.getD k 0)) else dA N l x m k:=rfl;rw[e7,e5]at Y;have a7:=fun(W:World) (h1:aD W (.slice a l.length c) l) (h2:aD W (.slice (some ⟨g,0,none⟩) x.length q) (dA N l x m k))=>E0 W N _ l h1 _ _ h2 k (by have:=c7.out;omega);obtain⟨C,hC⟩:∃C,C=iA N l (dA N l x m k) k:=⟨_,rfl⟩;obtain⟨A,b6⟩:∃A,A=(dA N l x m k)[k]:=⟨_,rfl⟩;obtain⟨mv,b0⟩:∃mv,mv=m[k]:=⟨_,rfl⟩;simp only[<-hC]at a7;rw[<-hC,<-b6,<-b0]at Y;rw[<-hC]at g4;rw[<-b6]at co ob;rw[<-b0]at cm mb;have f6:=Lib.hid a7;have c6:=Lib.hid Y;have c5:=Lib.hid F;have fo:=HO.out.frozenAt F.symm k;have G:=Kr.cell;clear a7 Y F hC b6 b0 e7 e5 R c9 Z
    by_cases e0:A<mv
    ·have a1:=Lib.hid e0
     go_wp2;go_quiet (fail);go_wp2_with fail;refine(f6.out _ (hv.below (Br.drewN' _) (Nat.le_refl _)) (HO.out.drewN _).ints).mono ?_;rintro e' w5 ⟨rfl,b5⟩;have K5:=(Kr.drewN nq).keep b5;have o5:=(HO.out.drewN nq).keep b5;have B5:=(Br.drewN' nq).after b5 (Br.drewN' nq).size;have j0:=keep b5 (show(wr.drewN nq).cell? ⟨g,k,none⟩=some (.int .i64 A) from co);have i8:=keep b5 (show(wr.drewN nq).cell? ⟨bq,f2+k,none⟩=some (.int .i64 mv) from cm);have j2:=o5.frozenAt c5.out.symm k;have k1:IntKind.i64.wrap (A+C)=A+C:=IntWalk.i64_in _ ⟨by omega,by omega⟩;have f9:=Lib.hid o5;clear co cm fo G o5;go_wp2;go_region
     all_goals go_wp2
     go_roundw
     case rel=>
      have S:∀z,aC 3 w.heap.size ((w5.drewN z).setCell ⟨g,k,none⟩ (.int .i64 (if mv<A+C then mv else A+C))) (.slice (some ⟨g,0,none⟩) x.length q) (dA N l x m (k+1))/\aB ((w5.drewN z).setCell ⟨g,k,none⟩ (.int .i64 (if mv<A+C then mv else A+C))) w.heap.size 32 #[.int .i64 (N:Int),.slice a l.length c]/\Below w.heap.size w ((w5.drewN z).setCell ⟨g,k,none⟩ (.int .i64 (if mv<A+C then mv else A+C))):=by
       intro z;have e6:(if mv<A+C then mv else A+C)=min (A+C) mv:=by split<;>omega
       rw[e6];have s1:=(f9.out.drewN z).stored c5.out.symm k (min (A+C) mv) ⟨by omega,by omega⟩;rw[c6.out,if_pos a1.out];exact⟨s1.1,(K5.drewN z).far (by show w.heap.size≠g;omega) _,(B5.drewN' z).grown s1.2 (B5.drewN' z).size (fun q hq=>by have:=Option.some.inj hq;omega)⟩
      first|exact⟨k+1,by omega,by go_num,(S _).1,O.out,(S _).2.1,(S _).2.2⟩|(simp only[show(if mv<A+C then mv else A+C)=min (A+C) mv by split<;>omega]at S;exact⟨k+1,by omega,by go_num,(S _).1,O.out,(S _).2.1,(S _).2.2⟩)
     case measure=>simp[intOf];omega
    ·have a1:=Lib.hid e0
     go_wp2;go_quiet (fail);go_wp2;go_roundw
     case rel=>exact⟨k+1,by omega,by go_num,by rw[c6.out,if_neg (by have:=a1.out;omega)];exact HO.out.drewN _,O.out,Kr.drewN _,Br.drewN' _⟩
     case measure=>simp[intOf];omega
  ·have e4:¬(k:Int)<(x.length:Int):=by omega
   have d0:k=x.length:=by omega
   have HK:=Lib.hid d0;clear d0;go_wp2;go_ret2;have ho:=HO.out;rw[HK.out]at ho;exact⟨p,x.length,q,by rw[I.out.1];rfl,by rw[I.out.2];exact ho,Br⟩
end
section
open Go.RowKit Go.G5
theorem NR(w:World)(n:Int)(v:Value)(l:List Int)(hv:aD w v l)(hl:l.length<=1048576)(u:Value)(x:List Int)(hu:aD w u x)(t:Value)(m:List Int)(ht:aD w t m):
  Calls Tryz.prog 270 #[.agg #[.int .i64 n,v],u,t] w fun e' w'=>∃ad i c,e'=.returned (.tuple #[.slice ad i c,.bool (eV n l x m)])/\aC 3 w.heap.size w' (.slice ad i c) (kX n l x m)/\Below w.heap.size w w':=by
 obtain⟨a,c,rfl⟩:=hv.shape;obtain⟨b,cu,rfl⟩:=hu.shape;obtain⟨bt,bq,j3,ct,rfl,h5,a6,d0,g7⟩:=ht.view Tryz.prog 22 3 Tryz.underlying22 aG;obtain⟨V,hV⟩:∃V,V=w.alloc (.cells #[.int .i64 n,.slice a l.length c] 32):=⟨_,rfl⟩;have B:Below w.heap.size w V:=by rw[hV];exact aM _ _
 have K:aB V w.heap.size 32 #[.int .i64 n,.slice a l.length c]:=by rw[hV];exact aB.new _ _ _
 go_enter Tryz.func270,Tryz.ntmps270;go_wp2_with fail;rw[<-hV];clear hV;refine(iK n l _ V (hv.below B (Nat.le_refl _)) hl).mono ?_;rintro e' w1 ⟨rfl,b1⟩;have K:=K.keep b1;have B:=B.after b1 B.size;have G:=K.cell
 cases hs:cY n l with
 |false=>
  have D:eV n l x m=false:=by unfold eV;rw[hs];rfl
  have M:kX n l x m=[]:=by unfold kX;rw[D];rfl
  have L:=Lib.hid (And.intro D M);clear D M hs;go_wp2;go_ret2;exact⟨some ⟨w1.heap.size,0,none⟩,0,0,by rw[L.out.1];rfl,by rw[L.out.2];exact aC.lit0 _ B.size,B.after (aM _ _) B.size⟩
 |true=>
 go_wp2_with fail;clear G;refine(lQ w1 n _ l (hv.below B (Nat.le_refl _)) _ x (hu.below B (Nat.le_refl _))).mono ?_;rintro e' w2 ⟨rfl,b2⟩;have K:=K.keep b2;have B:=B.after b2 B.size;have G:=K.cell
 cases hb:dZ n l x with
 |false=>
  have D:eV n l x m=false:=by unfold eV;rw[hb];simp
  have M:kX n l x m=[]:=by unfold kX;rw[D];rfl
  have L:=Lib.hid (And.intro D M);clear D M hs hb;go_wp2;go_ret2;exact⟨some ⟨w2.heap.size,0,none⟩,0,0,by rw[L.out.1];rfl,by rw[L.out.2];exact aC.lit0 _ B.size,B.after (aM _ _) B.size⟩
 |true=>
 go_wp2_with fail;clear G;refine(qY m _ w2 (ht.below B (Nat.le_refl _))).mono ?_;rintro e' w3 ⟨rfl,rfl⟩;have G:=K.cell;have HN:=Lib.hid (show(x.length:Int)=n/\n<=5 from by
  obtain⟨N,hN,g5,_,_,k9,_,_,_⟩:=sY hb;exact⟨by omega,by omega⟩)
 cases Z:(dB m (-5000) 5000&&decide (m.length<=5)) with
 |false=>
  have F:cR n m=false:=by
   unfold cR
   cases g6:dB m (-5000) 5000 with
   |false=>simp
   |true=>
    rw[g6,Bool.true_and]at Z;have:=of_decide_eq_false Z;have:=HN.out;rw[decide_eq_false (by omega)];rfl
  have D:eV n l x m=false:=by unfold eV;rw[F];simp
  have M:kX n l x m=[]:=by unfold kX;rw[D];rfl
  have L:=Lib.hid (And.intro D M);clear D M hs hb F;go_wp2;go_ret2;exact⟨some ⟨w2.heap.size,0,none⟩,0,0,by rw[L.out.1];rfl,by rw[L.out.2];exact aC.lit0 _ B.size,B.after (aM _ _) B.size⟩
 |true=>
 by_cases I:m.length=x.length
 ·have F:cR n m=true:=by
   unfold cR;rw[(Bool.and_eq_true_iff.1 Z).1,decide_eq_true (by have:=HN.out;omega)]
   rfl
  have h6:((m.length:Int) != (x.length:Int))=false:=by simp[I]
  have D:eV n l x m=true:=by unfold eV;rw[hs,hb,F];rfl
  clear HN Z I;have M:kX n l x m=dA n l x m x.length:=by unfold kX;rw[D];rfl
  obtain⟨N,rfl,g5,f3,I,f2,a9⟩:=J6 D;have f9:=Lib.hid (MM N l x m I f2 a9);have g1:=Lib.hid a9;have L:=Lib.hid (And.intro D M);have g2:=Lib.hid I;have c7:=Lib.hid f3;clear D M hs hb F f2 a9 I f3;have f0:=hu.below B (Nat.le_refl _);have h8:x.length<=5:=by have:=c7.out;omega
  go_wp2_with (at_builtin;(refine tR rfl _ _ _ rfl 3 Tryz.underlying22 aG w2.heap.size _ [] rfl (aC.lit0 w2 (Nat.le_refl _)) _ x rfl (f0.alloc _) (by simp;omega) (by simp) ?_);intro v' w4 o e0;obtain⟨p,i,q,rfl⟩:=o.shape3);have b4:Below w2.heap.size w2 w4:=(aM w2 (.cells #[] 3)).grown e0 (by simp) (fun k hk=>by
   have h0:some w2.heap.size=some k:=hk;exact Nat.le_of_eq (Option.some.inj h0))
  have o:aC 3 w2.heap.size w4 (.slice p i q) x:=by simpa using o
  clear e0 h8 f0;have zk:=K.lt;have R:∀g,(Value.slice p i q).ownBlock=some g->w.heap.size<g:=fun g h=>by have:=(o.lt g h).1;omega
  have K:=K.keep b4;have o:=o.mono (B':=w.heap.size) B.size;have B:=B.after b4 B.size;have hi:i=x.length:=by
   obtain⟨_,_,h⟩:=o.shape
   injection h
  subst hi;go_loopw [9] (fun i wr=>∃k:Nat,k<=x.length/\i=.int .i64 k/\aC 3 w.heap.size wr (.slice p x.length q) (dA N l x m k)/\(∀g,(Value.slice p x.length q).ownBlock=some g->w.heap.size<g)/\aB wr w.heap.size 32 #[.int .i64 (N:Int),.slice a l.length c]/\Below w.heap.size w wr) (fun i _=>x.length-(intOf i).toNat)
  case atStart=>exact⟨0,Nat.zero_le _,rfl,o,R,K,B⟩
  case round=>
   clear R;obtain⟨k,hk,rfl,ow,R,Kr,Br⟩:=hrel;clear o K B;have HO:=Lib.hid ow;have Q:=Lib.hid R;clear ow R
   by_cases hlt:k<x.length
   ·have e6:(k:Int)<(x.length:Int):=by omega
    have O:=tZ N l x m k
    rcases HO.out.cases with⟨h1,h2⟩|⟨g,cap,h1,k2,k3⟩
    ·rw[h2]at O;simp at O;omega
    ·injection h1 with h1 h3 h4
     subst h1 h4;have k4:=Q.out g rfl;clear h3;have Y:k<(dA N l x m k).length:=by omega
     have co:=HO.out.cellAt O.symm k Y;have ob:=f9.out k hk _ (List.getElem_mem Y);have e9:(dA N l x m k).getD k 0=(dA N l x m k)[k]:=aJ _ k Y;have U:k<m.length:=by have:=g2.out;omega
     have cm:=aK d0 g7 Br (Nat.le_refl _) k U;have im:=fun W=>a6 W k U;have mb:=g1.out k U;have e7:m.getD k 0=m[k]:=aJ _ k U;have g8:=BQ N l (dA N l x m k) k;have a1:dA N l x m (k+1)=if (dA N l x m k).getD k 0<m.getD k 0 then (dA N l x m k).set k (min ((dA N l x m k).getD k 0+iA N l (dA N l x m k) k) (m.getD k 0)) else dA N l x m k:=rfl;rw[e9,e7]at a1;have a8:=fun(W:World) (h1:aD W (.slice a l.length c) l) (h2:aD W (.slice (some ⟨g,0,none⟩) x.length q) (dA N l x m k))=>FL W N _ l h1 _ _ h2 k (by have:=c7.out;omega);obtain⟨C,hC⟩:∃C,C=iA N l (dA N l x m k) k:=⟨_,rfl⟩;obtain⟨A,b3⟩:∃A,A=(dA N l x m k)[k]:=⟨_,rfl⟩;obtain⟨mv,b0⟩:∃mv,mv=m[k]:=⟨_,rfl⟩;simp only[<-hC]at a8;rw[<-hC,<-b3,<-b0]at a1;rw[<-hC]at g8;rw[<-b3]at co ob;rw[<-b0]at cm mb;have g0:=Lib.hid a8;have c5:=Lib.hid a1;have b9:=Lib.hid O;have fo:=HO.out.frozenAt O.symm k;have G:=Kr.cell;clear a8 a1 O hC b3 b0 e9 e7 Y d0 a6;go_wp2_with fail;refine(g0.out _ (hv.below Br (Nat.le_refl _)) HO.out.ints).mono ?_;rintro e' w5 ⟨rfl,b5⟩;have K5:=Kr.keep b5;have o5:=HO.out.keep b5;have B5:=Br.after b5 Br.size;have j9:=keep b5 co;have j8:=keep b5 cm;have k1:=o5.frozenAt b9.out.symm k;have k8:IntKind.i64.wrap (A+C)=A+C:=IntWalk.i64_in _ ⟨by omega,by omega⟩;have c6:=Lib.hid o5;clear co cm fo G o5
     by_cases e5:A<mv
     ·have a7:=Lib.hid e5
      go_wp2;go_quiet (fail);go_wp2;go_region
      all_goals go_wp2
      go_roundw
      case rel=>
       have S:∀z,aC 3 w.heap.size ((w5.drewN z).setCell ⟨g,k,none⟩ (.int .i64 (if A+C<mv then A+C else mv))) (.slice (some ⟨g,0,none⟩) x.length q) (dA N l x m (k+1))/\aB ((w5.drewN z).setCell ⟨g,k,none⟩ (.int .i64 (if A+C<mv then A+C else mv))) w.heap.size 32 #[.int .i64 (N:Int),.slice a l.length c]/\Below w.heap.size w ((w5.drewN z).setCell ⟨g,k,none⟩ (.int .i64 (if A+C<mv then A+C else mv))):=by
        intro z;have e8:(if A+C<mv then A+C else mv)=min (A+C) mv:=by split<;>omega
        rw[e8];have s1:=(c6.out.drewN z).stored b9.out.symm k (min (A+C) mv) ⟨by omega,by omega⟩;rw[c5.out,if_pos a7.out];exact⟨s1.1,(K5.drewN z).far (by show w.heap.size≠g;omega) _,(B5.drewN' z).grown s1.2 (B5.drewN' z).size (fun q hq=>by have:=Option.some.inj hq;omega)⟩
       first|exact⟨k+1,by omega,by go_num,(S _).1,Q.out,(S _).2.1,(S _).2.2⟩|(simp only[show(if A+C<mv then A+C else mv)=min (A+C) mv by split<;>omega]at S;exact⟨k+1,by omega,by go_num,(S _).1,Q.out,(S _).2.1,(S _).2.2⟩)|(simp only[show(if A+C<mv then A+C else mv)=min mv (A+C) by split<;>omega]at S;exact⟨k+1,by omega,by go_num,(S _).1,Q.out,(S _).2.1,(S _).2.2⟩)
      case measure=>simp[intOf];omega
     ·have a7:=Lib.hid e5
      go_wp2;go_quiet (fail);go_wp2;go_roundw
      case rel=>exact⟨k+1,by omega,by go_num,by rw[c5.out,if_neg (by have:=a7.out;omega)];exact c6.out.drewN _,Q.out,K5.drewN _,B5.drewN' _⟩
      case measure=>simp[intOf];omega
   ·have e6:¬(k:Int)<(x.length:Int):=by omega
    have e4:k=x.length:=by omega
    have HK:=Lib.hid e4;clear e4;go_wp2;go_ret2;have ho:=HO.out;rw[HK.out]at ho;exact⟨p,x.length,q,by rw[L.out.1];rfl,by rw[L.out.2];exact ho,Br⟩
 ·have F:cR n m=false:=by
   unfold cR;rw[decide_eq_false (by have:=HN.out;omega)];rfl
  have h6:((m.length:Int) != (x.length:Int))=true:=by simp;omega
  have D:eV n l x m=false:=by unfold eV;rw[F];simp
  have M:kX n l x m=[]:=by unfold kX;rw[D];rfl
  have L:=Lib.hid (And.intro D M);clear D M hs hb F I;go_wp2;go_ret2;exact⟨some ⟨w2.heap.size,0,none⟩,0,0,by rw[L.out.1];rfl,by rw[L.out.2];exact aC.lit0 _ B.size,B.after (aM _ _) B.size⟩
end
end Go.Proofs.YtipejodijbjpcaaGreatDoor
