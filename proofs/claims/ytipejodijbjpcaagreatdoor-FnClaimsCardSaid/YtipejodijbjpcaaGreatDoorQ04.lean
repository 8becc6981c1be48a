/- Lemmas for CardClaims, part 4 of 52. No condition. -/
import Derived.Test.YtipejodijbjpcaaGreatDoorQ02
import Derived.Test.YtipejodijbjpcaaGreatDoorQ03
import Derived.Laws.IdiomStrings
import Derived.Deep.Light
set_option maxRecDepth 100000
set_option maxHeartbeats 64000000
namespace Go.Proofs.YtipejodijbjpcaaGreatDoor
section
open Go.RowKit Go.G5
theorem XX(w:World)(r:Nat)(hr:r<10):(convert 58 9 (.slice (some ⟨w.heap.size,0,none⟩) 1 1)).run Tryz.prog (w.alloc (.cells #[.int .u8 (48+(r:Int))] 5))=.ok (.string ⟨#[UInt8.ofNat (48+r)]⟩) (w.alloc (.cells #[.int .u8 (48+(r:Int))] 5)):=by
 refine run_convert_bytes_back (P:=Tryz.prog) _ 58 9 5 ⟨w.heap.size,0,none⟩ 1 [UInt8.ofNat (48+r)] Tryz.underlying58 Tryz.underlying5 Tryz.underlying9 ?_;intro j z;have o:j=0:=by simpa using z
 subst o;have h1:(UInt8.ofNat (48+r)).toNat=48+r:=by
  rw[UInt8.toNat_ofNat'];omega
 show(w.alloc _).cell? ⟨w.heap.size,0,none⟩=some (.int .u8 ((UInt8.ofNat (48+r)).toNat:Int));rw[aT w _ _ 0 (.int .u8 (48+(r:Int))) rfl,h1]
 congr 2
theorem VQ(r:Nat):UInt8.ofNat (48+r)=48+UInt8.ofNat r:=by simp
theorem bG{a b:ByteArray}(h:a=b):Ending.returned (.string a)=.returned (.string b):=by rw[h]
theorem N8:cE 0=⟨#[48]⟩:=by
 refine kI ?_;show Lib.itoa 0=[48];unfold Lib.itoa;rw[if_neg (by decide),Lib.decDigits];rfl
theorem PV(k:Nat)(b:ByteArray)(h:0<k)(hb:b.data.toList=iZ k):cE (k:Int)=b:=by
 refine kI ?_;rw[hb];show Lib.itoa (k:Int)=_;unfold Lib.itoa iZ;rw[if_neg (by omega),if_neg (by omega),Int.toNat_natCast]
theorem QM(k:Nat)(b:ByteArray)(h:0<k)(hb:b.data.toList=iZ k):cE (-(k:Int))=⟨#[45]⟩++b:=by
 refine kI ?_;rw[sV,hb];show Lib.itoa (-(k:Int))=[45]++_;unfold Lib.itoa iZ;rw[if_pos (by omega),if_neg (by omega),Int.natAbs_neg,Int.natAbs_natCast];rfl
theorem S9(k:Nat)(h:k<10^20):(iZ k).length<=20:=by
 unfold iZ
 split
 ·simp
 ·exact mS 20 k h (by decide)
theorem EN(j k:Nat)(b:ByteArray)(o:0<j)(h:iZ j++b.data.toList=iZ k):iZ (j/10)++((⟨#[UInt8.ofNat (48+j%10)]⟩:ByteArray)++b).data.toList=iZ k:=by
 rw[sV,<-h,QV j o,List.append_assoc]
theorem JY(j k:Nat)(b:ByteArray)(o:k<10^20)(h:iZ j++b.data.toList=iZ k):b.size<=20:=by
 have h1:=S9 k o;rw[<-h,List.length_append]at h1;rw[oJ];omega
theorem XV(m:Int):(Int.tmod m 10).natAbs=m.natAbs%10/\(Int.tdiv m 10).natAbs=m.natAbs/10/\(0<=m->0<=Int.tmod m 10/\0<=Int.tdiv m 10)/\(m<=0->Int.tmod m 10<=0/\Int.tdiv m 10<=0):=by
 rcases Int.le_total 0 m with h|h
 ·obtain⟨k,rfl⟩:=Int.eq_ofNat_of_zero_le h
  have e1:Int.tmod (k:Int) 10=((k%10:Nat):Int):=by rw[Int.tmod_eq_emod_of_nonneg (by omega)];rfl
  have e2:Int.tdiv (k:Int) 10=((k/10:Nat):Int):=by rw[Int.tdiv_eq_ediv_of_nonneg (by omega)];rfl
  rw[e1,e2];refine⟨by omega,by omega,fun _=>⟨by omega,by omega⟩,fun h2=>?_⟩;have:k=0:=by omega
  subst this;simp
 ·obtain⟨k,rfl⟩:∃k:Nat,m=-(k:Int):=⟨m.natAbs,by omega⟩
  have e1:Int.tmod (-(k:Int)) 10=-((k%10:Nat):Int):=by rw[Int.neg_tmod,Int.tmod_eq_emod_of_nonneg (by omega)];rfl
  have e2:Int.tdiv (-(k:Int)) 10=-((k/10:Nat):Int):=by rw[Int.neg_tdiv,Int.tdiv_eq_ediv_of_nonneg (by omega)];rfl
  rw[e1,e2];refine⟨by omega,by omega,fun h2=>?_,fun _=>⟨by omega,by omega⟩⟩;have:k=0:=by omega
  subst this;simp
theorem uE(n:Int)(hn:bA n)(w:World):
  Calls Tryz.prog 75 #[.int .i64 n] w fun e w'=>e=.returned (.string (cE n))/\Below w.heap.size w w':=by
 have hk:n.natAbs<10^20:=by have:=hn.1;have:=hn.2;omega
 by_cases a9:n=0
 ·subst a9
  go_enter Tryz.func75,Tryz.ntmps75;go_wp2;go_ret;exact⟨bG N8.symm,Below.refl _ _⟩
 ·have c7:(n==0)=false:=by simpa using a9
  by_cases S:n<0
  ·have hlt:decide (n<0)=true:=decide_eq_true S
   go_enter Tryz.func75,Tryz.ntmps75;go_wp2_with fail;go_loopw [0,3] (fun nv sv wr=>∃(m:Int) (b:ByteArray),nv=.int .i64 m/\sv=.string b/\(n<0->m<=0)/\(0<n->0<=m)/\bA m/\iZ m.natAbs++b.data.toList=iZ n.natAbs/\Below w.heap.size w wr) (fun nv _ _=>(intOf nv).natAbs)
   case atStart=>exact⟨n,⟨#[]⟩,rfl,rfl,fun h=>by omega,fun h=>by omega,hn,by simp,Below.refl _ _⟩
   case round=>
    obtain⟨m,b,rfl,rfl,I,K,F,hd,B⟩:=hrel;have b3:=JY _ _ b hk hd;have R:=Lib.hid hd;clear hd
    by_cases Q:m=0
    ·subst Q
     have N:b.data.toList=iZ n.natAbs:=by simpa[iZ]using R.out
     have U:=Lib.hid N;clear N R I K F;go_wp2;go_ret;exact⟨bG ((congrArg cE (show n=-(n.natAbs:Int) by omega)).trans (QM n.natAbs b (by omega) U.out)).symm,B⟩
    ·have ht:=XV m
     have b5:(m==0)=false:=by simpa using Q
     obtain⟨d,Y⟩:∃d,Int.tmod m 10=d:=⟨_,rfl⟩;obtain⟨q,a6⟩:∃q,Int.tdiv m 10=q:=⟨_,rfl⟩;rw[Y,a6]at ht;obtain⟨t1,t2,t3,t4⟩:=ht;have o:=EN m.natAbs n.natAbs b (by omega) R.out;rw[<-t1,<-t2]at o;have z:bA q:=by
      have:=F.1;have:=F.2;exact⟨by omega,by omega⟩
     have wq:IntKind.i64.wrap q=q:=by rw[IntKind.wrap_i64];have:=z.1;have:=z.2;omega
     have A:n<0->q<=0:=fun h=>(t4 (I h)).2;have D:0<n->0<=q:=fun h=>(t3 (K h)).2;have O:d.natAbs<10:=by omega
     have b6:q.natAbs<m.natAbs:=by omega
     obtain⟨r,hr⟩:∃r:Nat,r=d.natAbs:=⟨_,rfl⟩;rw[<-hr]at o O;rw[VQ]at o;have HM:=Lib.hid o;have L:=Lib.hid A;have M:=Lib.hid D;have hu:(48+(r:Int))%256=48+r:=by omega
     have b8:IntKind.u8.wrap (48+(r:Int))=48+r:=by simp[IntKind.wrap,IntKind.bits,IntKind.signed];omega
     have b4:=XX wr r O;have c5:IntKind.i64.wrap (48+(r:Int))=48+r:=by rw[IntKind.wrap_i64];omega
     clear o A D R I K t1 t2 t3 t4
     by_cases Z:d<0
     ·have b7:IntKind.i64.wrap (-d)=(r:Int):=by rw[IntKind.wrap_i64];omega
      clear hr;go_wp2;go_roundw
      case rel=>exact⟨q,_,rfl,rfl,L.out,M.out,z,HM.out,B.alloc B.size _⟩
      case measure=>simp[intOf];omega
     ·have a1:d=(r:Int):=by omega
      subst a1;clear hr Z;go_wp2;go_roundw
      case rel=>exact⟨q,_,rfl,rfl,L.out,M.out,z,HM.out,B.alloc B.size _⟩
      case measure=>simp[intOf];omega
  ·have hlt:decide (n<0)=false:=decide_eq_false S
   go_enter Tryz.func75,Tryz.ntmps75;go_wp2_with fail;go_loopw [0,3] (fun nv sv wr=>∃(m:Int) (b:ByteArray),nv=.int .i64 m/\sv=.string b/\(n<0->m<=0)/\(0<n->0<=m)/\bA m/\iZ m.natAbs++b.data.toList=iZ n.natAbs/\Below w.heap.size w wr) (fun nv _ _=>(intOf nv).natAbs)
   case atStart=>exact⟨n,⟨#[]⟩,rfl,rfl,fun h=>by omega,fun h=>by omega,hn,by simp,Below.refl _ _⟩
   case round=>
    obtain⟨m,b,rfl,rfl,I,K,F,hd,B⟩:=hrel;have b3:=JY _ _ b hk hd;have R:=Lib.hid hd;clear hd
    by_cases Q:m=0
    ·subst Q
     have N:b.data.toList=iZ n.natAbs:=by simpa[iZ]using R.out
     have U:=Lib.hid N;clear N R I K F;go_wp2;go_ret;exact⟨bG ((congrArg cE (show n=(n.natAbs:Int) by omega)).trans (PV n.natAbs b (by omega) U.out)).symm,B⟩
    ·have ht:=XV m
     have b5:(m==0)=false:=by simpa using Q
     obtain⟨d,Y⟩:∃d,Int.tmod m 10=d:=⟨_,rfl⟩;obtain⟨q,a6⟩:∃q,Int.tdiv m 10=q:=⟨_,rfl⟩;rw[Y,a6]at ht;obtain⟨t1,t2,t3,t4⟩:=ht;have o:=EN m.natAbs n.natAbs b (by omega) R.out;rw[<-t1,<-t2]at o;have z:bA q:=by
      have:=F.1;have:=F.2;exact⟨by omega,by omega⟩
     have wq:IntKind.i64.wrap q=q:=by rw[IntKind.wrap_i64];have:=z.1;have:=z.2;omega
     have A:n<0->q<=0:=fun h=>(t4 (I h)).2;have D:0<n->0<=q:=fun h=>(t3 (K h)).2;have O:d.natAbs<10:=by omega
     have b6:q.natAbs<m.natAbs:=by omega
     obtain⟨r,hr⟩:∃r:Nat,r=d.natAbs:=⟨_,rfl⟩;rw[<-hr]at o O;rw[VQ]at o;have HM:=Lib.hid o;have L:=Lib.hid A;have M:=Lib.hid D;have hu:(48+(r:Int))%256=48+r:=by omega
     have b8:IntKind.u8.wrap (48+(r:Int))=48+r:=by simp[IntKind.wrap,IntKind.bits,IntKind.signed];omega
     have b4:=XX wr r O;have c5:IntKind.i64.wrap (48+(r:Int))=48+r:=by rw[IntKind.wrap_i64];omega
     clear o A D R I K t1 t2 t3 t4
     by_cases Z:d<0
     ·have b7:IntKind.i64.wrap (-d)=(r:Int):=by rw[IntKind.wrap_i64];omega
      clear hr;go_wp2;go_roundw
      case rel=>exact⟨q,_,rfl,rfl,L.out,M.out,z,HM.out,B.alloc B.size _⟩
      case measure=>simp[intOf];omega
     ·have a1:d=(r:Int):=by omega
      subst a1;clear hr Z;go_wp2;go_roundw
      case rel=>exact⟨q,_,rfl,rfl,L.out,M.out,z,HM.out,B.alloc B.size _⟩
      case measure=>simp[intOf];omega
end
section
open Go.RowKit Go.G5
def bO(n:Nat)(s:Int):Bool:=decide (0<=s)&&decide (s<2^n)
theorem eN{n:Nat}{s:Int}:bO n s=true↔0<=s/\s<2^n:=by simp[bO]
theorem pQ(n:Nat)(s:Int):cM s 0 (2^n-1)=bO n s:=by
 unfold cM bO
 by_cases h:s<2^n
 ·rw[decide_eq_true h,decide_eq_true (show s<=2^n-1 by omega)]
 ·rw[decide_eq_false h,decide_eq_false (show ¬s<=2^n-1 by omega)]
theorem jW(n:Nat)(s:Int)(w:World)(D:n<=40):
  Calls Tryz.prog 229 #[.int .i64 n,.int .i64 s] w fun e w'=>e=.returned (.bool (bO n s))/\w=w':=by
 have h2:=bJ n 40 D;have h3:=h2.1;have h4:=h2.2;simp at h3;clear h2
 by_cases A:0<=s
 ·have o:bO n s=decide (s<2^n):=by unfold bO;rw[decide_eq_true A];rfl
  have z:=Lib.hid o;clear o;go_enter Tryz.func229,Tryz.ntmps229;go_wp2;go_ret;exact⟨by rw[z.out];rfl,rfl⟩
 ·have o:bO n s=false:=by unfold bO;rw[decide_eq_false A];rfl
  have z:=Lib.hid o;clear o;go_enter Tryz.func229,Tryz.ntmps229;go_wp2;go_ret;exact⟨by rw[z.out];rfl,rfl⟩
def dK(g:Int)(l:List Int):Bool:=cM g 0 6&&l.all (bO g.toNat)
theorem dD{α:Type}(p:α->Bool)(l:List α)(k:Nat)(h:k<l.length):(l.take (k+1)).all p=((l.take k).all p&&p l[k]):=by
 rw[List.take_succ_eq_append_getElem h,List.all_append,List.all_cons,List.all_nil,Bool.and_true]
theorem eH{α:Type}(p:α->Bool)(l:List α)(k:Nat)(h:l.length<=k):(l.take k).all p=l.all p:=by rw[List.take_of_length_le h]
theorem gB{α:Type}(p:α->Bool)(l:List α)(k:Nat)(h:k<l.length)(o:p l[k]=false):l.all p=false:=by
 rw[List.all_eq_false];exact⟨l[k],List.getElem_mem h,by simp[o]⟩
theorem mO(g:Int)(l:List Int)(v:Value)(w:World)(M:aD w v l):
  Calls Tryz.prog 224 #[.int .i64 g,v] w fun e w'=>e=.returned (.bool (dK g l))/\w=w':=by
 obtain⟨a,b,N,c,rfl,I,L,Q,hb⟩:=M.view Tryz.prog 22 3 Tryz.underlying22 aG
 cases z:cM g 0 6 with
 |false=>
  have A:dK g l=false:=by unfold dK;rw[z];rfl
  have D:=Lib.hid A;clear A;go_enter Tryz.func224,Tryz.ntmps224;go_wp2_with (go_at_call 143;refine(fN _ _ _ _).mono ?_;rintro e w' ⟨rfl,rfl⟩);go_ret;exact⟨by rw[D.out];rfl,rfl⟩
 |true=>
  have F:=bL.1 z;obtain⟨G,rfl⟩:=Int.eq_ofNat_of_zero_le F.1;have O:G<=6:=by omega
  have A:dK G l=l.all (bO G):=by unfold dK;rw[z];simp
  have D:=Lib.hid A;clear A F;go_enter Tryz.func224,Tryz.ntmps224;go_wp2_with (go_at_call 143;refine(fN _ _ _ _).mono ?_;rintro e w' ⟨rfl,rfl⟩);go_loop [12] (fun i=>∃k:Nat,k<=l.length/\i=.int .i64 k/\(l.take k).all (bO G)=true) (fun i=>l.length-(intOf i).toNat)
  case atStart=>exact⟨0,Nat.zero_le _,rfl,by simp⟩
  case round=>
   obtain⟨k,R,rfl,o⟩:=hrel;have H:=Lib.hid o;clear o
   by_cases hlt:k<l.length
   ·cases K:bO G l[k]with
    |true=>
     go_wp2_with (go_at_call 229;refine(jW G _ _ (by omega)).mono ?_;rintro e w' ⟨rfl,rfl⟩);go_round
     case rel=>exact⟨k+1,by omega,by go_num,by rw[dD _ _ _ hlt,H.out,K];rfl⟩
     case measure=>simp[intOf];omega
    |false=>
     go_wp2_with (go_at_call 229;refine(jW G _ _ (by omega)).mono ?_;rintro e w' ⟨rfl,rfl⟩);go_ret;exact⟨aE (by rw[D.out,gB _ _ _ hlt K]),rfl⟩
   ·go_wp2
    go_ret;exact⟨aE (by rw[D.out,<-eH (bO G) l k (by omega),H.out]),rfl⟩
def vO(l:List Int):Bool:=decide (l.Pairwise (· < ·))
theorem A9(l:List Int)(h:∀i,(h:i+1<l.length)->l[i]<l[i+1]):vO l=true:=by
 unfold vO;rw[decide_eq_true_eq,List.pairwise_iff_getElem];intro i j A o z;obtain⟨d,rfl⟩:∃d,j=i+1+d:=⟨j-i-1,by omega⟩
 induction d with
 |zero=>exact h i o
 |succ d ih=>exact Int.lt_trans (ih (by omega) (by omega)) (h (i+1+d) o)
theorem BA(l:List Int)(i:Nat)(h:i+1<l.length)(o:l[i+1]<=l[i]):vO l=false:=by
 unfold vO;rw[decide_eq_false_iff_not,List.pairwise_iff_getElem];intro z;have:=z i (i+1) (by omega) h (by omega);omega
def bW(g:Int)(l:List Int):Bool:=dK g l&&vO l
theorem kR(g:Int)(l:List Int)(v:Value)(w:World)(N:aD w v l):
  Calls Tryz.prog 90 #[.agg #[.int .i64 g,v]] w fun e w'=>e=.returned (.bool (bW g l))/\Below w.heap.size w w':=by
 obtain⟨a,b,Y,c,rfl,Q,S,I,hb⟩:=N.view Tryz.prog 22 3 Tryz.underlying22 aG;have z:=aK I hb (aM w (.cells #[.int .i64 g,.slice a l.length c] 27)) (Nat.le_refl _)
 cases A:dK g l with
 |false=>
  have D:bW g l=false:=by unfold bW;rw[A];rfl
  have F:=Lib.hid D;clear D I z;go_enter Tryz.func90,Tryz.ntmps90;go_wp2_with (go_at_call 224;refine(mO _ l _ _ (N.alloc _)).mono ?_;rintro e w' ⟨rfl,rfl⟩);go_ret;exact⟨by rw[F.out];rfl,aM _ _⟩
 |true=>
  have D:bW g l=vO l:=by unfold bW;rw[A];simp
  have F:=Lib.hid D;clear D I;go_enter Tryz.func90,Tryz.ntmps90;go_wp2_with (go_at_call 224;refine(mO _ l _ _ (N.alloc _)).mono ?_;rintro e w' ⟨rfl,rfl⟩);go_loopw [3] (fun i wr=>∃k m:Nat,1<=k/\k<=max l.length 1/\i=.int .i64 k/\wr=(w.alloc (.cells #[.int .i64 g,.slice a l.length c] 27)).drewN m/\(∀j,(h:j+1<l.length)->j+1<k->l[j]<l[j+1])) (fun i _=>l.length-(intOf i).toNat)
  case atStart=>exact⟨1,0,by omega,by omega,rfl,rfl,by intros;omega⟩
  case round=>
   obtain⟨k,m,U,hk,rfl,rfl,o⟩:=hrel;have H:=Lib.hid o;clear o
   by_cases hlt:k<l.length
   ·have O:(Instr.indexAt 22 (.slice a l.length c) (.int .i64 ((k:Int)-1))).run Tryz.prog=(Instr.indexAt 22 (.slice a l.length c) (.int .i64 ((k-1:Nat):Int))).run Tryz.prog:=by
     rw[show((k:Int)-1)=((k-1:Nat):Int) by omega]
    have L:k-1<l.length:=by omega
    have R:=z (k-1) L
    by_cases M:l[k]<=l[k-1]
    ·go_wp2
     go_quiet (fail);go_wp2;go_ret;refine⟨aE ?_,((aM _ _).drewN' _).drewN' _⟩;rw[F.out];have:=BA l (k-1) (by omega) (by simpa[show k-1+1=k from by omega]using M);rw[this]
    ·go_wp2
     go_quiet (fail);go_wp2;go_roundw
     case rel=>
      refine⟨k+1,m+nq,by omega,by omega,by go_num,by simp,fun j h Z=>?_⟩
      by_cases K:j+1<k
      ·exact H.out j h K
      ·have:j=k-1:=by omega
       subst this;have e:k-1+1=k:=by omega
       simp only[e];omega
     case measure=>simp[intOf];omega
   ·go_wp2
    go_ret;refine⟨aE ?_,(aM _ _).drewN' _⟩;rw[F.out,A9 l fun j h=>H.out j h (by omega)]
theorem gD(g:Int)(l:List Int)(v:Value)(w:World)(hv:aD w v l):
  Calls Tryz.prog 72 #[.agg #[.int .i64 g,v]] w fun e w'=>e=.returned (.bool (bW g l))/\Below w.heap.size w w':=by
 obtain⟨a,b,a9,c,rfl,Z,a6,O,hb⟩:=hv.view Tryz.prog 22 3 Tryz.underlying22 aG;have K:=aK O hb (aM w (.cells #[.int .i64 g,.slice a l.length c] 27)) (Nat.le_refl _)
 cases F:cM g 0 6 with
 |false=>
  have M:bW g l=false:=by unfold bW dK;rw[F];rfl
  have I:=Lib.hid M;clear M O K;go_enter Tryz.func72,Tryz.ntmps72;go_wp2_with (go_at_call 188;refine(aR _ _ _ _).mono ?_;rintro e w' ⟨rfl,rfl⟩);go_ret;exact⟨by rw[I.out];rfl,aM _ _⟩
 |true=>
  have U:=bL.1 F;obtain⟨G,rfl⟩:=Int.eq_ofNat_of_zero_le U.1;have hG:G<=6:=by omega
  have M:bW G l=(l.all (bO G)&&vO l):=by unfold bW dK;rw[F];simp
  have I:=Lib.hid M;clear M O U;go_enter Tryz.func72,Tryz.ntmps72;go_wp2_with (go_at_call 188;refine(aR _ _ _ _).mono ?_;rintro e w' ⟨rfl,rfl⟩);go_loopw [3] (fun i wr=>∃k m:Nat,k<=l.length/\i=.int .i64 k/\wr=(w.alloc (.cells #[.int .i64 G,.slice a l.length c] 27)).drewN m/\(l.take k).all (bO G)=true/\(∀j,(h:j+1<l.length)->j+1<k->l[j]<l[j+1])) (fun i _=>l.length-(intOf i).toNat)
  case atStart=>exact⟨0,0,by omega,rfl,rfl,by simp,by intros;omega⟩
  case round=>
   obtain⟨k,m,hk,rfl,rfl,D,A⟩:=hrel;have H:=Lib.hid A;have N:=Lib.hid D;clear A D
   by_cases hlt:k<l.length
   ·cases L:bO G l[k]with
    |false=>
     have o:cM l[k] 0 (2^G-1)=false:=by rw[pQ];exact L
     have z:=Lib.hid o;clear o;go_wp2;go_quiet ((first|(go_at_call 187;first|exact kB (cT G _ (by omega))|exact lR (cT G _ (by omega)))|(go_at_call 188;first|exact iN (aR _ _ _ _) z.out|exact kE (aR _ _ _ _) z.out)));go_wp2;go_ret;refine⟨aE ?_,((aM _ _).drewN' _).drewN' _⟩;rw[I.out,gB _ _ _ hlt L];rfl
    |true=>
     have o:cM l[k] 0 (2^G-1)=true:=by rw[pQ];exact L
     have z:=Lib.hid o;clear o
     by_cases a7:0<k
     ·have Y:(Instr.indexAt 22 (.slice a l.length c) (.int .i64 ((k:Int)-1))).run Tryz.prog=(Instr.indexAt 22 (.slice a l.length c) (.int .i64 ((k-1:Nat):Int))).run Tryz.prog:=by
       rw[show((k:Int)-1)=((k-1:Nat):Int) by omega]
      have R:k-1<l.length:=by omega
      have a1:=K (k-1) R
      by_cases S:l[k]<=l[k-1]
      ·go_wp2
       go_quiet ((first|(go_at_call 187;first|exact kB (cT G _ (by omega))|exact lR (cT G _ (by omega)))|(go_at_call 188;first|exact iN (aR _ _ _ _) z.out|exact kE (aR _ _ _ _) z.out)));go_wp2;go_ret;refine⟨aE ?_,((aM _ _).drewN' _).drewN' _⟩;have:=BA l (k-1) (by omega) (by simpa[show k-1+1=k from by omega]using S);rw[I.out,this];simp
      ·go_wp2
       go_quiet ((first|(go_at_call 187;first|exact kB (cT G _ (by omega))|exact lR (cT G _ (by omega)))|(go_at_call 188;first|exact iN (aR _ _ _ _) z.out|exact kE (aR _ _ _ _) z.out)));go_wp2;go_roundw
       case rel=>
        refine⟨k+1,m+nq,by omega,by go_num,by simp,by rw[dD _ _ _ hlt,N.out,L];rfl,fun j h hj=>?_⟩
        by_cases Q:j+1<k
        ·exact H.out j h Q
        ·have:j=k-1:=by omega
         subst this;have e:k-1+1=k:=by omega
         simp only[e];omega
       case measure=>simp[intOf];omega
     ·have hd:decide (0<(k:Int))=false:=decide_eq_false (by omega)
      go_wp2;go_quiet ((first|(go_at_call 187;first|exact kB (cT G _ (by omega))|exact lR (cT G _ (by omega)))|(go_at_call 188;first|exact iN (aR _ _ _ _) z.out|exact kE (aR _ _ _ _) z.out)));go_wp2;go_roundw
      case rel=>exact⟨k+1,m+nq,by omega,by go_num,by simp,by rw[dD _ _ _ hlt,N.out,L];rfl,by intros;omega⟩
      case measure=>simp[intOf];omega
   ·go_wp2
    go_ret;refine⟨aE ?_,(aM _ _).drewN' _⟩;rw[I.out,A9 l fun j h=>H.out j h (by omega),<-eH (bO G) l k (by omega),N.out];rfl
def cQ(a b:Int):Int:=((a.toNat &&& b.toNat:Nat):Int)
def jC(a b:Int):Int:=((a.toNat ||| b.toNat:Nat):Int)
def mV(a b:Int):Int:=((dE a.toNat b.toNat:Nat):Int)
def cK(a:Int):Int:=(aY a.toNat:Int)
theorem oO{a b:Int}(A:0<=a)(o:a<4611686018427387904)(hb:0<=b)(z:b<4611686018427387904):bits .and .i64 a b=cQ a b:=by
 have:=NN a.toNat b.toNat (by omega) (by omega);rw[show((a.toNat:Nat):Int)=a by omega,show((b.toNat:Nat):Int)=b by omega]at this;exact this
theorem tB{a b:Int}(A:0<=a)(o:a<4611686018427387904)(hb:0<=b)(z:b<4611686018427387904):bits .or .i64 a b=jC a b:=by
 have:=FM a.toNat b.toNat (by omega) (by omega);rw[show((a.toNat:Nat):Int)=a by omega,show((b.toNat:Nat):Int)=b by omega]at this;exact this
theorem US{a b:Int}(A:0<=a)(o:a<64)(hb:0<=b)(z:b<64):bits .andNot .i64 a b=mV a b:=by
 have:=AZ a.toNat b.toNat (by omega) (by omega);rw[show((a.toNat:Nat):Int)=a by omega,show((b.toNat:Nat):Int)=b by omega]at this;exact this
theorem MR(a b n:Int)(o:0<=a)(h:a<n):0<=cQ a b/\cQ a b<n:=by
 have:=@Nat.and_le_left a.toNat b.toNat;unfold cQ;omega
theorem sU(a b:Int)(g:Nat)(z:0<=a)(hb:0<=b)(h:a<2^g)(o:b<2^g):0<=jC a b/\jC a b<2^g:=by
 have h1:a.toNat<2^g:=by
  have:((a.toNat:Nat):Int)<((2^g:Nat):Int):=by push_cast;omega
  exact_mod_cast this
 have h2:b.toNat<2^g:=by
  have:((b.toNat:Nat):Int)<((2^g:Nat):Int):=by push_cast;omega
  exact_mod_cast this
 have h3:=Nat.or_lt_two_pow h1 h2;refine⟨by unfold jC;omega,?_⟩;unfold jC
 exact_mod_cast h3
theorem UL(a b n:Int)(o:0<=a)(h:a<n):0<=mV a b/\mV a b<n:=by unfold mV dE;omega
theorem CT(a:Int)(h:a<256):0<=cK a/\cK a<=8:=by
 have:=rU a.toNat (by omega);unfold cK;omega
theorem H8(s:Int)(w:World)(o:0<=s)(h1:s<256):
  Calls Tryz.prog 170 #[.int .i64 s] w fun e w'=>e=.returned (.int .i64 (cK s))/\w=w':=by
 obtain⟨n,rfl⟩:=Int.eq_ofNat_of_zero_le o;exact nP n w (by omega)
theorem pA(s:Int)(w:World)(o:0<=s)(h1:s<256):
  Calls Tryz.prog 173 #[.int .i64 s] w fun e w'=>e=.returned (.int .i64 (cK s))/\w=w':=by
 obtain⟨n,rfl⟩:=Int.eq_ofNat_of_zero_le o;exact jO n w (by omega)
theorem yQ(g:Int)(w:World)(o:0<=g)(h1:g<=40):
  Calls Tryz.prog 187 #[.int .i64 g] w fun e w'=>e=.returned (.int .i64 (2^g.toNat-1))/\w=w':=by
 obtain⟨n,rfl⟩:=Int.eq_ofNat_of_zero_le o;exact cT n w (by omega)
theorem PZ(g s:Int)(w:World)(o:0<=g)(h1:g<=40):
  Calls Tryz.prog 229 #[.int .i64 g,.int .i64 s] w fun e w'=>e=.returned (.bool (bO g.toNat s))/\w=w':=by
 obtain⟨n,rfl⟩:=Int.eq_ofNat_of_zero_le o;exact jW n s w (by omega)
theorem jZ{g:Int}{l:List Int}(h:bW g l=true):0<=g/\g<=6/\(∀s∈l,0<=s/\s<2^g.toNat)/\l.Pairwise (· < ·):=by
 unfold bW dK at h;simp only[Bool.and_eq_true,List.all_eq_true]at h;obtain⟨⟨h1,h2⟩,h3⟩:=h;have:=bL.1 h1;exact⟨this.1,this.2,fun s o=>eN.1 (h2 s o),by simpa[vO]using h3⟩
theorem lL{g:Int}(o:0<=g)(z:g<=6):(2:Int)^g.toNat<=64:=by
 have:=(bJ g.toNat 6 (by omega)).1;simpa using this
theorem MX{g:Int}{l:List Int}(h:bW g l=true):0<=g/\g<=6/\(∀k,(A:k<l.length)->0<=l[k]/\l[k]<64):=by
 obtain⟨o,z,D,_⟩:=jZ h;refine⟨o,z,fun k A=>?_⟩;have:=D _ (List.getElem_mem A);have:=lL o z;omega
def XZ(m s:Int):Int:=max m (cK s)
def vT(g:Int)(l:List Int):Int:=if bW g l then l.foldl XZ 0 else -1
end
end Go.Proofs.YtipejodijbjpcaaGreatDoor
