/- Lemmas for CardConsoleResults. No condition. -/
import Derived.Test.YtkdbkjjacgigiaaGreatDoorQ01
import Derived.Test.YtkdbkjjacgigiaaGreatDoorChecked
import Derived.Lib.SplitLaws
import Derived.Deep.Light
set_option maxRecDepth 100000
set_option maxHeartbeats 64000000
namespace Go.Proofs.YtkdbkjjacgigiaaGreatDoor
section
open Go.RowKit Go.G5 Go.Proofs.Tryz
theorem aN:IntElem prog 3:=⟨by kernel_rfl⟩
theorem cv1(w:World)(r:Nat)(hr:r<10):(convert 22 9 (aA (some ⟨w,0,none⟩) 1 1)).run prog (w.alloc (.cells #[.int .u8 (48+(r:Int))] 5))=.ok (.string ⟨#[UInt8.ofNat (48+r)]⟩) (w.alloc (.cells #[.int .u8 (48+(r:Int))] 5)):=by
 refine run_convert_bytes_back (P:=prog) _ 22 9 5 ⟨w.heap.size,0,none⟩ 1 [UInt8.ofNat (48+r)] underlying22 underlying5 underlying9 ?_;intro j D;have z:j=0:=by simpa using D
 subst z;have h1:(UInt8.ofNat (48+r)).toNat=48+r:=by rw[UInt8.toNat_ofNat'];omega
 show(w.alloc _).cell? ⟨w.heap.size,0,none⟩=some (.int .u8 ((UInt8.ofNat (48+r)).toNat:Int));rw[aZ w _ _ 0 (.int .u8 (48+(r:Int))) rfl,h1]
 congr 2
theorem asH(r:Nat):UInt8.ofNat (48+r)=48+UInt8.ofNat r:=by simp
theorem bJ{a b:ByteArray}(h:a=b):Ending.returned (.string a)=.returned (.string b):=by rw[h]
theorem N8:aX 0=⟨#[48]⟩:=by
 refine dO ?_;show Lib.itoa 0=[48];unfold Lib.itoa;rw[if_neg aQ,Lib.decDigits];rfl
theorem agC(k:Nat)(b:ByteArray)(h:0<k)(hb:b.data.toList=jZ k):aX (k:Int)=b:=by
 refine dO ?_;rw[hb];show Lib.itoa (k:Int)=_;unfold Lib.itoa jZ;rw[if_neg aD,if_neg aD,Int.toNat_natCast]
theorem agB(k:Nat)(b:ByteArray)(h:0<k)(hb:b.data.toList=jZ k):aX (-(k:Int))=⟨#[45]⟩++b:=by
 refine dO ?_;rw[jL,hb];show Lib.itoa (-(k:Int))=[45]++_;unfold Lib.itoa jZ;rw[if_pos aD,if_neg aD,Int.natAbs_neg,Int.natAbs_natCast];rfl
theorem akV(k:Nat)(h:k<10^20):(jZ k).length<=20:=by
 unfold jZ
 split
 ·simp
 ·exact rF 20 k h aQ
theorem afJ(j k:Nat)(b:ByteArray)(z:0<j)(h:jZ j++b.data.toList=jZ k):jZ (j/10)++((⟨#[UInt8.ofNat (48+j%10)]⟩:ByteArray)++b).data.toList=jZ k:=by
 rw[jL,<-h,RP j z,List.append_assoc]
theorem VL(j k:Nat)(b:ByteArray)(hk:k<10^20)(h:jZ j++b.data.toList=jZ k):b.size<=20:=by
 have h1:=akV k hk;rw[<-h,List.length_append]at h1;rw[wM];omega
theorem tdm(m:Int):(Int.tmod m 10).natAbs=m.natAbs%10/\(Int.tdiv m 10).natAbs=m.natAbs/10/\(0<=m->0<=Int.tmod m 10/\0<=Int.tdiv m 10)/\(m<=0->Int.tmod m 10<=0/\Int.tdiv m 10<=0):=by
 rcases Int.le_total 0 m with h|h
 ·obtain⟨k,rfl⟩:=Int.eq_ofNat_of_zero_le h;have e1:Int.tmod (k:Int) 10=((k%10:Nat):Int):=by rw[Int.tmod_eq_emod_of_nonneg aD];rfl
  have e2:Int.tdiv (k:Int) 10=((k/10:Nat):Int):=by rw[Int.tdiv_eq_ediv_of_nonneg aD];rfl
  rw[e1,e2];refine⟨by omega,by omega,fun _=>⟨by omega,by omega⟩,fun h2=>?_⟩;have:k=0:=aD;subst this;simp
 ·obtain⟨k,rfl⟩:∃k:Nat,m=-(k:Int):=⟨m.natAbs,by omega⟩;have e1:Int.tmod (-(k:Int)) 10=-((k%10:Nat):Int):=by rw[Int.neg_tmod,Int.tmod_eq_emod_of_nonneg aD];rfl
  have e2:Int.tdiv (-(k:Int)) 10=-((k/10:Nat):Int):=by rw[Int.neg_tdiv,Int.tdiv_eq_ediv_of_nonneg aD];rfl
  rw[e1,e2];refine⟨by omega,by omega,fun h2=>?_,fun _=>⟨by omega,by omega⟩⟩;have:k=0:=aD;subst this;simp
theorem anD{p:Prop}(h:p:=by
  obtain⟨d,b1⟩:=isB (Int.tmod m 10);obtain⟨q,b6⟩:=isB (Int.tdiv m 10);rw[b1,b6]at ht;obtain⟨t1,t2,t3,t4⟩:=ht;have z:=afJ m.natAbs n.natAbs b aD Y.out;rw[<-t1,<-t2]at z;have M:dL q:=by have:=I.1;have:=I.2;exact⟨by omega,by omega⟩
  have wq:IntKind.i64.wrap q=q:=by rw[IntKind.wrap_i64];have:=M.1;have:=M.2;omega
  have O:n<0->q<=0:=fun h=>(t4 (J h)).2;have R:0<n->0<=q:=fun h=>(t3 (K h)).2;have a7:d.natAbs<10:=aD;have c6:q.natAbs<m.natAbs:=aD;obtain⟨r,hr⟩:∃r:Nat,r=d.natAbs:=⟨_,rfl⟩;rw[<-hr]at z a7;rw[asH]at z;have HM:=aH z;have a1:=aH O;have a6:=aH R;have hu:(48+(r:Int))%256=48+r:=aD;have c9:IntKind.u8.wrap (48+(r:Int))=48+r:=by simp[IntKind.wrap,IntKind.bits,IntKind.signed];omega
  have c5:=cv1 wr r a7;have d0:IntKind.i64.wrap (48+(r:Int))=48+r:=by rw[IntKind.wrap_i64];omega
  clear z O R Y J K t1 t2 t3 t4;by_cases b3:d<0
  ·have c7:IntKind.i64.wrap (-d)=(r:Int):=by rw[IntKind.wrap_i64];omega
   clear hr;go_wp2;go_roundw
   case rel=>exact⟨q,_,rfl,rfl,a1.out,a6.out,M,HM.out,B.alloc B.size _⟩
   case measure=>simp[intOf];omega
  ·have b4:d=(r:Int):=aD;subst b4;clear hr b3;go_wp2;go_roundw
   case rel=>exact⟨q,_,rfl,rfl,a1.out,a6.out,M,HM.out,B.alloc B.size _⟩
   case measure=>simp[intOf];omega):p:=h
theorem fS(n:Int)(hn:dL n)(w:World):
  Calls prog 8 #[n] w fun e w'=>e=.returned (.string (aX n))/\Below w w w':=by
 have hk:n.natAbs<10^20:=by have:=hn.1;have:=hn.2;omega
 by_cases a8:n=0
 ·subst a8;go_enter func8,ntmps8;go_wp2;go_ret;exact⟨bJ N8.symm,Below.refl _ _⟩
 ·have c8:(n==0)=false:=by simpa using a8
  by_cases N:n<0
  ·have hlt:decide (n<0)=true:=decide_eq_true N;go_enter func8,ntmps8;go_wp2_with fail;go_loopw [0,3] (fun Z sv wr=>∃(m:Int) (b:ByteArray),Z=aG m/\sv=.string b/\(n<0->m<=0)/\(0<n->0<=m)/\dL m/\jZ m.natAbs++b.data.toList=jZ n.natAbs/\Below w w wr) (fun Z _ _=>(intOf Z).natAbs)
   case atStart=>exact⟨n,⟨#[]⟩,rfl,rfl,fun h=>by omega,fun h=>by omega,hn,by simp,Below.refl _ _⟩
   case round=>
    obtain⟨m,b,rfl,rfl,J,K,I,hd,B⟩:=hrel;have b0:=VL _ _ b hk hd;have Y:=aH hd;clear hd;by_cases F:m=0
    ·subst F;have D:b.data.toList=jZ n.natAbs:=by simpa[jZ]using Y.out
     have S:=aH D;clear D Y J K I;go_wp2;go_ret;exact⟨bJ ((congrArg aX (show n=-(n.natAbs:Int) by omega)).trans (agB n.natAbs b aD S.out)).symm,B⟩
    ·have ht:=tdm m;have b5:(m==0)=false:=by simpa using F
     exact anD
  ·have hlt:decide (n<0)=false:=decide_eq_false N;go_enter func8,ntmps8;go_wp2_with fail;go_loopw [0,3] (fun Z sv wr=>∃(m:Int) (b:ByteArray),Z=aG m/\sv=.string b/\(n<0->m<=0)/\(0<n->0<=m)/\dL m/\jZ m.natAbs++b.data.toList=jZ n.natAbs/\Below w w wr) (fun Z _ _=>(intOf Z).natAbs)
   case atStart=>exact⟨n,⟨#[]⟩,rfl,rfl,fun h=>by omega,fun h=>by omega,hn,by simp,Below.refl _ _⟩
   case round=>
    obtain⟨m,b,rfl,rfl,J,K,I,hd,B⟩:=hrel;have b0:=VL _ _ b hk hd;have Y:=aH hd;clear hd;by_cases F:m=0
    ·subst F;have D:b.data.toList=jZ n.natAbs:=by simpa[jZ]using Y.out
     have S:=aH D;clear D Y J K I;go_wp2;go_ret;exact⟨bJ ((congrArg aX (show n=(n.natAbs:Int) by omega)).trans (agC n.natAbs b aD S.out)).symm,B⟩
    ·have ht:=tdm m;have b5:(m==0)=false:=by simpa using F
     exact anD
def eW(c:UInt8):List UInt8->List UInt8->List (List UInt8)
 |part,[]=>[part]
 |part,b::l=>if b=c then part::eW c [] l else eW c (part++[b]) l
def FU(l:List UInt8):ByteArray:=⟨l.toArray⟩
theorem uV(l:List UInt8):(FU l).data.toList=l:=rfl
theorem LS(s:ByteArray):FU s.data.toList=s:=dO rfl
def cI(c:UInt8)(s:ByteArray):List ByteArray:=(eW c [] s.data.toList).map FU
theorem aa2(c:UInt8)(part l:List UInt8):eW c part l≠[]:=by
 induction l generalizing part with
 |nil=>simp[eW]
 |cons b l ih=>
  rw[eW]
  split
  ·simp
  ·exact ih _
theorem afF(c:UInt8):∀(l part:List UInt8),eW c part l=(part++(eW c [] l).headD [])::(eW c [] l).tail:=by
 intro l
 induction l with
 |nil=>intro part;simp[eW]
 |cons b l ih=>
  intro part;by_cases hb:b=c
  ·rw[eW,if_pos hb,eW,if_pos hb];simp
  ·rw[eW,if_neg hb,eW,if_neg hb,ih (part++[b]),ih ([]++[b])];simp
theorem ac5(b c:UInt8)(l:List UInt8)(h:b≠c):Lib.index (b::l) [c]=if Lib.index l [c]==-1 then -1 else Lib.index l [c]+1:=by
 rw[Lib.index];have:([c]:List UInt8).isPrefixOf (b::l)=false:=by simp[List.isPrefixOf];exact fun e=>h e.symm
 rw[if_neg (by rw[this];simp)]
theorem af7(c:UInt8)(l:List UInt8):Lib.index (c::l) [c]=0:=by
 rw[Lib.index,if_pos (by simp[List.isPrefixOf])]
theorem ajW(c:UInt8):∀s:List UInt8,Lib.splitK [c] 0 (Lib.count s [c]) s=eW c [] s:=by
 intro s
 induction s with
 |nil=>rfl
 |cons b l ih=>
  by_cases hb:b=c
  ·subst hb;rw[Lib.count_cons_eq,Nat.add_comm 1,Lib.splitK,af7,if_neg aQ,eW,if_pos rfl];rw[<-ih]
   rfl
  ·rw[Lib.count_cons_ne b c l hb,eW,if_neg hb,afF,<-ih];by_cases K:Lib.index l [c]=-1
   ·have I:Lib.count l [c]=0:=Lib.count_miss K;rw[I]
    rfl
   ·have J:=Lib.index_ge l [c];obtain⟨i,z⟩:∃i:Nat,Lib.index l [c]=(i:Int):=Int.eq_ofNat_of_zero_le aD;have hc:=Lib.count_hit (s:=l) (sub:=[c]) (i:=i) (by simp) z;rw[hc,Nat.add_comm 1];rw[Lib.splitK,Lib.splitK,ac5 b c l hb,z];have D:(((i:Nat):Int)==-1)=false:=by rw[beq_eq_false_iff_ne];omega
    have F:(((i:Nat):Int)+1==-1)=false:=by rw[beq_eq_false_iff_ne];omega
    simp only[D,F,Bool.false_eq_true,if_false];have e1:((i:Int)+1).toNat=i+1:=aD;have e2:((i:Nat):Int).toNat=i:=aD;rw[e1,e2];simp
theorem O6(c:UInt8)(s:ByteArray):Lib.splitB ⟨#[c]⟩ 0 (Lib.countB s ⟨#[c]⟩) s=cI c s:=by
 have h:=Lib.splitB_data ⟨#[c]⟩ 0 (Lib.countB s ⟨#[c]⟩) s;have h2:Lib.splitK (⟨#[c]⟩:ByteArray).data.toList 0 (Lib.countB s ⟨#[c]⟩) s.data.toList=eW c [] s.data.toList:=ajW c s.data.toList;rw[h2]at h;unfold cI;rw[<-h,List.map_map];refine(List.map_id _).symm.trans ?_;exact List.map_congr_left fun x _=>(LS x).symm
theorem akS(c:UInt8):∀(l part:List UInt8),(eW c part l).length<=l.length+1:=by
 intro l
 induction l with
 |nil=>intro part;simp[eW]
 |cons b l ih=>
  intro part;rw[eW]
  split
  ·have:=ih [];simp;omega
  ·have:=ih (part++[b]);simp;omega
theorem LR(c:UInt8)(s:ByteArray):(cI c s).length<=s.size+1:=by
 unfold cI;rw[List.length_map];have:=akS c s.data.toList [];rw[Lib.size_eq];exact this
theorem afH(c:UInt8):∀(l part:List UInt8),∀x∈eW c part l,x.length<=part.length+l.length:=by
 intro l
 induction l with
 |nil=>intro part x z;simp[eW]at z;subst z;simp
 |cons b l ih=>
  intro part x z;rw[eW]at z
  split at z
  ·rcases List.mem_cons.1 z with rfl|z
   ·simp
   ·have:=ih [] x z;simp at this ⊢;omega
  ·have:=ih (part++[b]) x z;simp at this ⊢;omega
theorem xR(c:UInt8)(s:ByteArray):∀x∈cI c s,x.size<=s.size:=by
 intro x z;obtain⟨l,hl,rfl⟩:=List.mem_map.1 z;have:=afH c _ [] l hl;rw[Lib.size_eq,Lib.size_eq,uV];simpa using this
def mM(b:UInt8):Bool:=decide (48<=b.toNat)&&decide (b.toNat<=57)
def tM(n:Nat)(b:UInt8):Nat:=if mM b then n*10+(b.toNat-48) else n
def qY(l:List UInt8):Nat:=l.foldl tM 0
def DS(l:List UInt8):Nat:=l.countP mM
theorem TB(l:List UInt8)(b:UInt8):qY (l++[b])=tM (qY l) b:=by unfold qY;rw[List.foldl_append];rfl
theorem apT:∀(l:List UInt8) (n k:Nat),n<10^k->l.foldl tM n<10^(k+DS l):=by
 intro l
 induction l with
 |nil=>intro n k h;simpa[DS]using h
 |cons b l ih=>
  intro n k h;rw[List.foldl_cons];unfold DS;rw[List.countP_cons]
  cases hd:mM b with
  |false=>
   have:=ih n k h;have e:tM n b=n:=by unfold tM;rw[hd];rfl
   rw[e];simpa[DS]using this
  |true=>
   have z:=hd;unfold mM at z;simp at z;have:=ih (n*10+(b.toNat-48)) (k+1) (by rw[Nat.pow_succ];omega);rw[show k+1+DS l=k+(DS l+1) by omega]at this;have e:tM n b=n*10+(b.toNat-48):=by unfold tM;rw[hd];rfl
   rw[e];simpa[DS]using this
theorem RB(l:List UInt8)(k:Nat)(h:DS l<=k):qY l<10^k:=by
 have h1:=apT l 0 0 aQ;rw[Nat.zero_add]at h1;exact Nat.lt_of_lt_of_le h1 (Nat.pow_le_pow_right aQ h)
theorem aqA(r:Nat)(h:r<10):mM (UInt8.ofNat (48+r))=true/\(UInt8.ofNat (48+r)).toNat=48+r:=by
 have:∀r,r<10->mM (UInt8.ofNat (48+r))=true/\(UInt8.ofNat (48+r)).toNat=48+r:=by decide
 exact this r h
theorem akU:∀(m u:Nat),u<=m->(∀b∈jZ u,mM b=true)/\qY (jZ u)=u:=by
 intro m
 induction m with
 |zero=>intro u D;have:u=0:=aD;subst this;exact⟨by simp[jZ],rfl⟩
 |succ m ih=>
  intro u D;by_cases z:u=0
  ·subst z;exact⟨by simp[jZ],rfl⟩
  ·have hd:=RP u aD;obtain⟨h1,h2⟩:=ih (u/10) aD;obtain⟨h3,h4⟩:=aqA (u%10) aD;rw[hd];refine⟨fun b hb=>?_,?_⟩
   ·rcases List.mem_append.1 hb with hb|hb
    ·exact h1 b hb
    ·rw[List.mem_singleton]at hb;subst hb;exact h3
   ·rw[TB,h2];unfold tM;rw[if_pos h3,h4];omega
theorem zS(u:Nat):(∀b∈Lib.decDigits u,mM b=true)/\qY (Lib.decDigits u)=u:=by
 by_cases z:u=0
 ·subst z;have e:Lib.decDigits 0=[48]:=by rw[Lib.decDigits];rfl
  rw[e];exact⟨by decide,by decide⟩
 ·have:=akU u u aI;unfold jZ at this;rw[if_neg z]at this;exact this
def IW(s:ByteArray):Bool:=s.data.toList.headD 0==45
def pN(s:ByteArray):Int:=if IW s then -(qY s.data.toList:Int) else (qY s.data.toList:Int)
def pB(s:ByteArray):Bool:=decide (aX (pN s)=s)&&(decide (-999999999<=pN s)&&decide (pN s<=999999999))
def pV(s:ByteArray):Int:=if pB s then pN s else 0
theorem OU{s:ByteArray}(h:pB s=true):pV s=pN s:=by unfold pV;rw[if_pos h]
theorem OT{s:ByteArray}(h:pB s=false):pV s=0:=by unfold pV;rw[h];rfl
theorem mJ{a b:Int}{x y:Bool}(h:a=b)(k:x=y):Ending.returned (.tuple #[a,.bool x])=.returned (.tuple #[b,.bool y]):=by rw[h,k]
theorem PA(l:List UInt8):qY (45::l)=qY l:=by unfold qY;rfl
theorem IL(n:Int):(aX n).data.toList=if n<0 then 45::Lib.decDigits n.natAbs else Lib.decDigits n.natAbs:=by
 show Lib.itoa n=_;unfold Lib.itoa
 split
 ·rfl
 ·rename_i h;rw[show n.toNat=n.natAbs by omega]
theorem VI(u:Nat):(Lib.decDigits u).headD 0≠45:=by
 have h:=(zS u).1;have z:=AE u
 cases hd:Lib.decDigits u with
 |nil=>exact absurd hd z
 |cons b l=>
  rw[hd]at h;have:=h b (by simp);intro e;simp at e;subst e
  revert this;decide
theorem zY(n:Int):pN (aX n)=n:=by
 unfold pN IW;rw[IL];by_cases h:n<0
 ·rw[if_pos h,PA,(zS _).2];simp;omega
 ·rw[if_neg h,(zS _).2];have:=VI n.natAbs;rw[if_neg (by simpa using this)];omega
theorem QJ(n:Int)(h:-999999999<=n/\n<=999999999):pB (aX n)=true:=by
 unfold pB;rw[zY];simp;omega
theorem anH{s:ByteArray}(h:pB s=true):aX (pN s)=s/\-999999999<=pN s/\pN s<=999999999:=by
 unfold pB at h;simpa using h
def dV(n D z:Int):Bool:=decide (D<=n)&&decide (n<=z)
theorem cR{n D z:Int}:dV n D z=true↔D<=n/\n<=z:=by simp[dV]
theorem af6{n D z:Int}:dV n D z=false↔n<D∨z<n:=by
 unfold dV;by_cases h1:D<=n<;>by_cases h2:n<=z<;>simp[h1,h2]<;>omega
theorem gH(n z D:Int)(w:World):
  Calls prog 144 #[n,z,D] w fun e w'=>e=.returned (.bool (dV n z D))/\w=w':=by
 unfold dV;by_cases h1:z<=n
 ·go_enter func144,ntmps144;go_wp2;go_ret;exact⟨by simp[h1],rfl⟩
 ·have h2:decide (z<=n)=false:=by simpa using h1
  go_enter func144,ntmps144;go_wp2;go_ret;exact⟨aW (by simp),rfl⟩
theorem cP(n z D:Int)(w:World):
  Calls prog 77 #[n,z,D] w fun e w'=>e=.returned (.bool (dV n z D))/\w=w':=by
 unfold dV;by_cases h1:z<=n
 ·go_enter func77,ntmps77;go_wp2;go_ret;exact⟨by simp[h1],rfl⟩
 ·have h2:decide (z<=n)=false:=by simpa using h1
  go_enter func77,ntmps77;go_wp2;go_ret;exact⟨aW (by simp),rfl⟩
def gA:Nat->Nat
 |0=>1
 |n+1=>(n+1)*gA n
theorem RU(a b:Nat)(h:a<=b):gA a<=gA b:=by
 induction b with
 |zero=>have:a=0:=aD;subst this;exact aI
 |succ b ih=>
  by_cases hb:a<=b
  ·have:=ih hb
   calc gA a<=gA b:=this
    _<=(b+1)*gA b:=Nat.le_mul_of_pos_left _ aD
  ·have:a=b+1:=aD;subst this;exact aI
def vN(n:Int):Int:=if dV n 0 12 then gA n.toNat else -1
theorem aoC:gA 12=479001600:=by decide
theorem aa6(k:Nat)(h:k<=12):gA k<=479001600:=aoC▸RU k 12 h
theorem RT(n:Int)(w:World):
  Calls prog 95 #[n] w fun e w'=>e=.returned (vN n)/\w=w':=by
 cases z:dV n 0 12 with
 |false=>
  have F:vN n=-1:=by unfold vN;rw[z];rfl
  go_enter func95,ntmps95;go_wp2_with (go_at_call 77;refine(cP _ _ _ _).mono ?_;rintro e w' ⟨rfl,rfl⟩);go_ret;exact⟨fL F.symm,rfl⟩
 |true=>
  have hb:=cR.1 z;have h0:0<=n:=hb.1;have N:n<=12:=hb.2;have F:vN n=gA n.toNat:=by unfold vN;rw[z];rfl
  have K:=aH F;clear F hb;go_enter func95,ntmps95;go_wp2_with (go_at_call 77;refine(cP _ _ _ _).mono ?_;rintro e w' ⟨rfl,rfl⟩);go_loop [3,4] (fun p i=>∃k:Nat,1<=k/\k<=12/\(k:Int)<=max n 1/\i=aG (k+1)/\p=aG (gA k)) (fun _ i=>14-(intOf i).toNat)
  case atStart=>exact⟨1,by omega,by omega,by omega,rfl,rfl⟩
  case round=>
   obtain⟨k,S,D,Y,rfl,rfl⟩:=hrel;have O:=aa6 k D;by_cases hlt:(k:Int)+1<=n
   ·have J:gA (k+1)=(k+1)*gA k:=rfl;have I:=aa6 (k+1) aD;have hm:(gA k:Int)*(k+1)=gA (k+1):=by rw[J];push_cast;exact Int.mul_comm _ _
    have Z:(gA k:Int)*(k+1)<=479001600:=by rw[hm];omega
    have R:0<=(gA k:Int)*(k+1):=by rw[hm];omega
    have M:=aH hm;clear J hm;go_wp2;go_round
    case rel=>exact⟨k+1,by omega,by omega,by omega,by go_num,by rw[M.out]⟩
    case measure=>simp[intOf];omega
   ·go_wp2;go_ret;refine⟨fL ?_,rfl⟩;rw[K.out];by_cases h1:1<=n
    ·rw[show n.toNat=k from by omega]
    ·have:n.toNat=0:=aD;rw[this,show k=1 from by omega];rfl
def WA(n:Nat):Int:=match n with
 |0=>0
 |n+1=>WA n+60/((n:Int)+1)
def fP(k:Int):ByteArray:=
 if k=1 then ⟨#[109,105,110,105,109,117,109]⟩ else if k=2 then ⟨#[118,105,111,108,97,116,105,111,110]⟩ else if k=3 then ⟨#[98,97,115,101]⟩
 else if k=4 then ⟨#[99,111,109,109,111,110]⟩ else if k=5 then ⟨#[99,117,116]⟩ else if k=6 then ⟨#[115,117,110,102,108,111,119,101,114]⟩ else if k=7 then ⟨#[104,97,108,108]⟩ else ⟨#[]⟩
theorem PN(k:Int)(w:World):
  Calls prog 282 #[k] w fun e w'=>e=.returned (.string (fP k))/\Below w w w':=by
 by_cases hk:1<=k/\k<=7
 ·rcases(show k=1∨k=2∨k=3∨k=4∨k=5∨k=6∨k=7 by omega) with rfl|rfl|rfl|rfl|rfl|rfl|rfl
  all_goals
   go_enter func282,ntmps282;go_wp2;go_ret;exact⟨rfl,Below.refl _ _⟩
 ·have h1:(k==1)=false:=by simp;omega
  have h2:(k==2)=false:=by simp;omega
  have h3:(k==3)=false:=by simp;omega
  have h4:(k==4)=false:=by simp;omega
  have D:(k==5)=false:=by simp;omega
  have F:(k==6)=false:=by simp;omega
  have I:(k==7)=false:=by simp;omega
  have hw:fP k=⟨#[]⟩:=by unfold fP;rw[if_neg aD,if_neg aD,if_neg aD,if_neg aD,if_neg aD,if_neg aD,if_neg aD]
  have z:=aH hw;clear hw;go_enter func282,ntmps282;go_wp2;go_ret;exact⟨by rw[z.out];rfl,Below.refl _ _⟩
theorem PO(k:Int)(w:World):
  Calls prog 31 #[k] w fun e w'=>e=.returned (.string (fP k))/\Below w w w':=by
 by_cases hk:1<=k/\k<=7
 ·rcases(show k=1∨k=2∨k=3∨k=4∨k=5∨k=6∨k=7 by omega) with rfl|rfl|rfl|rfl|rfl|rfl|rfl
  all_goals
   go_enter func31,ntmps31;go_wp2_with (go_at_call 77;refine(cP _ _ _ _).mono ?_;rintro e w' ⟨rfl,rfl⟩);go_ret;exact⟨rfl,bF _ _⟩
 ·have D:dV k 1 7=false:=af6.2 aD;have hw:fP k=⟨#[]⟩:=by unfold fP;rw[if_neg aD,if_neg aD,if_neg aD,if_neg aD,if_neg aD,if_neg aD,if_neg aD]
  have z:=aH hw;clear hw;go_enter func31,ntmps31;go_wp2_with (go_at_call 77;refine(cP _ _ _ _).mono ?_;rintro e w' ⟨rfl,rfl⟩);go_ret;exact⟨by rw[z.out];rfl,Below.refl _ _⟩
theorem TD(n:Int)(z:0<=n)(D:n<2^62):IntKind.i64.wrap n=n:=by rw[IntKind.wrap_i64];omega
theorem acD(a b:Nat)(z:a<2^62)(hb:b<2^62):bits .and .i64 (a:Int) (b:Int)=((a &&& b:Nat):Int):=(bits_nat .i64 62 aQ TD a b z hb).1
theorem M8(a b:Nat)(z:a<2^62)(hb:b<2^62):bits .or .i64 (a:Int) (b:Int)=((a ||| b:Nat):Int):=(bits_nat .i64 62 aQ TD a b z hb).2
theorem UL(a:Nat)(z:a<2^62):bits .and .i64 (a:Int) 1=((a%2:Nat):Int):=by
 have:=acD a 1 z aQ;rw[Nat.and_one_is_mod]at this;exact this
def cO(a b:Nat):Nat:=a-(a &&& b)
theorem xK(a b:Nat)(z:a<64)(hb:b<64):bits .andNot .i64 (a:Int) (b:Int)=((cO a b:Nat):Int):=by
 have h:∀a,a<64->∀b,b<64->bits .andNot .i64 ((a:Nat):Int) ((b:Nat):Int)=((cO a b:Nat):Int):=by decide +kernel
 exact h a z b hb
theorem aoV(a b:Nat)(z:a<64)(hb:b<64):a ||| b<64:=Nat.or_lt_two_pow (n:=6) z hb
theorem wU(a b n:Nat)(z:a<n):cO a b<n:=by unfold cO;omega
theorem cJ(n m:Nat)(h:n<=m):(2:Int)^n<=2^m/\0<(2:Int)^n:=by
 constructor
 ·have:=Nat.pow_le_pow_right (show 0<2 by decide) h
  exact_mod_cast this
 ·have:=Nat.two_pow_pos n
  exact_mod_cast this
def bY(n:Nat):Nat:=(List.range 64).foldl (fun a i=>a+(n >>> i)%2) 0
theorem adV(n:Nat)(w:World)(h:n<256):
  Calls prog 349 #[.int .u64 n] w fun e w'=>e=.returned (bY n)/\w=w':=by
 go_enter func349,ntmps349;go_wp2;go_ret;refine⟨fL ?_,rfl⟩;clear w
 revert n
 decide +kernel
theorem al0(n:Nat)(w:World)(h:n<256):
  Calls prog 296 #[.int .u64 n] w fun e w'=>e=.returned (bY n)/\w=w':=by
 go_enter func296,ntmps296;go_wp2_with (go_at_call 349;refine(adV n _ h).mono ?_;rintro e w' ⟨rfl,rfl⟩);go_ret;exact⟨rfl,rfl⟩
theorem fH(n:Nat)(w:World)(h:n<256):
  Calls prog 214 #[n] w fun e w'=>e=.returned (bY n)/\w=w':=by
 go_enter func214,ntmps214;go_wp2_with (go_at_call 296;refine(al0 n _ h).mono ?_;rintro e w' ⟨rfl,rfl⟩);go_ret;exact⟨rfl,rfl⟩
theorem amA(n:Nat)(h:n<256):bY n=n%2+bY (n/2):=by
 revert n;decide +kernel
theorem MQ:bY 0=0:=by decide +kernel
theorem vY(n:Nat)(h:n<256):bY n<=8:=by
 revert n;decide +kernel
theorem eO(n:Nat)(w:World)(h:n<=40):
  Calls prog 78 #[n] w fun e w'=>e=.returned (aG (2^n-1))/\w=w':=by
 have h2:=cJ n 40 h;have h3:=h2.1;have h4:=h2.2;simp at h3;clear h2;go_enter func78,ntmps78;go_wp2;go_ret;exact⟨rfl,rfl⟩
theorem lQ(n:Nat)(w:World)(h:n<256):
  Calls prog 84 #[n] w fun e w'=>e=.returned (bY n)/\w=w':=by
 go_enter func84,ntmps84;go_wp2;go_loop [3,4] (fun s x=>∃k q:Nat,k<256/\q+bY k=bY n/\s=aG q/\x=aG k) (fun _ x=>(intOf x).toNat)
 case atStart=>exact⟨n,0,h,by omega,rfl,rfl⟩
 case round=>
  obtain⟨k,q,hk,z,rfl,rfl⟩:=hrel;have D:=amA k hk;have K:=vY n h;have hb:=UL k aD;have I:q<=8:=aD;have hm:k%2<2:=aD;have H:=aH z;have F:=aH D;clear D z;by_cases J:0<k
  ·go_wp2
   go_round
   case rel=>exact⟨k/2,q+k%2,by omega,by have:=H.out;have:=F.out;omega,by go_num,by go_num⟩
   case measure=>simp[intOf];omega
  ·go_wp2;go_ret;refine⟨fL ?_,rfl⟩;have h1:=H.out;have h2:k=0:=aD;rw[h2,MQ]at h1;omega
def eB(n:Nat)(s:Int):Bool:=decide (0<=s)&&decide (s<2^n)
theorem jQ{n:Nat}{s:Int}:eB n s=true↔0<=s/\s<2^n:=by simp[eB]
theorem xZ(n:Nat)(s:Int):dV s 0 (2^n-1)=eB n s:=by
 unfold dV eB;by_cases h:s<2^n
 ·rw[decide_eq_true h,decide_eq_true (show s<=2^n-1 by omega)]
 ·rw[decide_eq_false h,decide_eq_false (show ¬s<=2^n-1 by omega)]
theorem rK(n:Nat)(s:Int)(w:World)(I:n<=40):
  Calls prog 273 #[n,s] w fun e w'=>e=.returned (.bool (eB n s))/\w=w':=by
 have h2:=cJ n 40 I;have h3:=h2.1;have h4:=h2.2;simp at h3;clear h2;by_cases F:0<=s
 ·have z:eB n s=decide (s<2^n):=by unfold eB;rw[decide_eq_true F];rfl
  have D:=aH z;clear z;go_enter func273,ntmps273;go_wp2;go_ret;exact⟨by rw[D.out];rfl,rfl⟩
 ·have z:eB n s=false:=by unfold eB;rw[decide_eq_false F];rfl
  have D:=aH z;clear z;go_enter func273,ntmps273;go_wp2;go_ret;exact⟨by rw[D.out];rfl,rfl⟩
def dZ(g:Int)(l:List Int):Bool:=dV g 0 6&&l.all (eB g.toNat)
theorem iW{α:Type}(p:α->Bool)(l:List α)(k:Nat)(h:k<l.length):(l.take (k+1)).all p=((l.take k).all p&&p l[k]):=by
 rw[List.take_succ_eq_append_getElem h,List.all_append,List.all_cons,List.all_nil,Bool.and_true]
theorem kO{α:Type}(p:α->Bool)(l:List α)(k:Nat)(h:l.length<=k):(l.take k).all p=l.all p:=by rw[List.take_of_length_le h]
theorem jK{α:Type}(p:α->Bool)(l:List α)(k:Nat)(h:k<l.length)(z:p l[k]=false):l.all p=false:=by
 rw[List.all_eq_false];exact⟨l[k],List.getElem_mem h,by simp[z]⟩
theorem rI(g:Int)(l:List Int)(v:Value)(w:World)(O:aK w v l):
  Calls prog 219 #[g,v] w fun e w'=>e=.returned (.bool (dZ g l))/\w=w':=by
 obtain⟨a,b,R,c,rfl,K,N,hc,hb⟩:=O.view prog 25 3 underlying25 aN
 cases D:dV g 0 6 with
 |false=>
  have F:dZ g l=false:=by unfold dZ;rw[D];rfl
  have I:=aH F;clear F;go_enter func219,ntmps219;go_wp2_with (go_at_call 144;refine(gH _ _ _ _).mono ?_;rintro e w' ⟨rfl,rfl⟩);go_ret;exact⟨by rw[I.out];rfl,rfl⟩
 |true=>
  have J:=cR.1 D;obtain⟨G,rfl⟩:=Int.eq_ofNat_of_zero_le J.1;have S:G<=6:=aD;have F:dZ G l=l.all (eB G):=by unfold dZ;rw[D];simp
  have I:=aH F;clear F J;go_enter func219,ntmps219;go_wp2_with (go_at_call 144;refine(gH _ _ _ _).mono ?_;rintro e w' ⟨rfl,rfl⟩);go_loop [12] (fun i=>∃k:Nat,k<=l.length/\i=aG k/\(l.take k).all (eB G)=true) (fun i=>l.length-(intOf i).toNat)
  case atStart=>exact⟨0,Nat.zero_le _,rfl,by simp⟩
  case round=>
   obtain⟨k,hk,rfl,z⟩:=hrel;have H:=aH z;clear z;by_cases hlt:k<l.length
   ·cases M:eB G l[k]with
    |true=>
     go_wp2_with (go_at_call 273;refine(rK G _ _ aD).mono ?_;rintro e w' ⟨rfl,rfl⟩);go_round
     case rel=>exact⟨k+1,by omega,by go_num,by rw[iW _ _ _ hlt,H.out,M];rfl⟩
     case measure=>simp[intOf];omega
    |false=>go_wp2_with (go_at_call 273;refine(rK G _ _ aD).mono ?_;rintro e w' ⟨rfl,rfl⟩);go_ret;exact⟨aW (by rw[I.out,jK _ _ _ hlt M]),rfl⟩
   ·go_wp2;go_ret;exact⟨aW (by rw[I.out,<-kO (eB G) l k aD,H.out]),rfl⟩
def AA(l:List Int):Bool:=decide (l.Pairwise (· < ·))
theorem M7(l:List Int)(h:∀i,(h:i+1<l.length)->l[i]<l[i+1]):AA l=true:=by
 unfold AA;rw[decide_eq_true_eq,List.pairwise_iff_getElem];intro i j F z D;obtain⟨d,rfl⟩:∃d,j=i+1+d:=⟨j-i-1,by omega⟩
 induction d with
 |zero=>exact h i z
 |succ d ih=>exact Int.lt_trans (ih aD aD) (h (i+1+d) z)
theorem OQ(l:List Int)(i:Nat)(h:i+1<l.length)(z:l[i+1]<=l[i]):AA l=false:=by
 unfold AA;rw[decide_eq_false_iff_not,List.pairwise_iff_getElem];intro D;have:=D i (i+1) aD h aD;omega
def aU(g:Int)(l:List Int):Bool:=dZ g l&&AA l
theorem cQ(g:Int)(l:List Int)(v:Value)(w:World)(O:aK w v l):
  Calls prog 146 #[.agg #[g,v]] w fun e w'=>e=.returned (.bool (aU g l))/\Below w w w':=by
 obtain⟨a,b,a6,c,rfl,S,Z,hc,hb⟩:=O.view prog 25 3 underlying25 aN;have D:=aR hc hb (bF w (.cells #[g,aA a l.length c] 29)) aI
 cases F:dZ g l with
 |false=>
  have I:aU g l=false:=by unfold aU;rw[F];rfl
  have J:=aH I;clear I hc D;go_enter func146,ntmps146;go_wp2_with (go_at_call 219;refine(rI _ l _ _ (O.alloc _)).mono ?_;rintro e w' ⟨rfl,rfl⟩);go_ret;exact⟨by rw[J.out];rfl,bF _ _⟩
 |true=>
  have I:aU g l=AA l:=by unfold aU;rw[F];simp
  have J:=aH I;clear I hc;go_enter func146,ntmps146;go_wp2_with (go_at_call 219;refine(rI _ l _ _ (O.alloc _)).mono ?_;rintro e w' ⟨rfl,rfl⟩);go_loopw [3] (fun i wr=>∃k m:Nat,1<=k/\k<=max l.length 1/\i=aG k/\wr=(w.alloc (.cells #[g,aA a l.length c] 29)).drewN m/\(∀j,(h:j+1<l.length)->j+1<k->l[j]<l[j+1])) (fun i _=>l.length-(intOf i).toNat)
  case atStart=>exact⟨1,0,by omega,by omega,rfl,rfl,by intros;omega⟩
  case round=>
   obtain⟨k,m,a1,hk,rfl,rfl,z⟩:=hrel;have H:=aH z;clear z;by_cases hlt:k<l.length
   ·have R:(Instr.indexAt 25 (aA a l.length c) (aG ((k:Int)-1))).run prog=(Instr.indexAt 25 (aA a l.length c) (aG ((k-1:Nat):Int))).run prog:=by rw[show((k:Int)-1)=((k-1:Nat):Int) by omega]
    have M:k-1<l.length:=aD;have Y:=D (k-1) M;by_cases N:l[k]<=l[k-1]
    ·go_wp2;go_quiet (fail);go_wp2;go_ret;refine⟨aW ?_,((bF _ _).drewN' _).drewN' _⟩;rw[J.out];have:=OQ l (k-1) aD (by simpa[show k-1+1=k from by omega]using N);rw[this]
    ·go_wp2;go_quiet (fail);go_wp2;go_roundw
     case rel=>
      refine⟨k+1,m+nq,by omega,by omega,by go_num,by simp,fun j h hj=>?_⟩;by_cases K:j+1<k
      ·exact H.out j h K
      ·have:j=k-1:=aD;subst this;have e:k-1+1=k:=aD;simp only[e];omega
     case measure=>simp[intOf];omega
   ·go_wp2;go_ret;refine⟨aW ?_,(bF _ _).drewN' _⟩;rw[J.out,M7 l fun j h=>H.out j h aD]
theorem cK(g:Int)(l:List Int)(v:Value)(w:World)(hv:aK w v l):
  Calls prog 21 #[.agg #[g,v]] w fun e w'=>e=.returned (.bool (aU g l))/\Below w w w':=by
 obtain⟨a,b,b3,c,rfl,a7,a9,hc,hb⟩:=hv.view prog 25 3 underlying25 aN;have M:=aR hc hb (bF w (.cells #[g,aA a l.length c] 29)) aI
 cases J:dV g 0 6 with
 |false=>
  have O:aU g l=false:=by unfold aU dZ;rw[J];rfl
  have K:=aH O;clear O hc M;go_enter func21,ntmps21;go_wp2_with (go_at_call 77;refine(cP _ _ _ _).mono ?_;rintro e w' ⟨rfl,rfl⟩);go_ret;exact⟨by rw[K.out];rfl,bF _ _⟩
 |true=>
  have hg:=cR.1 J;obtain⟨G,rfl⟩:=Int.eq_ofNat_of_zero_le hg.1;have hG:G<=6:=aD;have O:aU G l=(l.all (eB G)&&AA l):=by unfold aU dZ;rw[J];simp
  have K:=aH O;clear O hc hg;go_enter func21,ntmps21;go_wp2_with (go_at_call 77;refine(cP _ _ _ _).mono ?_;rintro e w' ⟨rfl,rfl⟩);go_loopw [3] (fun i wr=>∃k m:Nat,k<=l.length/\i=aG k/\wr=(w.alloc (.cells #[G,aA a l.length c] 29)).drewN m/\(l.take k).all (eB G)=true/\(∀j,(h:j+1<l.length)->j+1<k->l[j]<l[j+1])) (fun i _=>l.length-(intOf i).toNat)
  case atStart=>exact⟨0,0,by omega,rfl,rfl,by simp,by intros;omega⟩
  case round=>
   obtain⟨k,m,hk,rfl,rfl,I,F⟩:=hrel;have H:=aH F;have R:=aH I;clear F I;by_cases hlt:k<l.length
   ·cases N:eB G l[k]with
    |false=>
     have z:dV l[k] 0 (2^G-1)=false:=by rw[xZ];exact N
     have D:=aH z;clear z;go_wp2;go_quiet ((first|(go_at_call 78;first|exact gL (eO G _ aD)|exact jF (eO G _ aD))|(go_at_call 77;first|exact oT (cP _ _ _ _) D.out|exact sP (cP _ _ _ _) D.out)));go_wp2;go_ret;refine⟨aW ?_,((bF _ _).drewN' _).drewN' _⟩;rw[K.out,jK _ _ _ hlt N];rfl
    |true=>
     have z:dV l[k] 0 (2^G-1)=true:=by rw[xZ];exact N
     have D:=aH z;clear z;by_cases b0:0<k
     ·have a6:(Instr.indexAt 25 (aA a l.length c) (aG ((k:Int)-1))).run prog=(Instr.indexAt 25 (aA a l.length c) (aG ((k-1:Nat):Int))).run prog:=by rw[show((k:Int)-1)=((k-1:Nat):Int) by omega]
      have Y:k-1<l.length:=aD;have a8:=M (k-1) Y;by_cases Z:l[k]<=l[k-1]
      ·go_wp2;go_quiet ((first|(go_at_call 78;first|exact gL (eO G _ aD)|exact jF (eO G _ aD))|(go_at_call 77;first|exact oT (cP _ _ _ _) D.out|exact sP (cP _ _ _ _) D.out)));go_wp2;go_ret;refine⟨aW ?_,((bF _ _).drewN' _).drewN' _⟩;have:=OQ l (k-1) aD (by simpa[show k-1+1=k from by omega]using Z);rw[K.out,this];simp
      ·go_wp2;go_quiet ((first|(go_at_call 78;first|exact gL (eO G _ aD)|exact jF (eO G _ aD))|(go_at_call 77;first|exact oT (cP _ _ _ _) D.out|exact sP (cP _ _ _ _) D.out)));go_wp2;go_roundw
       case rel=>
        refine⟨k+1,m+nq,by omega,by go_num,by simp,by rw[iW _ _ _ hlt,R.out,N];rfl,fun j h hj=>?_⟩;by_cases S:j+1<k
        ·exact H.out j h S
        ·have:j=k-1:=aD;subst this;have e:k-1+1=k:=aD;simp only[e];omega
       case measure=>simp[intOf];omega
     ·have hd:decide (0<(k:Int))=false:=decide_eq_false aD;go_wp2;go_quiet ((first|(go_at_call 78;first|exact gL (eO G _ aD)|exact jF (eO G _ aD))|(go_at_call 77;first|exact oT (cP _ _ _ _) D.out|exact sP (cP _ _ _ _) D.out)));go_wp2;go_roundw
      case rel=>exact⟨k+1,m+nq,by omega,by go_num,by simp,by rw[iW _ _ _ hlt,R.out,N];rfl,by intros;omega⟩
      case measure=>simp[intOf];omega
   ·go_wp2;go_ret;refine⟨aW ?_,(bF _ _).drewN' _⟩;rw[K.out,M7 l fun j h=>H.out j h aD,<-kO (eB G) l k aD,R.out];rfl
def bB(a b:Int):Int:=((a.toNat &&& b.toNat:Nat):Int)
def eH(a b:Int):Int:=((a.toNat ||| b.toNat:Nat):Int)
def cG(a b:Int):Int:=((cO a.toNat b.toNat:Nat):Int)
def cT(a:Int):Int:=(bY a.toNat:Int)
theorem dU{a b:Int}(F:0<=a)(z:a<4611686018427387904)(hb:0<=b)(D:b<4611686018427387904):bits .and .i64 a b=bB a b:=by
 have:=acD a.toNat b.toNat aD aD;rw[show((a.toNat:Nat):Int)=a by omega,show((b.toNat:Nat):Int)=b by omega]at this;exact this
theorem sJ{a b:Int}(F:0<=a)(z:a<4611686018427387904)(hb:0<=b)(D:b<4611686018427387904):bits .or .i64 a b=eH a b:=by
 have:=M8 a.toNat b.toNat aD aD;rw[show((a.toNat:Nat):Int)=a by omega,show((b.toNat:Nat):Int)=b by omega]at this;exact this
theorem lA{a b:Int}(F:0<=a)(z:a<64)(hb:0<=b)(D:b<64):bits .andNot .i64 a b=cG a b:=by
 have:=xK a.toNat b.toNat aD aD;rw[show((a.toNat:Nat):Int)=a by omega,show((b.toNat:Nat):Int)=b by omega]at this;exact this
theorem kE(a b n:Int)(z:0<=a)(h:a<n):0<=bB a b/\bB a b<n:=by
 have:=@Nat.and_le_left a.toNat b.toNat;unfold bB;omega
theorem AJ(a b:Int)(g:Nat)(D:0<=a)(hb:0<=b)(h:a<2^g)(z:b<2^g):0<=eH a b/\eH a b<2^g:=by
 have h1:a.toNat<2^g:=by
  have:((a.toNat:Nat):Int)<((2^g:Nat):Int):=by push_cast;omega
  exact_mod_cast this
 have h2:b.toNat<2^g:=by
  have:((b.toNat:Nat):Int)<((2^g:Nat):Int):=by push_cast;omega
  exact_mod_cast this
 have h3:=Nat.or_lt_two_pow h1 h2;refine⟨by unfold eH;omega,?_⟩;unfold eH
 exact_mod_cast h3
theorem mY(a b n:Int)(z:0<=a)(h:a<n):0<=cG a b/\cG a b<n:=by unfold cG cO;omega
theorem wQ(a:Int)(h:a<256):0<=cT a/\cT a<=8:=by
 have:=vY a.toNat aD;unfold cT;omega
theorem sR(s:Int)(w:World)(z:0<=s)(h1:s<256):
  Calls prog 214 #[s] w fun e w'=>e=.returned (cT s)/\w=w':=by
 obtain⟨n,rfl⟩:=Int.eq_ofNat_of_zero_le z;exact fH n w aD
theorem sK(s:Int)(w:World)(z:0<=s)(h1:s<256):
  Calls prog 84 #[s] w fun e w'=>e=.returned (cT s)/\w=w':=by
 obtain⟨n,rfl⟩:=Int.eq_ofNat_of_zero_le z;exact lQ n w aD
theorem ET(g:Int)(w:World)(z:0<=g)(h1:g<=40):
  Calls prog 78 #[g] w fun e w'=>e=.returned (aG (2^g.toNat-1))/\w=w':=by
 obtain⟨n,rfl⟩:=Int.eq_ofNat_of_zero_le z;exact eO n w aD
theorem af9(g s:Int)(w:World)(z:0<=g)(h1:g<=40):
  Calls prog 273 #[g,s] w fun e w'=>e=.returned (.bool (eB g.toNat s))/\w=w':=by
 obtain⟨n,rfl⟩:=Int.eq_ofNat_of_zero_le z;exact rK n s w aD
theorem dB{g:Int}{l:List Int}(h:aU g l=true):0<=g/\g<=6/\(∀s∈l,0<=s/\s<2^g.toNat)/\l.Pairwise (· < ·):=by
 unfold aU dZ at h;simp only[Bool.and_eq_true,List.all_eq_true]at h;obtain⟨⟨h1,h2⟩,h3⟩:=h;have:=cR.1 h1;exact⟨this.1,this.2,fun s z=>jQ.1 (h2 s z),by simpa[AA]using h3⟩
theorem lH{g:Int}(z:0<=g)(D:g<=6):(2:Int)^g.toNat<=64:=by
 have:=(cJ g.toNat 6 aD).1;simpa using this
theorem oH{g:Int}{l:List Int}(h:aU g l=true):0<=g/\g<=6/\(∀k,(hk:k<l.length)->0<=l[k]/\l[k]<64):=by
 obtain⟨z,D,F,_⟩:=dB h;refine⟨z,D,fun k hk=>?_⟩;have:=F _ (List.getElem_mem hk);have:=lH z D;omega
theorem xS{α β:Type}(f:β->α->β)(z:β)(l:List α)(k:Nat)(h:k<l.length):(l.take (k+1)).foldl f z=f ((l.take k).foldl f z) l[k]:=by
 rw[List.take_succ_eq_append_getElem h,List.foldl_append];rfl
theorem LY{α β:Type}(f:β->α->β)(z:β)(l:List α)(k:Nat)(h:l.length<=k):(l.take k).foldl f z=l.foldl f z:=by rw[List.take_of_length_le h]
def asF(m s:Int):Int:=max m (cT s)
def IP(g:Int)(l:List Int):Int:=if aU g l then l.foldl asF 0 else -1
end
end Go.Proofs.YtkdbkjjacgigiaaGreatDoor
