/- Lemmas for CardReports. No condition. -/
import Derived.Test.YtcpoomdoodlkjaaGreatDoorQ14
import Derived.Test.YtcpoomdoodlkjaaGreatDoorQ32
set_option maxRecDepth 100000
set_option maxHeartbeats 64000000
namespace Go.Proofs.YtcpoomdoodlkjaaGreatDoor
section
open Go.RowKit Go.G5 Go.Proofs.Tryz
theorem MD(w:World)(v:Value)(l:List Nat)(S:mJ w v l):
  Calls prog 7 #[v] w fun e w'=>∃(n:Int) (ad:Option Addr) (i D:Nat) (L:List Int),e=.returned (.agg #[n,aI ad i D])/\dD n/\aP 3 w w' (aI ad i D) L/\L.length<=64/\Below w w w':=by
 go_enter func7,ntmps7;go_wp2_with fail;refine bH ?_;intro V I;have B:Below w w V:=fU I;have z:aU V w 26 #[aJ,()]:=eJ I;have zV:w.heap.size+1<=V.heap.size:=by rw[I];simp
 clear I;refine(rK V _ _ (S.below B aO)).mono ?_;rintro e w1 ⟨rfl,K,F⟩;have z:=z.keep F;have B:=B.after F B.size;have zb:=F.size;have yD:=K.lt;clear F;go_wp2_with fail;refine(AA w1 V.heap.size K).mono ?_;rintro e w2 ⟨n,ad,i,D,L,rfl,N,Y,hL,Z,M⟩;have z:=z.grow M vI;have O:=B.grown M B.size kH;have G2:=z.cell;have F2:=z.frozen;go_wp2;refine bG ?_;intro Wf J;have t:=lX (w:=w) (E:=26) (m:=n) (b:=aI ad i D) z Y aO aK O J;have R:=t.1.cell;exact bodyPost_ret (v:=.agg #[n,aI ad i D]) (by simp[results,results7,go_sem,R]) rfl (by first|exact⟨n,ad,i,D,L,rfl,N,t.2.1,by omega,t.2.2⟩|exact⟨n,ad,i,D,rfl,N,L,t.2.1,by omega,t.2.2⟩)
theorem MG(w:World)(v:Value)(l:List Nat)(hv:mJ w v l):
  Calls prog 6 #[v] w fun e w'=>∃(n:Int) (ad:Option Addr) (i D:Nat) (L:List Int),e=.returned (.agg #[n,aI ad i D])/\dD n/\aP 3 w w' (aI ad i D) L/\L.length<=64/\Below w w w':=by
 go_enter func6,ntmps6;go_wp2_with fail;refine bH ?_;intro V N;have B:Below w w V:=fU N;have z:aU V w 26 #[aJ,()]:=eJ N;have zV:w.heap.size+1<=V.heap.size:=by rw[N];simp
 clear N;refine(rK V _ _ (hv.below B aO)).mono ?_;rintro e w1 ⟨rfl,R,K⟩;have z:=z.keep K;have B:=B.after K B.size;have zb:=K.size;have yD:=R.lt;clear K;go_wp2_with fail;refine(uT w1 V.heap.size R 2).mono ?_;rintro e w2 ⟨bb,rfl,Z,M⟩;have z:=z.grow M vI;have B:=B.grown M B.size kH;have z1:=M.size;clear R M
 cases bb with
 |true=>go_wp2_with fail;refine(VL w2 V.heap.size Z).mono ?_;rintro e w3 ⟨n,ad,i,D,L,rfl,J,Y,hL,D3,I⟩;have z:=z.grow I vI;have O:=B.grown I B.size kH;have G2:=z.cell;have F2:=z.frozen;go_wp2;refine bG ?_;intro Wf F;have t:=lX (w:=w) (E:=26) (m:=n) (b:=aI ad i D) z Y aO aK O F;have S:=t.1.cell;exact bodyPost_ret (v:=.agg #[n,aI ad i D]) (by simp[results,results6,go_sem,S]) rfl (by first|exact⟨n,ad,i,D,L,rfl,J,t.2.1,by omega,t.2.2⟩|exact⟨n,ad,i,D,rfl,J,L,t.2.1,by omega,t.2.2⟩)
 |false=>go_wp2_with fail;refine(zA w2 V.heap.size Z).mono ?_;rintro e w3 ⟨n,ad,i,D,L,rfl,J,Y,hL,D3,I⟩;have z:=z.grow I vI;have O:=B.grown I B.size kH;have G2:=z.cell;have F2:=z.frozen;go_wp2;refine bG ?_;intro Wf F;have t:=lX (w:=w) (E:=26) (m:=n) (b:=aI ad i D) z Y aO aK O F;have S:=t.1.cell;exact bodyPost_ret (v:=.agg #[n,aI ad i D]) (by simp[results,results6,go_sem,S]) rfl (by first|exact⟨n,ad,i,D,L,rfl,J,t.2.1,by omega,t.2.2⟩|exact⟨n,ad,i,D,rfl,J,L,t.2.1,by omega,t.2.2⟩)
theorem MF(w:World)(v:Value)(l:List Nat)(hv:mJ w v l):
  Calls prog 8 #[v] w fun e w'=>∃(n:Int) (a1:Option Addr) (i1 c1:Nat) (l1:List Int) (m:Int) (a2:Option Addr) (i2 c2:Nat) (l2:List Int),e=.returned (.tuple #[.agg #[n,aI a1 i1 c1],.agg #[m,aI a2 i2 c2]])/\dD n/\dD m/\aP 3 w w' (aI a1 i1 c1) l1/\aP 3 w w' (aI a2 i2 c2) l2/\l1.length<=64/\l2.length<=64/\Below w w w':=by
 go_enter func8,ntmps8;go_wp2_with fail;refine bH ?_;intro V J;have B:Below w w V:=gD J;have z:aU V w 26 #[aJ,()]:=gO J;have D:aU V (w.heap.size+1) 26 #[aJ,()]:=gY J;have zV:w.heap.size+2<=V.heap.size:=by rw[J];simp
 clear J;refine(VN V _ _ (hv.below B aO)).mono ?_;rintro e w2 ⟨n,ad,i,I,L,m,a2,i2,c2,L2,rfl,hn,hm,M,N,hL,R,b2⟩;have z:=z.keep b2;have D:=D.keep b2;have O:=B.after b2 B.size;have y2:=b2.size;obtain⟨Y,K⟩:=aQ ((w2.alloc (.cells #[n,aI ad i I] 26)).alloc (.cells #[m,aI a2 i2 c2] 26));have KF:aU Y w2 26 #[n,aI ad i I]:=gO K;have KG:aU Y (w2.heap.size+1) 26 #[m,aI a2 i2 c2]:=gY K;have F:Below w2 w2 Y:=gD K;have z:=z.keep F;have D:=D.keep F;have M:=M.keep F;have N:=N.keep F;have Z:=O.after F O.size;have HO:=aN (And.intro M N);have HB:=aN Z;have G0:=z.cell;have F0:=z.frozen;have G1:=D.cell;have F1:=D.frozen;have GF:=KF.cell;have GG:=KG.cell;have b5:∀j,Y.drew.cell? ⟨w2.heap.size,j,none⟩=#[Value.int .i64 n,aI ad i I][j]?:=GF;have b6:∀j,Y.drew.cell? ⟨w2.heap.size+1,j,none⟩=#[Value.int .i64 m,aI a2 i2 c2][j]?:=GG;clear b2 F O M N Z;go_upto_region 2 with fail;rw[<-K];clear K;go_region
 all_goals
  go_wp2;refine bG ?_;intro Wf S;have t:=IL (W:=Y) z D HO.out.1 HO.out.2 aK aO HB.out S;have H0:=t.1.cell;have H1:=t.2.1.cell;exact bodyPost_ret (v:=.tuple #[.agg #[n,aI ad i I],.agg #[m,aI a2 i2 c2]]) (by simp[results,results8,go_sem,H0,H1]) rfl ⟨n,ad,i,I,L,m,a2,i2,c2,L2,rfl,hn,hm,t.2.2.1,t.2.2.2.1,hL,R,t.2.2.2.2⟩
end
end Go.Proofs.YtcpoomdoodlkjaaGreatDoor
