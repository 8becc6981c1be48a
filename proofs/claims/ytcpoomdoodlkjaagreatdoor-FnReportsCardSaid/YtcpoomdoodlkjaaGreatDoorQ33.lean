/- Lemmas for CardReports. No condition. -/
import Derived.Test.YtcpoomdoodlkjaaGreatDoorQ14
import Derived.Test.YtcpoomdoodlkjaaGreatDoorQ32
set_option maxRecDepth 100000
set_option maxHeartbeats 64000000
namespace Go.Proofs.YtcpoomdoodlkjaaGreatDoor
section
open Go.RowKit Go.G5 Go.Proofs.Tryz
theorem L0(w:World)(v:Value)(l:List Nat)(S:mG w v l):
  Calls prog 7 #[v] w fun e w'=>∃(n:Int) (ad:Option Addr) (i D:Nat) (L:List Int),e=.returned (.agg #[n,ajH ad i D])/\dA n/\aM 3 w w' (ajH ad i D) L/\L.length<=64/\Below w w w':=by
 go_enter func7,ntmps7;go_wp2_with fail;refine bB ?_;intro V I;have B:Below w w V:=fR I;have z:aR V w 26 #['0',()]:=eG I;have zV:w.heap.size+1<=V.heap.size:=by rw[I];simp
 clear I;refine(rH V _ _ (S.below B aK)).mono ?_;rintro e w1 ⟨rfl,K,F⟩;have z:=z.keep F;have B:=B.after F B.size;have zb:=F.size;have yD:=K.lt;clear F;go_wp2_with fail;refine(zT w1 V.heap.size K).mono ?_;rintro e w2 ⟨n,ad,i,D,L,rfl,N,Y,hL,Z,M⟩;have z:=z.grow M vE;have O:=B.grown M B.size kE;have G2:=z.cell;have F2:=z.frozen;go_wp2;refine aZ ?_;intro Wf J;have t:=lU (w:=w) (E:=26) (m:=n) (b:=ajH ad i D) z Y aK aI O J;have R:=t.1.cell;exact bodyPost_ret (v:=.agg #[n,ajH ad i D]) (by simp[results,results7,go_sem,R]) rfl (by first|exact⟨n,ad,i,D,L,rfl,N,t.2.1,by omega,t.2.2⟩|exact⟨n,ad,i,D,rfl,N,L,t.2.1,by omega,t.2.2⟩)
theorem MC(w:World)(v:Value)(l:List Nat)(hv:mG w v l):
  Calls prog 6 #[v] w fun e w'=>∃(n:Int) (ad:Option Addr) (i D:Nat) (L:List Int),e=.returned (.agg #[n,ajH ad i D])/\dA n/\aM 3 w w' (ajH ad i D) L/\L.length<=64/\Below w w w':=by
 go_enter func6,ntmps6;go_wp2_with fail;refine bB ?_;intro V N;have B:Below w w V:=fR N;have z:aR V w 26 #['0',()]:=eG N;have zV:w.heap.size+1<=V.heap.size:=by rw[N];simp
 clear N;refine(rH V _ _ (hv.below B aK)).mono ?_;rintro e w1 ⟨rfl,R,K⟩;have z:=z.keep K;have B:=B.after K B.size;have zb:=K.size;have yD:=R.lt;clear K;go_wp2_with fail;refine(uQ w1 V.heap.size R 2).mono ?_;rintro e w2 ⟨bb,rfl,Z,M⟩;have z:=z.grow M vE;have B:=B.grown M B.size kE;have z1:=M.size;clear R M
 cases bb with
 |true=>go_wp2_with fail;refine(VH w2 V.heap.size Z).mono ?_;rintro e w3 ⟨n,ad,i,D,L,rfl,J,Y,hL,D3,I⟩;have z:=z.grow I vE;have O:=B.grown I B.size kE;have G2:=z.cell;have F2:=z.frozen;go_wp2;refine aZ ?_;intro Wf F;have t:=lU (w:=w) (E:=26) (m:=n) (b:=ajH ad i D) z Y aK aI O F;have S:=t.1.cell;exact bodyPost_ret (v:=.agg #[n,ajH ad i D]) (by simp[results,results6,go_sem,S]) rfl (by first|exact⟨n,ad,i,D,L,rfl,J,t.2.1,by omega,t.2.2⟩|exact⟨n,ad,i,D,rfl,J,L,t.2.1,by omega,t.2.2⟩)
 |false=>go_wp2_with fail;refine(yX w2 V.heap.size Z).mono ?_;rintro e w3 ⟨n,ad,i,D,L,rfl,J,Y,hL,D3,I⟩;have z:=z.grow I vE;have O:=B.grown I B.size kE;have G2:=z.cell;have F2:=z.frozen;go_wp2;refine aZ ?_;intro Wf F;have t:=lU (w:=w) (E:=26) (m:=n) (b:=ajH ad i D) z Y aK aI O F;have S:=t.1.cell;exact bodyPost_ret (v:=.agg #[n,ajH ad i D]) (by simp[results,results6,go_sem,S]) rfl (by first|exact⟨n,ad,i,D,L,rfl,J,t.2.1,by omega,t.2.2⟩|exact⟨n,ad,i,D,rfl,J,L,t.2.1,by omega,t.2.2⟩)
theorem MB(w:World)(v:Value)(l:List Nat)(hv:mG w v l):
  Calls prog 8 #[v] w fun e w'=>∃(n:Int) (a1:Option Addr) (i1 c1:Nat) (l1:List Int) (m:Int) (a2:Option Addr) (i2 c2:Nat) (l2:List Int),e=.returned (.tuple #[.agg #[n,ajH a1 i1 c1],.agg #[m,ajH a2 i2 c2]])/\dA n/\dA m/\aM 3 w w' (ajH a1 i1 c1) l1/\aM 3 w w' (ajH a2 i2 c2) l2/\l1.length<=64/\l2.length<=64/\Below w w w':=by
 go_enter func8,ntmps8;go_wp2_with fail;refine bB ?_;intro V J;have B:Below w w V:=fY J;have z:aR V w 26 #['0',()]:=gL J;have D:aR V (w.heap.size+1) 26 #['0',()]:=gV J;have zV:w.heap.size+2<=V.heap.size:=by rw[J];simp
 clear J;refine(VJ V _ _ (hv.below B aK)).mono ?_;rintro e w2 ⟨n,ad,i,I,L,m,a2,i2,c2,L2,rfl,hn,hm,M,N,hL,R,b2⟩;have z:=z.keep b2;have D:=D.keep b2;have O:=B.after b2 B.size;have y2:=b2.size;obtain⟨Y,K⟩:=aN ((w2.alloc (.cells #[n,ajH ad i I] 26)).alloc (.cells #[m,ajH a2 i2 c2] 26));have KF:aR Y w2 26 #[n,ajH ad i I]:=gL K;have KG:aR Y (w2.heap.size+1) 26 #[m,ajH a2 i2 c2]:=gV K;have F:Below w2 w2 Y:=fY K;have z:=z.keep F;have D:=D.keep F;have M:=M.keep F;have N:=N.keep F;have Z:=O.after F O.size;have HO:=aJ (And.intro M N);have HB:=aJ Z;have G0:=z.cell;have F0:=z.frozen;have G1:=D.cell;have F1:=D.frozen;have GF:=KF.cell;have GG:=KG.cell;have b5:∀j,Y.drew.cell? ⟨w2.heap.size,j,none⟩=#[Value.int .i64 n,ajH ad i I][j]?:=GF;have b6:∀j,Y.drew.cell? ⟨w2.heap.size+1,j,none⟩=#[Value.int .i64 m,ajH a2 i2 c2][j]?:=GG;clear b2 F O M N Z;go_upto_region 2 with fail;rw[<-K];clear K;go_region
 all_goals
  go_wp2;refine aZ ?_;intro Wf S;have t:=II (W:=Y) z D HO.out.1 HO.out.2 aI aK HB.out S;have H0:=t.1.cell;have H1:=t.2.1.cell;exact bodyPost_ret (v:=.tuple #[.agg #[n,ajH ad i I],.agg #[m,ajH a2 i2 c2]]) (by simp[results,results8,go_sem,H0,H1]) rfl ⟨n,ad,i,I,L,m,a2,i2,c2,L2,rfl,hn,hm,t.2.2.1,t.2.2.2.1,hL,R,t.2.2.2.2⟩
end
end Go.Proofs.YtcpoomdoodlkjaaGreatDoor
