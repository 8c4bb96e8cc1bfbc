/-
  Lemmas towards the law, 10: Draw, Extract, Free, DrawFun, Own, Fvs.
-/
import Derived.Test.YtbnkbepgmenblaaGreatDoorFAI
import Derived.Deep.DrawnRows
import Derived.Deep.RegionLaw
import Derived.Laws.BitsAllLaws
set_option linter.unusedVariables false
set_option maxHeartbeats 2000000
set_option maxRecDepth 100000
namespace Go.Proofs.YtbnkbepgmenblaaGreatDoor
open Go.RowKit Go.ChangeShapes Go.WideShapes Go.Deep
def q48(w:World)(B:Nat)(A:Option Addr)(ns:List Int):Prop:=ns= []\/ ∃b o,A=some ⟨b,o,none⟩/\b < B/\b < w.heap.size/\ ∀j (h:j < ns.length),w.cell? ⟨b,o+j,none⟩=some (.int .u8 ns[j])/\0<=ns[j]/\ns[j] < 256
theorem q48.below{w w':World}{B:Nat}{A:Option Addr}{ns:List Int}(h:q48 w B A ns)(hs:w.heap.size<=w'.heap.size)(he: ∀b,b < B->b < w.heap.size->w'.heap[b]? =w.heap[b]?):q48 w' B A ns:=by
 rcases h with h|⟨b,o,rfl,hb,hs',hc⟩
 · exact .inl h
 · exact .inr ⟨b,o,rfl,hb,by omega,fun j hj=>⟨(World.cell?_of_block (w:=w) (a:=⟨b,o+j,none⟩) (he b hb hs')).trans (hc j hj).1,(hc j hj).2⟩⟩
theorem q48.ext{w w':World}{B:Nat}{A:Option Addr}{ns:List Int}(h:q48 w B A ns)(he:Ext w w'):q48 w' B A ns:=h.below he.size (fun b _ hb=> he.heap b hb)
theorem q48.mono{w:World}{B B':Nat}{A:Option Addr}{ns:List Int}(h:q48 w B A ns)(hB:B<=B'):q48 w B' A ns:=by
 rcases h with h|⟨b,o,rfl,hb,r⟩
 · exact .inl h
 · exact .inr ⟨b,o,rfl,by omega,r⟩
theorem q48.take{w:World}{B:Nat}{A:Option Addr}{ns:List Int}(h:q48 w B A ns)(n:Nat):q48 w B A (ns.take n):=by
 rcases h with rfl|⟨b,o,rfl,hb,hs,hc⟩
 · exact .inl (by simp)
 · refine .inr ⟨b,o,rfl,hb,hs,fun j hj=> ?_⟩
   rw[List.length_take] at hj;rw[List.getElem_take];exact hc j (by omega)
section
variable {H : Type} {enc : TypeId × Value → H} {P : Program} {w : World} {spare : Nat → Bool} {held : Bool}
theorem q154{s i:TypeId}(hs:P.underlying s=some (.slice i))(hi:P.underlying i=some (.int .u8))(ci:P.cellsOf i=1){r:Reach}{b0:Nat}{v:Value}{d:DataW H}{p:List MemPlace}(hv:Value.okWide P w r b0 s v)(h:DataW.Trod enc P w 0 spare held s v d p):
 ∃(A:Option Addr) (cap:Nat) (ns:List Int),v= .slice A ns.length cap/\ns.length<=cap/\cap<=maxLen/\q48 w w.heap.size A ns/\(A=none->cap=0):=by
 obtain⟨a0,Nc,y9,rfl⟩:=okWide_slice hs hv;obtain⟨fuel,hf⟩:=h;rcases DataW.trod_slice hs hf with⟨hcs,_⟩ |⟨a,len,cap,elems,rest,n,rfl,hcs,_,_,hl,hm,hlen,ve,_,_⟩
 · simp only[Value.cells,List.cons.injEq,and_true] at hcs
   exact⟨none,0, [],hcs,Nat.le_refl _,Nat.zero_le _,.inl rfl,fun _=> rfl⟩
 · have lq: ∀j,j < len-> ∃x:Int,w.cell? (a.add j)=some (.int .u8 x)/\0<=x/\x < 256:=by
    intro j hj;have hj':=ve j hj;rw[List.getElem?_eq_getElem (by omega)] at hj';obtain⟨cs',h1,h2⟩:=Option.bind_eq_some_iff.1 hj';obtain⟨x,rfl,_,hwf⟩:=DataW.trod_int hi h2;obtain⟨_,_,hcell⟩:=World.cells?_some h1;rw[ci] at hcell;have q0:=hcell 0 (by omega);rw[Nat.mul_one] at q0;have e0: ∀y:Addr,y.add 0=y:=fun y=> by simp[Addr.add]
    rw[e0] at q0;simp[Lit.wf,IntKind.min,IntKind.max,IntKind.signed,IntKind.bits] at hwf
    exact⟨x,q0,by omega,by omega⟩
   obtain⟨ns,py,hp⟩:=q47 len lq;subst py;simp only[Value.cells,List.cons.injEq,and_true] at hcs;refine⟨some a,cap,ns,hcs,hl,hm, ?_,fun h=> by cases h⟩;cases ns with
   |nil=> exact .inl rfl
   |cons t0 ts=>
    obtain⟨b,o,spot⟩:=a;have hlt:b < w.heap.size/\spot=none:=by
     have q0:=(hp 0 (by simp)).1;have e0:(⟨b,o,spot⟩:Addr).add 0=⟨b,o,spot⟩:=by simp[Addr.add]
     rw[e0] at q0;exact⟨World.block_lt_of_cell? _ _ q0,by simpa using World.cell?_spot q0⟩
    obtain⟨hlt,rfl⟩:=hlt;refine .inr ⟨b,o,rfl,hlt,hlt,fun j hj=> ?_⟩;have q0:=hp j hj;rw[j62] at q0;exact q0
end
theorem y113(a b:Int)(h1:0<=a)(h2:a < 4611686018427387904)(h3:0<=b)(h4:b < 4611686018427387904):0<=bits .xor .i64 a b/\bits .xor .i64 a b < 4611686018427387904:=by
 obtain⟨x,rfl⟩:=Int.eq_ofNat_of_zero_le h1;obtain⟨y,rfl⟩:=Int.eq_ofNat_of_zero_le h3;have hx:x ^^^ y < 2 ^ 62:=Nat.xor_lt_two_pow (by omega) (by omega);have e:bits .xor .i64 (x:Int) (y:Int)=((x ^^^ y:Nat):Int):=by
  show IntKind.i64.wrap ((BitVec.ofInt 64 (x:Int)^^^ BitVec.ofInt 64 (y:Int)).toNat:Int)=_
  rw[BitVec.toNat_xor,ofInt_u64 x (by omega),ofInt_u64 y (by omega)];simp only[IntKind.wrap,IntKind.bits,IntKind.signed];simp
  omega
 rw[e];omega
def Rd(w:World)(g:Nat)(m:Nat):Prop:= ∃(A:Option Addr) (cap:Nat) (bs:List Int) (p:Nat),w.heap[g]? =some (.cells #[.slice A bs.length cap,.int .i64 p] 51 (0,0))/\bs.length<=cap/\cap<=maxLen/\bs.length<=2000/\p<=m/\q48 w g A bs
theorem Rd.drewN{w:World}{g m:Nat}(h:Rd w g m)(n:Nat):Rd (w.drewN n) g m:=by
 obtain⟨A,cap,bs,p,hb,h1,h2,h3,h4,hB⟩:=h;exact⟨A,cap,bs,p,hb,h1,h2,h3,h4,hB.below (Nat.le_refl _) (fun _ _ _=> rfl)⟩
theorem Only.drewN{L:List Nat}{a b:World}(h:Only L a b)(n:Nat):Only L a (b.drewN n):=⟨h.os,h.tape,h.output,h.size,h.block⟩
theorem own2{w:World}{g:Nat}{x0 x1:Value}{e:TypeId}(hb:w.heap[g]? =some (.cells #[x0,x1] e (0,0))):
 w.cell? ⟨g,0,none⟩=some x0/\w.cell? ⟨g,1,none⟩=some x1/\w.frozen? ⟨g,0,none⟩=false/\w.frozen? ⟨g,1,none⟩=false:=
 ⟨q10 hb 0,q10 hb 1,q14 hb 0,q14 hb 1⟩
theorem q206(w:World)(g m:Nat)(n:Int)(h:Rd w g m)(hm:m < 1125899906842624):Calls Tryz.prog 43 #[.pointer (some ⟨g,0,none⟩),.int .i64 n] w fun e w'=>
 ∃x:Int,e= .returned (.int .i64 x)/\0<=x/\(x=0\/x < n)/\Rd w' g (m+1)/\Only [g] w w':=by
 obtain⟨A,cap,bs,p,hb,hl,hc,h2,hp,hB⟩:=h;have hlt:=j10 hb;obtain⟨w1,i6⟩: ∃w1,w1=w.setCell ⟨g,1,none⟩ (.int .i64 ((p:Int)+1)):=⟨_,rfl⟩;have hb1:w1.heap[g]? =some (.cells #[.slice A bs.length cap,.int .i64 ((p:Int)+1)] 51 (0,0)):=i6▸q11 hb 1 _;have np:Only [g] w w1:=i6▸(Only.refl _ _).setCell (by simp) _;have V9:q48 w1 g A bs:=hB.below np.size (fun b hb hs=> np.block b hs (by simp;omega));have hR:Rd w1 g (m+1):=⟨A,cap,bs,p+1,by simpa using hb1,hl,hc,h2,by omega,V9⟩;obtain⟨c0,c1,f0,f1⟩:=own2 hb;obtain⟨d0,d1,-,-⟩:=own2 hb1;have HB:=hdq hb;have HB1:=hdq hb1;have HR:=hdq hR;clear hb hb1 hR;by_cases hn:n < 1
 · have b1:decide (n < 1)=true:=decide_eq_true hn
   go_enter Tryz.func43,Tryz.ntmps43;go_wp2_with fail;rw[<-i6];go_ret;exact⟨0,rfl,Int.le_refl _,.inl rfl,HR.out,np⟩
 have b1:decide (n < 1)=false:=decide_eq_false hn;by_cases hz:bs= []
 · subst hz
   go_enter Tryz.func43,Tryz.ntmps43;go_wp2_with fail;rw[<-i6];go_ret;exact⟨0,rfl,Int.le_refl _,.inl rfl,HR.out,np⟩
 have hlen:0 < bs.length:=List.length_pos_iff.2 hz;rcases hB with hB|⟨bb,o,rfl,hbg,hbs',hcell⟩
 · exact absurd hB hz
 have b2:((bs.length:Int)==0)=false:=by rw[beq_eq_false_iff_ne];omega
 by_cases hk:p < bs.length
 · have b3:decide ((p:Int) <(bs.length:Int))=true:=decide_eq_true (by omega)
   obtain⟨cp,Mt,Jt⟩:=hcell p hk;generalize bs[p]=x at cp Mt Jt;clear hcell;go_enter Tryz.func43,Tryz.ntmps43;go_wp2_with fail;rw[<-i6];go_ret;exact⟨_,rfl,Int.emod_nonneg _ (by omega),.inr (Int.emod_lt_of_pos _ (by omega)),HR.out,np⟩
 · have b3:decide ((p:Int) <(bs.length:Int))=false:=decide_eq_false (by omega)
   obtain⟨r1,hr1⟩: ∃r1:Nat,r1=p % bs.length:=⟨_,rfl⟩;obtain⟨r2,hr2⟩: ∃r2:Nat,r2=(p*7+3) % bs.length:=⟨_,rfl⟩;have h1:r1 < bs.length:=hr1▸Nat.mod_lt _ hlen;have h2:r2 < bs.length:=hr2▸Nat.mod_lt _ hlen;have e1:((p:Int) % (bs.length:Int))=(r1:Int):=by rw[hr1];exact(Int.natCast_emod p bs.length).symm
   have e2:(((p:Int)*7+3) % (bs.length:Int))=(r2:Int):=by rw[hr2];rw[Int.natCast_emod];rfl
   obtain⟨d,hd⟩: ∃d:Nat,d=p / bs.length:=⟨_,rfl⟩;have h3:d<=p:=hd▸Nat.div_le_self _ _;have e3:((p:Int) /(bs.length:Int))=(d:Int):=by rw[hd];exact(Int.natCast_ediv p bs.length).symm
   obtain⟨cp,Mt,Jt⟩:=hcell r1 h1;obtain⟨cq,cq0,cq1⟩:=hcell r2 h2;generalize bs[r1]=x at cp Mt Jt;generalize bs[r2]=y at cq cq0 cq1;clear hcell hr1 hr2 hd;go_enter Tryz.func43,Tryz.ntmps43;go_wp2_with fail;rw[<-i6]
   go_quiet (fail)
   obtain⟨z,hz⟩: ∃z:Int,z=x*131+y*1117+(p:Int)*29+(d:Int)*53:=⟨_,rfl⟩;rw[<-hz];have hz0:0<=z:=by omega
   have hz1:z < 4611686018427387904:=by omega
   have hx:=y113 z (z / 64) hz0 hz1 (by omega) (by omega);clear hz;generalize hq:bits .xor .i64 z (z / 64)=q at hx;go_wp2_with fail;rw[<-i6];go_ret;exact⟨_,rfl,Int.emod_nonneg _ (by omega),.inr (Int.emod_lt_of_pos _ (by omega)),HR.out.drewN _,np.drewN _⟩
theorem num_any(w:World)(g m:Nat)(h:Rd w g m)(hm:m < 1125899906842624)(A:Option Addr)(cap:Nat)(ns:List Int)(hl:ns.length<=cap)(hc:cap<=maxLen)(py:0 < ns.length)(hN:Nums w A ns)(hA: ∀b o,A=some ⟨b,o,none⟩->b≠g):Calls Tryz.prog 25 #[.pointer (some ⟨g,0,none⟩),.slice A ns.length cap] w fun e w'=>
 ∃x:Int,e= .returned (.int .i64 x)/\x∈ns/\Rd w' g (m+1)/\Only [g] w w':=by
 unfold maxLen at hc;rcases hN with hN|⟨b,o,rfl,hb,hcell⟩
 · subst hN
   cases py
 go_enter Tryz.func25,Tryz.ntmps25;go_wp2_with fail;refine(q206 w g m ns.length h hm).mono ?_;rintro e w1 ⟨i,rfl,h0,h1,hR,np⟩;obtain⟨j,rfl⟩:=Int.eq_ofNat_of_zero_le h0;have hj:j < ns.length:=by omega
 have hcj:w1.cell? ⟨b,o+j,none⟩=some (.int .i64 ns[j]):=(World.cell?_of_block (w:=w) (a:=⟨b,o+j,none⟩) (np.block b hb (by have:=hA b o rfl;simpa using this))).trans (hcell j hj);have j6:=List.getElem_mem hj;generalize ns[j]=x at hcj j6;clear hcell;go_wp2_with fail;go_ret;exact⟨x,rfl,j6,hR,np⟩
theorem q136(w:World)(A:Option Addr)(cap:Nat)(bs:List Int)(hl:bs.length<=cap)(hc:cap<=maxLen)(hB:q48 w w.heap.size A bs):Calls Tryz.prog 13 #[.slice A bs.length cap] w fun e w'=>
 e= .returned (.pointer (some ⟨w.heap.size,0,none⟩))/\Rd w' w.heap.size 0/\Ext w w':=by
 have hc':=hc;unfold maxLen at hc;have hR: ∀(k:Nat) (c:Nat),k<=bs.length->k<=c->c<=maxLen->k<=2000->Rd (w.alloc (.cells #[.slice A k c,.int .i64 0] 51)) w.heap.size 0:=by
  intro k c h1 h2 h3 h4;have hk:(bs.take k).length=k:=by rw[List.length_take];omega
  refine⟨A,c,bs.take k,0, ?_,by omega,h3,by omega,Nat.le_refl _,(hB.take k).ext ((xr w).alloc _)⟩;rw[hk];exact heap_alloc_new w _
 by_cases h2:2000 < bs.length
 · have d:decide ((2000:Int) <(bs.length:Int))=true:=decide_eq_true (by omega)
   have R:=hR 2000 cap (by omega) (by omega) hc' (Nat.le_refl _);go_enter Tryz.func13,Tryz.ntmps13;go_wp2_with fail;go_ret;exact⟨rfl,R,(xr w).alloc _⟩
 · have d:decide ((2000:Int) <(bs.length:Int))=false:=decide_eq_false (by omega)
   have R:=hR bs.length cap (Nat.le_refl _) hl hc' (by omega);go_enter Tryz.func13,Tryz.ntmps13;go_wp2_with fail;go_ret;exact⟨rfl,R,(xr w).alloc _⟩
end Go.Proofs.YtbnkbepgmenblaaGreatDoor
namespace Go.Proofs.YtbnkbepgmenblaaGreatDoor
open Go.RowKit
theorem y103{g:Sig}: ∀{ks:List Tr} {d:Int} {t:Tr},q21 g ks d=true->t∈ks->shape g t d=true
 |x::ks,d,t,h,hm=> by
  simp only[q21,Bool.and_eq_true] at h;rcases List.mem_cons.1 hm with rfl|hm
  · exact h.1
  · exact y103 h.2 hm
theorem j29{g:Sig}{k n:Int}{ks:List Tr}{d:Int}(h:shape g (.mk k n ks) d=true):g.ops k=(ks.length:Int)/\0<=n/\n<=g.most k/\ ∀t∈ks,shape g t (d - 1)=true:=by
 simp only[shape,y79,Bool.and_eq_true] at h;have h1:=of_decide_eq_true h.2.1.1;have h2:=j31.1 h.2.1.2;exact⟨h1,h2.1,h2.2,fun t ht=> y103 h.2.2 ht⟩
theorem Ext.below{W a w:World}(h:Ext a w)(hW:W.heap.size<=a.heap.size):Below W.heap.size a w:=⟨h.os,h.tape,h.output,h.size,fun b hb=> h.heap b (Nat.lt_of_lt_of_le hb hW)⟩
theorem Ext.trans'{W a b c:World}(h:Ext a b)(k:Below W.heap.size b c)(hW:a.heap.size<=W.heap.size):Ext a c:=Below.trans h (Below.mono k hW)
theorem Made.three'{w w':World}{e:TypeId}{t:Tr}{u:Value}(h:Made w w' e t u): ∃k n A l c,u= .agg #[.int .i64 k,.int .i64 n,.slice A l c]:=by
 obtain⟨k,n,ks⟩:=t;obtain⟨A,cap,rfl,_⟩:=Made.mk_iff.1 h;exact⟨k,n,A,_,cap,rfl⟩
attribute [local go_sem ↓] Go.wp_at_zero Go.wp_at_succ
def und(k:Int)(i:Nat):Int:=if i=1/\(k=3\/k=4\/k=13) then 1 else 0
theorem y64(k:Int)(i:Nat):0<=und k i/\und k i<=1:=by unfold und;split <;> omega
def isB(k:Int):Bool:=k==3||k==4||k==13
theorem und_eq(k:Int)(i:Nat):und k i=if((i:Int)==1 && isB k)=true then 1 else 0:=by
 unfold und isB;by_cases h:i=1
 · subst h
   by_cases h3:k=3
   · subst h3;rfl
   · by_cases h4:k=4
     · subst h4;rfl
     · by_cases K0:k=13
       · subst K0;rfl
       · rw[if_neg (by omega),if_neg (by simp[h3,h4,K0])]
 · rw[if_neg (by omega),if_neg (by rw[beq_eq_false_iff_ne.2 (by omega:(i:Int)≠1)];simp)]
theorem j11{g:Sig}{k n:Int}{ks:List Tr}{d:Int}(h:shape g (.mk k n ks) d=true):g.ops k=(ks.length:Int)/\0<=n/\n<=g.most k/\ ∀t∈ks,shape g t (d - 1)=true:=by
 have mem: ∀{ks:List Tr} {d:Int} {t:Tr},q21 g ks d=true->t∈ks->shape g t d=true:=by
  intro ks
  induction ks with
  |nil=> intro d t _ hm;cases hm
  |cons x ks ih=>
   intro d t h hm;simp only[q21,Bool.and_eq_true] at h;rcases List.mem_cons.1 hm with rfl|hm
   · exact h.1
   · exact ih h.2 hm
 simp only[shape,y79,Bool.and_eq_true] at h;have h1:=of_decide_eq_true h.2.1.1;have h2:=j31.1 h.2.1.2;exact⟨h1,h2.1,h2.2,fun t ht=> mem h.2.2 ht⟩
mutual
def mxf:Tr->Int->Int
 | .mk k n ks,b=> max (if k=1/\b<=n then n - b+1 else 0) (mxfs k ks 0 b)
def mxfs:Int->List Tr->Nat->Int->Int
 |_, [],_,_=> 0
 |k,t::ts,i,b=> max (mxf t (b+und k i)) (mxfs k ts (i+1) b)
end
mutual
theorem j159: ∀(t:Tr) (b:Int),0<=mxf t b
 | .mk k n ks,b=> by
  have:=j66 k ks 0 b;simp only[mxf];omega
theorem j66: ∀(k:Int) (ts:List Tr) (i:Nat) (b:Int),0<=mxfs k ts i b
 |_, [],_,_=> by simp[mxfs]
 |k,t::ts,i,b=> by
  have:=j66 k ts (i+1) b;simp only[mxfs];omega
end
theorem j119(k:Int)(w:World):Calls Tryz.prog 115 #[.int .i64 k] w fun e w'=> e= .returned (.bool (isB k))/\w=w':=by
 obtain⟨b3,h3⟩: ∃b,(k==3)=b:=⟨_,rfl⟩;obtain⟨b4,h4⟩: ∃b,(k==4)=b:=⟨_,rfl⟩;obtain⟨b13,K0⟩: ∃b,(k==13)=b:=⟨_,rfl⟩;have e:isB k=(b3||b4||b13):=by unfold isB;rw[h3,h4,K0]
 have E:=hdq e;clear e;cases b3 <;> cases b4 <;> cases b13
 all_goals go_enter Tryz.func115,Tryz.ntmps115
 all_goals go_wp2_with fail
 all_goals go_ret
 all_goals exact⟨by rw[E.out];rfl,rfl⟩
theorem j50(k:Int)(i:Nat)(w:World):Calls Tryz.prog 76 #[.int .i64 k,.int .i64 i] w fun e w'=> e= .returned (.int .i64 (und k i))/\w=w':=by
 obtain⟨b1,h1⟩: ∃b,((i:Int)==1)=b:=⟨_,rfl⟩;have HB:=hdq (j119 k);obtain⟨b2,h2⟩: ∃b,isB k=b:=⟨_,rfl⟩;have E:=hdq (und_eq k i);rw[h1,h2] at E;rw[h2] at HB;clear h2;cases b1 <;> cases b2
 all_goals go_enter Tryz.func76,Tryz.ntmps76
 all_goals go_wp2_with (go_at_call 115;refine(HB.out _).mono ?_;rintro e w1 ⟨rfl,rfl⟩)
 all_goals go_ret
 all_goals exact⟨by rw[E.out];rfl,rfl⟩
def mxV(t:Tr):Int:=if valid sigT t=true then mxf t 0 else -1
theorem y11{g:Sig}{t:Tr}(h:valid g t=true):shape g t 30=true/\cnt t<=400:=by
 unfold valid at h;rw[Bool.and_eq_true] at h;exact⟨h.1,of_decide_eq_true h.2⟩
theorem j135{w:World}{g:Nat}{cs:Array Value}{e:TypeId}{ns:List Int}(hb:w.heap[g]? =some (.cells cs e (0,0)))(hc:cs.toList=ns.map (Value.int .i64)):Nums w (some ⟨g,0,none⟩) ns:=by
 refine .inr ⟨g,0,rfl,j10 hb,fun j hj=> ?_⟩;rw[q10 hb,<-Array.getElem?_toList,hc,Nat.zero_add,List.getElem?_map,List.getElem?_eq_getElem hj]
 rfl
theorem Rd.ext{w w':World}{g m:Nat}(h:Rd w g m)(he:Ext w w'):Rd w' g m:=by
 obtain⟨A,cap,bs,p,hb,h1,h2,h3,h4,hB⟩:=h;exact⟨A,cap,bs,p,he.blk hb,h1,h2,h3,h4,hB.ext he⟩
theorem Rd.lt{w:World}{g m:Nat}(h:Rd w g m):g < w.heap.size:=by
 obtain⟨A,cap,bs,p,hb,_⟩:=h;exact j10 hb
theorem Rd.mono{w:World}{g m m':Nat}(h:Rd w g m)(hm:m<=m'):Rd w g m':=by
 obtain⟨A,cap,bs,p,hb,h1,h2,h3,h4,hB⟩:=h;exact⟨A,cap,bs,p,hb,h1,h2,h3,by omega,hB⟩
def y178(W w:World)(e:TypeId)(v:Value)(ns:List Int):Prop:=w.ownsRow W.heap.size e 1 v ns.length (ns.map (Value.int .i64))
theorem y178.only{W w w':World}{e:TypeId}{v:Value}{ns:List Int}{L:List Nat}(h:y178 W w e v ns)(ho:Only L w w')(hL: ∀b,b∈L->b < W.heap.size):y178 W w' e v ns:=by
 refine⟨h.1, ?_⟩;rcases h.2 with h|⟨g,cap,cur,rfl,h1,h2,r⟩
 · exact .inl h
 · exact .inr ⟨g,cap,cur,rfl,h1,(ho.block g (j10 h2) (fun hm=> by have:=hL g hm;omega)).trans h2,r⟩
theorem j151(w:World)(g m:Nat)(h:Rd w g m)(hm:m < 1125899906842624):Calls Tryz.prog 12 #[.pointer (some ⟨g,0,none⟩)] w fun e w'=>
 ∃x:Int,e= .returned (.int .i64 x)/\Rd w' g (m+1)/\Only [g] w w':=by
 have hlt:=h.lt;go_enter Tryz.func12,Tryz.ntmps12;go_wp2_with fail;refine(num_any _ g m (h.ext ((xr w).alloc _)) hm _ 10 [1,2,3,4,5,6,7,0,8,-1] (by simp) (by decide) (by simp) (j135 (heap_alloc_new w _) rfl) (by intro b o hb;simp at hb;omega)).mono ?_;rintro e w1 ⟨x,rfl,hx,hR,ho⟩;go_wp2_with fail;go_ret;exact⟨x,rfl,hR,((Only.refl _ _).alloc _).trans ho⟩
end Go.Proofs.YtbnkbepgmenblaaGreatDoor
namespace Go.Proofs.YtbnkbepgmenblaaGreatDoor
open Go.RowKit
attribute [local go_sem ↓] Go.wp_at_zero Go.wp_at_succ
def ownC(t:Tr):Prop:= ∀(w:World) (v:Value),Lies w t v->cnt t<=1000000->
 Calls Tryz.prog 34 #[v] w fun e w'=> ∃u,e= .returned u/\Made w w' 26 t u/\Ext w w'
theorem y163:(Tryz.prog.info? 26).map (fun i=>(i.zero,i.size,i.bytes))=some (some (.agg #[.int .i64 0,.int .i64 0,.slice none 0 0]),3,40):=by kernel_rfl
theorem j38: ∀t:Tr,ownC t:=Tr.ind fun k n ks hk=> by
 intro w v j8 Jp;obtain⟨A,cap,rfl,hl,hc,hK⟩:=Lies.mk_iff.1 j8;obtain⟨i0,hi,hz0,hz1,hz2⟩:=info_parts y163;have hcc:=hc;unfold maxLen at hcc;simp only[cnt] at Jp;have hlc:=j23 ks;go_enter Tryz.func34,Tryz.ntmps34;go_wp2_with fail;obtain⟨w1,i6⟩: ∃w1,w1=(w.alloc (.cells #[.int .i64 k,.int .i64 n,.slice A ks.length cap] 26)).alloc (.cells #[.int .i64 0,.int .i64 0,.slice none 0 0] 26):=⟨_,rfl⟩;obtain⟨W,hW⟩: ∃W,W=w1.alloc (.cells #[.int .i64 k,.int .i64 n,.slice none 0 0] 26):=⟨_,rfl⟩;have hs1:w1.heap.size=w.heap.size+1+1:=by rw[i6];simp
 have hsW:W.heap.size=w.heap.size+3:=by rw[hW];simp;omega
 have C5:Ext w w1:=i6▸((xr w).alloc _).alloc _;have vn:Ext w1 W:=hW▸(xr w1).alloc _;have I8:w1.heap[w.heap.size+1]? =some (.cells #[.int .i64 0,.int .i64 0,.slice none 0 0] 26 (0,0)):=by
  rw[i6];exact(blk2 (xr _)).2.1
 have Fj:W.heap[w.heap.size+1+1]? =some (.cells #[.int .i64 k,.int .i64 n,.slice none 0 0] 26 (0,0)):=by
  have:=heap_alloc_new w1 (.cells #[.int .i64 k,.int .i64 n,.slice none 0 0] 26);rw[hs1] at this;rw[hW];exact this
 rw[<-i6,<-hW];clear hW i6
 go_loopw [14] (fun i wr=> ∃(j:Nat) (v:Value),j<=ks.length/\i= .int .i64 j/\wr.heap[w.heap.size+1+1]? =some (.cells #[.int .i64 k,.int .i64 n,v] 26 (0,0))/\Grow W wr 26 v (ks.take j)/\Ext w1 wr/\W.heap.size<=wr.heap.size) (fun i _=> ks.length -(intOf i).toNat)
 case atStart=> exact⟨0,_,Nat.zero_le _,rfl,Fj,Grow.nil _ _ _,vn,Nat.le_refl _⟩
 case round=>
  obtain⟨j,v,hj,rfl,dp,hG,he,hle⟩:=hrel;by_cases hlt:j < ks.length
  · obtain⟨b,o,k',n',A',cap',kids,rfl,HK,c0,c1,c2,I6,G9,hK',C8,j6⟩:=hK.get (C5.trans he) hlt
    have eh:=List.take_append_getElem hlt;rw[HK.out] at eh;have hcm:=q16 j6;have hlen:(ks.take j).length < 1099511627776:=by rw[List.length_take];omega
    have mi:(ks.take j).length=j:=by rw[List.length_take];omega
    have HL:=hdq mi;go_wp2_with fail;have hx:=(xr wr).alloc (.cells #[.int .i64 k',.int .i64 n',.slice A' kids.length cap'] 26);have E8:=heap_alloc_new wr (.cells #[.int .i64 k',.int .i64 n',.slice A' kids.length cap'] 26);generalize wr.alloc _=w2 at hx E8;have Eu:W.heap.size<=w2.heap.size:=by have:=hx.size;omega
    have Gk:=hG.ext hx;have Bt:=hx.blk dp;have hv:=q10 Bt 2;have ll: ∀w',Below W.heap.size w2 w'->w'.heap[w.heap.size+1+1]? =some (.cells #[.int .i64 k,.int .i64 n,v] 26 (0,0)):=fun w' hB=>(hB.block (w.heap.size+1+1) (by omega)).trans Bt
    have O7:=hdq ll;obtain⟨d0,d1,d2,-,-,-⟩:=own3 E8;have V7:Ext w2 w2.drew:=(xr w2).drew;have Mr:=(C8.ext hx).ext V7;have vy:=he.trans hx;clear ll mi c0 c1 c2 dp hG he hle hcc
    go_region_law (first|(go_simp;go_at_call 34;refine(hk _ j6 _ _ Mr (by omega)).mono ?_;rintro e w4 ⟨u,rfl,hM,h4⟩;obtain⟨a1,a2,a3,a4,a5,rfl⟩:=hM.three';have hv4:=q10 (O7.out _ ((V7.trans h4).below Eu)) 2;have Jn:=World.block_lt_of_cell? _ _ hv4) |(refine y86 _ (by rfl) (.tmp 19) (.tmp 22) _ (by rfl) 26 i0 _ Tryz.underlying24 hi hz0 hz1 hz2 rfl (by rfl) Gk Eu (V7.trans h4) (hM.since (Nat.le_refl _)) ((xr _).alloc _) (by rfl) (heap_alloc_new _ _) hlen ?_;intro v' w5 S6 I3;obtain⟨B5,c5,rfl,q1,q2,-⟩:=S6.made;have hv5:=q10 (O7.out _ I3) 2;have hf5:=q14 (O7.out _ I3) 2))
    all_goals(
     have pn:Ext w1 w5:=vy.trans' I3 (by omega);have hs5:=I3.size;have hb6:=O7.out _ I3;rw[List.length_append,List.length_singleton,eh,show(ks.take j).length+1=min (j+1) ks.length from by rw[List.length_take];omega] at S6;have zn:=fun u=> S6.after ((q23.refl W.heap.size w5).setCell (p:=⟨w.heap.size+1+1,2,none⟩) (by show w.heap.size+1+1 < W.heap.size;omega) u)
     clear hv4 Jn hv O7 hM h4 d0 d1 d2 E8;go_wp2_with fail
     go_roundw
     case rel=> exact⟨j+1,_,by omega,by go_num,q11 hb6 2 _,zn _,pn.setCell (by show _<=w.heap.size+1+1;omega) _,by simp;omega⟩
     case measure=> simp[intOf];omega)
  · obtain⟨B5,c5,rfl,q1,q2,od⟩:=hG.made
    have N4:j=ks.length:=by omega
    have hln:(ks.take j).length=ks.length:=by rw[N4,List.take_length]
    obtain⟨r0,r1,r2,-,-,-⟩:=own3 dp;have mg:=he.blk I8;obtain⟨s0,s1,s2,f0,f1,f2⟩:=own3 mg;rw[hln] at q1 r2;rw[show ks.take j=ks from by rw[N4,List.take_length]] at od;clear hln dp;go_wp2_with fail;refine bodyPost_ret (v:= .agg #[.int .i64 k,.int .i64 n,.slice B5 ks.length c5]) (by simp[results,Tryz.results34,go_sem,s0,s1,s2]) rfl ⟨_,rfl, ?_, ?_⟩
    · exact Made.since (Made.after (Made.mk q1 q2 od) ((((q23.refl _ _).setCell (by show w.heap.size+1 < _;omega) _).setCell (by show w.heap.size+1 < _;omega) _).setCell (by show w.heap.size+1 < _;omega) _)) (by omega)
    · exact((((C5.trans he).setCell (by simp) _).setCell (by simp) _).setCell (by simp) _)
end Go.Proofs.YtbnkbepgmenblaaGreatDoor
namespace Go.Proofs.YtbnkbepgmenblaaGreatDoor
open Go.RowKit
mutual
def fvs:Tr->Int->List Int
 | .mk k n ks,b=>(if k=1/\b<=n then [n - b] else [])++fvss k ks 0 b
def fvss:Int->List Tr->Nat->Int->List Int
 |_, [],_,_=> []
 |k,t::ts,i,b=> fvs t (b+und k i)++fvss k ts (i+1) b
end
mutual
theorem q143: ∀(t:Tr) (b s:Int),0<=s->(fvs t b).foldl (fun s i=> max s (i+1)) s=max s (mxf t b)
 | .mk k n ks,b,s,hs=> by
  unfold fvs mxf;rw[List.foldl_append];by_cases h:k=1/\b<=n
  · rw[if_pos h,if_pos h]
    simp only[List.foldl_cons,List.foldl_nil];rw[q93 k ks 0 b _ (by omega),Int.max_assoc]
  · rw[if_neg h,if_neg h]
    simp only[List.foldl_nil];rw[q93 k ks 0 b s hs];have:=j66 k ks 0 b;omega
theorem q93: ∀(k:Int) (ts:List Tr) (i:Nat) (b s:Int),0<=s->(fvss k ts i b).foldl (fun s i=> max s (i+1)) s=max s (mxfs k ts i b)
 |_, [],_,_,s,hs=> by simp only[fvss,mxfs,List.foldl_nil];omega
 |k,t::ts,i,b,s,hs=> by
  unfold fvss mxfs;rw[List.foldl_append,q143 t _ s hs,q93 k ts (i+1) b _ (by omega),Int.max_assoc]
end
theorem j91(k:Int):sigT.most k<=20:=by
 show j15 k<=20
 unfold j15
 split
 · omega
 · split <;> omega
mutual
theorem j174: ∀(t:Tr) (b d:Int) (i:Int),shape sigT t d=true->0<=b->i∈fvs t b->0<=i/\i<=20/\i < mxf t b
 | .mk k n ks,b,d,i,hs,hb,hm=> by
  obtain⟨-,h0,h1,hk⟩:=j11 hs;have h2:=j91 k;unfold fvs at hm;unfold mxf;rcases List.mem_append.1 hm with hm|hm
  · by_cases h:k=1/\b<=n
    · rw[if_pos h] at hm⊢
      simp only[List.mem_singleton] at hm;omega
    · rw[if_neg h] at hm
      cases hm
  · have:=j140 k ks 0 b (d - 1) i hk hb hm
    omega
theorem j140: ∀(k:Int) (ts:List Tr) (j:Nat) (b d:Int) (i:Int),(∀t∈ts,shape sigT t d=true)->0<=b->i∈fvss k ts j b->0<=i/\i<=20/\i < mxfs k ts j b
 |_, [],_,_,_,_,_,_,hm=> by unfold fvss at hm;cases hm
 |k,t::ts,j,b,d,i,hs,hb,hm=> by
  unfold fvss at hm;unfold mxfs;have hu:=y64 k j;rcases List.mem_append.1 hm with hm|hm
  · have:=j174 t _ d i (hs t (by simp)) (by omega) hm
    omega
  · have:=j140 k ts (j+1) b d i (fun t ht=> hs t (by simp[ht])) hb hm
    omega
end
end Go.Proofs.YtbnkbepgmenblaaGreatDoor
