import Derived.Ground.NamesProg
import Derived.Shelf.Slices.In.SortNone
import Derived.Shelf.Sort.Plain
import Derived.Sort.OwnSortedInts
import Derived.Test.YtjalhnlhcdfncaaGreatDoorBu27
set_option maxRecDepth 100000
set_option maxHeartbeats 0
namespace Go.Proofs
open Go.Shelf Go.Proofs.Tryz
def Tryz.lays189_ren:Go.Shelf.Ren:=⟨fun | 189=>34 | 125=>78 | 257=>77 | 128=>134 | 129=>135 | 294=>125 | 295=>126 | 296=>127 | 297=>128 | 298=>129 | 299=>130 | 216=>131 | 300=>132 | 301=>133 | 328=>197 | 329=>198 | 330=>199 | 331=>200 | 332=>201 | 215=>202 | 343=>246 | n=>n,fun | 28=>30 | 3=>3 | 46=>35 | 0=>0 | 51=>201 | 53=>203 | 4=>4 | 183=>193 | 182=>192 | 131=>198 | 5=>5 | 9=>9 | 218=>275 | 222=>279 | 228=>319 | 229=>249 | n=>n,fun | n=>n⟩
theorem Tryz.lays189:Go.Proofs.Lays.n189 prog Tryz.lays189_ren:={
 mixed:=by kernel_rfl
 f125:=Tryz.func78.trans (congrArg some (by kernel_rfl))
 f128:=Tryz.func134.trans (congrArg some (by kernel_rfl))
 f129:=Tryz.func135.trans (congrArg some (by kernel_rfl))
 f189:=Tryz.func34.trans (congrArg some (by kernel_rfl))
 f215:=Tryz.func202.trans (congrArg some (by kernel_rfl))
 f216:=Tryz.func131.trans (congrArg some (by kernel_rfl))
 f257:=Tryz.func77.trans (congrArg some (by kernel_rfl))
 f294:=Tryz.func125.trans (congrArg some (by kernel_rfl))
 f295:=Tryz.func126.trans (congrArg some (by kernel_rfl))
 f296:=Tryz.func127.trans (congrArg some (by kernel_rfl))
 f297:=Tryz.func128.trans (congrArg some (by kernel_rfl))
 f298:=Tryz.func129.trans (congrArg some (by kernel_rfl))
 f299:=Tryz.func130.trans (congrArg some (by kernel_rfl))
 f300:=Tryz.func132.trans (congrArg some (by kernel_rfl))
 f301:=Tryz.func133.trans (congrArg some (by kernel_rfl))
 f328:=Tryz.func197.trans (congrArg some (by kernel_rfl))
 f329:=Tryz.func198.trans (congrArg some (by kernel_rfl))
 f330:=Tryz.func199.trans (congrArg some (by kernel_rfl))
 f331:=Tryz.func200.trans (congrArg some (by kernel_rfl))
 f332:=Tryz.func201.trans (congrArg some (by kernel_rfl))
 f343:=Tryz.func246.trans (congrArg some (by kernel_rfl))
 t0:=underlying0
 a0:=Tryz.isAgg0
 z0:=Tryz.sizeOf0
 v0:=Tryz.zeroValue0
 t3:=underlying3
 a3:=Tryz.isAgg3
 z3:=Tryz.sizeOf3
 v3:=Tryz.zeroValue3
 t4:=underlying4
 a4:=Tryz.isAgg4
 z4:=Tryz.sizeOf4
 v4:=Tryz.zeroValue4
 t5:=underlying5
 a5:=Tryz.isAgg5
 z5:=Tryz.sizeOf5
 v5:=Tryz.zeroValue5
 t9:=underlying9
 a9:=Tryz.isAgg9
 z9:=Tryz.sizeOf9
 v9:=Tryz.zeroValue9
 t28:=underlying30
 a28:=Tryz.isAgg30
 z28:=Tryz.sizeOf30
 v28:=Tryz.zeroValue30
 t46:=underlying35
 a46:=Tryz.isAgg35
 z46:=Tryz.sizeOf35
 v46:=Tryz.zeroValue35
 t51:=underlying201
 a51:=Tryz.isAgg201
 z51:=Tryz.sizeOf201
 v51:=Tryz.zeroValue201
 t53:=underlying203
 a53:=Tryz.isAgg203
 z53:=Tryz.sizeOf203
 v53:=Tryz.zeroValue203
 t131:=underlying198
 a131:=Tryz.isAgg198
 z131:=Tryz.sizeOf198
 v131:=Tryz.zeroValue198
 t182:=underlying192
 a182:=Tryz.isAgg192
 z182:=Tryz.sizeOf192
 v182:=Tryz.zeroValue192
 t183:=underlying193
 a183:=Tryz.isAgg193
 z183:=Tryz.sizeOf193
 v183:=Tryz.zeroValue193
 t218:=underlying275
 a218:=Tryz.isAgg275
 z218:=Tryz.sizeOf275
 v218:=Tryz.zeroValue275
 t222:=underlying279
 a222:=Tryz.isAgg279
 z222:=Tryz.sizeOf279
 v222:=Tryz.zeroValue279
 t228:=underlying319
 a228:=Tryz.isAgg319
 z228:=Tryz.sizeOf319
 v228:=Tryz.zeroValue319
 t229:=underlying249
 a229:=Tryz.isAgg249
 z229:=Tryz.sizeOf249
 v229:=Tryz.zeroValue249 }
open Go.Sort Go.RowKit in
theorem Tryz.slices_Sort_int (blk E cap:Nat) (G:List Int) (w:World) (I:Holds (Value.int .i64) w blk E G.toArray) (F:blk<w.heap.size) (H:G.length<4611686018427387904) :
  Calls prog 34 #[.slice (some ⟨blk,E,none⟩) G.length cap] w fun e J =>
   e=.returned (.tuple #[])/\∃n os,J=grow (putRow (Value.int .i64) (Sort.ahead w n) blk E (G.mergeSort fun x y=>decide (x<=y)).toArray) os:=Any.slices_Sort_int Tryz.lays189 blk E cap G w I F H
end Go.Proofs
namespace Go.Proofs.YtjalhnlhcdfncaaGreatDoor
open Go.RowKit Go.Proofs.Tryz
theorem qnU {N R:Nat} (q:Nat->Rat) (h:R<=N):(told N q).take R=told R q:=by
 unfold told;rw [<-List.map_take,List.take_range,qaX h]
theorem FCells.firsts {W:World} {F:Option Addr} {b E:Nat} {l:List FT} (h:FCells W F b E l) (m:Nat):FCells W F b E (l.take m) :=
 ⟨fun G=>h.addr (by rw [qao] at G;omega),fun k H=>by
  rw [qao] at H;have e:(l.take m).getD k fd0=l.getD k fd0:=by rw [qaa,qbE (by omega),<-qaa]
  rw [e];exact h.cell k (by omega)⟩
theorem infoBl:(Tryz.prog.info? 4).map (fun i=>(i.zero,i.size,i.bytes))=some (some (.bool false),1,1):=by kernel_rfl
theorem make_bs (n:Nat) (I:n<=1000) (w:World):(Instr.makeSlice 79 (.int .i64 (n:Int)) (.int .i64 (n:Int))).run prog w=.ok (.slice (some ⟨w.heap.size,0,none⟩) n n) (w.alloc (.cells (madeCells #[.bool false] n) 4)):=by
 obtain⟨i,H,E,F,G⟩:=info_parts infoBl;have h:=run_make (P:=prog) w 79 4 i _ underlying79 H E .i64 .i64 (n:Int) (n:Int) (by omega) (Int.le_refl _) (by rw [G];omega) (by omega);rw [F,Int.toNat_natCast,qbO] at h;exact h
theorem qny (s:Nat->Rat) (n:Nat):madeCells #[.bool false] n=(seenL s n 0).toArray:=by
 rw [qlB,<-toList_madeCells_one]
theorem qnE (B g n c:Nat) (d:List Nat) (w:World) (h:NatR w B g n c d) (hn:n<=1000) :
  Calls prog 34 #[.slice (some ⟨g,0,none⟩) n c] w fun e U=>e=.returned (.tuple #[])/\w.grownBy U (some g)/\IOwn U B (.slice (some ⟨g,0,none⟩) n c) ((natI d).mergeSort fun x y=>decide (x<=y)):=by
 have Y:(natI d).length=n:=by rw [qcE];exact h.len
 have E:=h.own;unfold IOwn at E;rcases E.2 with ⟨e,_⟩ | ⟨g',cap,cur,e,hB,hg,J,hm,O,H⟩
 ·cases e
 ·injection e with F e2 e3;have F:=qag F;injection F with F;subst F e3;have I:=(qG hg).1;have Z:=Tryz.slices_Sort_int g 0 c (natI d) w (holds_of_blockI hg (by rw [qbO] at H;exact H)) I (by omega);rw [Y] at Z;refine Z.mono ?_;rintro e U ⟨rfl,q,os,rfl⟩;have G:((natI d).mergeSort fun x y=>decide (x<=y)).length=(natI d).length:=List.length_mergeSort _;have V:=ownsRow_sortedI (n:=q) (os:=os) G hB hg J hm O;refine⟨rfl,grownBy_sortedI _,?_⟩;unfold IOwn;rw [G];rw [Y] at V ⊢;exact V
theorem ql3 {W:World} {B n:Nat} {v:Value} {d:List Nat} (h:W.ownsRow B 3 1 v n ((natI d).map (Value.int .i64))) (F:d.length=n) (H:v≠.slice none 0 0):∃g c,v=.slice (some ⟨g,0,none⟩) n c/\B<=g/\NatR W B g n c d:=by
 have G:(natI d).length=n:=by rw [qcE];exact F
 have E:=h;rcases h.2 with ⟨rfl,_⟩ | ⟨g,cap,cur,rfl,hB,_⟩
 ·exact absurd rfl H
 ·exact⟨g,cap,rfl,hB,F,by unfold IOwn;rw [G];exact E⟩
theorem qgU (ao:Option Addr) (b aW c s m:Nat) (L:List Dr) (w0:World) (hL:L.length<=9223372036854775807) (hc:L.length<=c) (hs:s<256) (hm:m<256) (h:DrCells w0 ao b aW L) (hT:HasT w0) :
  Calls prog 10 #[.slice ao L.length c,.int .u8 (s:Int),.int .u8 (m:Int)] w0 fun e w'=>e=.returned (.bool true)/\Below w0.heap.size w0 w':=by
 have H0:=qH (qA h (qA hT (qA hL hc)));clear h hT hL hc;go_enter func10,ntmps10;go_wp2_with fail;refine (qlQ w0 H0.o.2.1).mono ?_;rintro e w2 ⟨rfl,hb⟩;have K2:Kn (fun W=>Below w0.heap.size w0 W) w2:=.of hb;clear hb;have HS:=qH (qlD ao b aW c s L w2 H0.o.2.2.1 H0.o.2.2.2 hs (H0.o.1.below K2.o));go_wp2_with fail;refine HS.o.mono ?_;rintro e w3 ⟨a2,g,cap,rfl,ak,hF,hb⟩;obtain⟨N,hN⟩:=qX (min L.length 42);rw [hN] at ak hF ⊢;obtain⟨R,hR⟩:=qX (min N 40);have bJ:min (N:Int) 40=(R:Int):=by omega
 have bf:R<=N:=by omega
 have bA:R<=40:=by omega
 have bD:(R:Int)<=(cap:Int):=by omega
 have ay:FCells w3 a2 g 0 (told R (shq L s)):=by have:=hF.firsts R;rwa [qnU _ bf] at this
 obtain⟨o2,aU⟩:∃o,0=o:=⟨_,rfl⟩;rw [aU] at ay;have K3:=(K2.below hb).also (q:=fun W=>FCells W a2 g o2 (told R (shq L s))) ay;have HO:=qH (qgQ R g o2 cap a2 (told R (shq L s)) w3 (qb1 _ _) (by omega) K3.o.2);have HB:=qH (fun W (n:Int) hF=>qkR R g o2 cap n a2 (told R (shq L s)) W (qb1 _ _) (by omega) hF);have ag:FAll (told R (shq L s)):=qc2 fun i _=>Dr.short _
 have HA:=qH ag;clear ag hF ay hb ak hN hR HS K2 aU;go_wp2_with fail;refine HO.o.mono ?_;rintro e H ⟨aM,⟨z,G,hz,rfl⟩ | ⟨_,g4,rfl,O⟩⟩
 ·exfalso;rcases hz with ⟨h1,_⟩ | ⟨_,h2,_⟩ | ⟨_,_,h3⟩
  ·rw [qb1] at h1;omega
  ·exact h2 HA.o
  ·exact G h3
 obtain⟨S,hS⟩:=qX (lval (told R (shq L s)));rw [qb1,hS] at O;rw [qb1];have aI:Hu (∀i,i<R->S i=shq L s i):=qH fun i hi=>by rw [<-hS];exact qcU hi
 have aY:=qH hS;have K4:=(K3.below aM).also (q:=fun W=>NatR W w3.heap.size g4 R R (qck S R)) O;obtain⟨W5,aL,N5⟩:=nw1 H (madeCells #[.bool false] R) 4;have bu:=fun W=>make_bs R (by omega) W
 have aG:Hu (Below H.heap.size H W5/\W5.heap[H.heap.size]? = some (.cells (seenL S R 0).toArray 4 (0,0))):=qH ⟨N5.o.1,by rw [<-qny];exact N5.o.2⟩;clear aM O hS HO K3 N5;go_upto_region 9 with fail;rw [<-aL];clear aL bu;go_wp2_with fail
 go_loopw [11,12,13,14,46] (fun x11 x12 x13 x14 x46 W=>∃i:Nat,x46=.int .i64 (i:Int)/\i<=R/\Kn (fun W=>Below H.heap.size H W) W/\Hu (W.heap[H.heap.size]? = some (.cells (seenL S R i).toArray 4 (0,0)))) (fun _ _ _ _ x46 _=>R-(intOf x46).toNat)
 case atStart=>exact⟨0,rfl,qaj _,.of aG.o.1,qH aG.o.2⟩
 case round =>
  obtain⟨i,rfl,hi,K6,Y⟩:=hrel
  by_cases F:i<R
  ·have bn:(i:Int)<(R:Int):=by omega
   have K7:=K4.below K6.o;obtain⟨x,hx⟩:=qX (orF S R i);have aA:x<R:=by rw [<-hx];exact qiY F
   have bK:¬(x:Int)<0:=by omega
   have bL:¬(x:Int)≥(R:Int):=by omega
   have bM:(x:Int)<(R:Int):=by omega
   have c1:=(K7.o.2.at (hx▸qiX F)).1;have c2:=(qC _ _ x _ _ _ Y.o).trans (show (seenL S R i).toArray[x]? = some (.bool false) by rw [qaC,<-hx];exact seenL_at F);have f2:=qF _ _ x _ _ Y.o;obtain⟨W6,aa⟩:∃W,W=wr.setCell ⟨H.heap.size,x,none⟩ (.bool true):=⟨_,rfl⟩;have I:Hu (Below H.heap.size H W6/\W6.heap[H.heap.size]? = some (.cells (seenL S R (i+1)).toArray 4 (0,0))):=qH (by
    rw [aa];refine⟨qcP K6.o (qb0 wr H.heap.size x (.bool true)) qN,?_⟩;have h:=heap_setCell_same wr H.heap.size x _ _ (.bool true) Y.o;have e:(seenL S R i).set x (.bool true)=seenL S R (i+1):=by rw [<-hx];exact qnx F
    rw [qaL,e] at h;exact h)
   have HX:=qH hx;clear hx
   by_cases aT:i=0
   ·subst aa;have bi:((i:Int) == (0:Int))=true:=by rw [beq_iff_eq];omega
    clear aT;go_wp2;go_roundw
    case rel=>exact⟨i+1,by go_num,F,.of I.o.1,qH I.o.2⟩
    case measure=>simp [intOf];omega
   ·obtain⟨j,hj⟩:∃j,j+1=i:=⟨i-1,by omega⟩;have bi:((i:Int) == (0:Int))=false:=beq_false_of_ne (by omega);have bG:(i:Int)-1=(j:Int):=by omega
    have bH:(j:Int)<(R:Int):=by omega
    have bI:IntKind.i64.wrap (j:Int)=(j:Int):=by rw [IntKind.wrap_i64];omega
    obtain⟨y,hy⟩:=qX (orF S R j);have aB:y<R:=by rw [<-hy];exact qiY (by omega)
    have bN:(y:Int)<(R:Int):=by omega
    have af:=orF_stab (s:=S) (n:=R) (i:=j) (j:=i) (by omega) F;rw [hy,HX.o,aI.o y aB,aI.o x aA] at af;have K8:=K4.below I.o.1;have bg:=K8.o.1.2.addr (by rw [qb1];omega);subst bg;have bj:=(K8.o.2.at (hy▸qiX (show j<R by omega))).1;obtain⟨y0,y1⟩:=K8.o.1.2.cell y (by rw [qb1];exact aB);obtain⟨x0,x1⟩:=K8.o.1.2.cell x (by rw [qb1];exact aA);rw [qdr aB] at y0 y1;rw [qdr aA] at x0 x1;have V:=fun W=>cmpq_at (show Short (shq L s y) from Dr.short _) (show Short (shq L s x) from Dr.short _) (by rcases af with h | ⟨h,_⟩ <;> grind) W
    obtain⟨s1,s2,av⟩:=qcF (shq L s y);obtain⟨t1,t2,ax⟩:=qcF (shq L s x);rw [av] at y0 y1 V;rw [ax] at x0 x1 V;dsimp only at y0 y1 x0 x1;have HC:=qH (V W6.drew);have aZ:=qH af;have J:=fun {q:Addr} {v:Value} (h:W6.cell? q=some v)=>(fun (W:World) (hb:Below W6.heap.size W6 W)=>(hb.cell (qac W6 _ h)).trans h)
    have b0:=J bj;have b1:=J y0;have b2:=J y1;have b3:=J x0;have b4:=J x1;have bC:=qH bj;clear J bj y0 y1 x0 x1 av ax V af hy aT hj;go_upto_region 16 with fail;rw [<-aa];clear aa c1 c2 f2;refine wp_region_held_drew (S:=fun W=>Below W6.heap.size W6 W) (by kernel_rfl) qB.drew (fun hS0=>?_);refine hT 0 (h:=hT 1 (h:=hT 2 (h:=hT 3 (h:=hT 4 (h:=hT 5 (h:=hT 6 (h:=hT 7 (h:=hT 8 (h:=hT 9 (h:=hT 10 (h:=hT 11 (h:=?_))))))))))));refine hC 12 HC.o (h:=?_);rintro e w7 ⟨cz,rfl,aP,aN⟩;have E:=qcg aN;refine⟨_,rfl,E,hN (h:=?_)⟩;refine hT 13 (hS:=E) (h:=hT 14 (hS:=E) (h:=hT 15 (hS:=E) (h:=hT 16 (hS:=E) (h:=hT 17 (hS:=E) (h:=?_)))));refine wpAnyH_done (by kernel_rfl) ?_ _;have HE:Hu (Below H.heap.size H w7/\w7.heap[H.heap.size]? = some (.cells (seenL S R (i+1)).toArray 4 (0,0))):=qH ⟨I.o.1.trans (E.mono I.o.1.size),(E.block _ (qG I.o.2).1).trans I.o.2⟩;have bk:=b0 _ E;have bF:¬(0<cz):=by omega
    have HZ:=qH aP.2;clear E aN hS0 b0 b1 b2 b3 b4 aP HC
    by_cases G:cz=0
    ·have bO:¬(x:Int)<(y:Int):=by
      have h1:=HZ.o G;rcases aZ.o with h | ⟨_,h⟩
      ·rw [h1] at h;exact absurd h (by grind)
      ·omega
     subst G;go_wp2;go_roundw
     case rel=>exact⟨i+1,by go_num,F,.of HE.o.1,qH HE.o.2⟩
     case measure=>simp [intOf];omega
    ·have bP:(cz == (0:Int))=false:=beq_false_of_ne G;clear G bk;go_wp2;go_roundw
     case rel=>exact⟨i+1,by go_num,F,.of HE.o.1,qH HE.o.2⟩
     case measure=>simp [intOf];omega
  ·obtain rfl:i=R:=by omega
   have bn:¬(i:Int)<(i:Int):=by omega
   have K7:=K4.below K6.o;obtain⟨n,hn⟩:=qX (m % (i+1));have ae:n<=i:=by have:=qbR m (show 0<i+1 by omega);omega
   have e2:(m:Int) % ((i:Int)+1)=(n:Int):=by rw [<-hn];simp
   have e1:(m:Int).tmod ((i:Int)+1)=(n:Int):=by rw [qby (by omega)];exact e2
   have bB:(n:Int)<=(i:Int):=by omega
   have aF:=qH (Tryz.slices_Clone_int g4 0 n i (natI (qck S i)) wr (by rw [qcE,qcB];exact ae) (by omega) (fun j hj=>K7.o.2.all.cell j hj));clear hn Y;go_wp2_with fail;refine aF.o.mono ?_;rintro e w8 ⟨v,rfl,aV,hv,aO⟩;obtain⟨g5,c5,rfl,aR,aK⟩:=ql3 (d:=(qck S i).take n) (by
    have e:natI ((qck S i).take n)=(natI (qck S i)).take n:=List.map_take;rw [e];exact aV) (by rw [qao,qcB];omega) hv
   have aH:=qH (qnE wr.heap.size g5 n c5 _ w8 aK (by omega));have HG:=qH (qA aO aR);clear aV hv aO aK aR aF e1 e2;go_wp2_with fail;refine aH.o.mono ?_;rintro e w9 ⟨rfl,aS,U⟩;rw [qnF] at U;have K9:=(K7.below (qcP HG.o.1 aS HG.o.2)).also (q:=fun W=>NatR W wr.heap.size g5 n c5 (bestL S i n)) ⟨qfd ae,U⟩;have HI:=qH (qmV (some ⟨g5,0,none⟩) n c5 w9);clear aS U aH HG;go_wp2_with fail;refine HI.o.mono ?_;rintro e aX ⟨gb,rfl,ah,au⟩;have aJ:=(K9.below ah).also (q:=fun W=>W.heap[gb]? = some (.cells #[.slice (some ⟨g5,0,none⟩) n c5] 30 (0,0))) au;have aD:=qH (HB.o aX (n:Int) aJ.o.1.1.1.2);clear ah au HI;go_wp2_with fail;refine aD.o.mono ?_;rintro e bz ⟨ai,⟨z,G,hz,rfl⟩ | ⟨_,bv,rfl⟩ | ⟨_,g6,k,hk,bq,rfl,az⟩⟩
   ·exfalso;rcases hz with ⟨h1,_⟩ | ⟨_,h2,_⟩ | ⟨_,_,h3⟩
    ·rw [qb1] at h1;omega
    ·exact h2 HA.o
    ·exact G h3
   ·exact absurd ⟨by omega,by rw [qb1];omega⟩ bv
   ·obtain rfl:n=k:=by omega
    rw [qb1,aY.o] at az;have Z:=(aJ.below ai).also (q:=fun W=>NatR W aX.heap.size g6 n n (bestL S i n)) az;have HF:=qH (qhV g6 0 n n g5 0 n c5 gb (natI (bestL S i n)) (natI (bestL S i n)) 0 bz Z.o.1.2 (by rw [qcE];exact qfd ae) (by rw [qcE];exact qfd ae) (by omega) (by omega) Z.o.2.all Z.o.1.1.2.all);have bE:∀(x y p:Value) (W:World),(callFunc 72 #[x,y,p]).run prog W=.ok (.enter 72 #[x,y,p]) W:=fun x y p W=>enters func72 (by kernel_rfl) (by kernel_rfl) _ W
    clear ai az hk bq aD;go_wp2_with fail;refine HF.o.mono ?_;rintro e bQ ⟨rfl,aj⟩;have aC:=qH ((Z.below aj).o.1.1.1.1.1);have aQ:(natI (bestL S i n) == natI (bestL S i n))=true:=beq_self_eq_true _;rw [aQ];clear aj aQ;go_wp2;go_ret;exact⟨rfl,aC.o⟩
end Go.Proofs.YtjalhnlhcdfncaaGreatDoor
section
namespace Go.Proofs.YtjalhnlhcdfncaaGreatDoor
open Go.ChangeShapes Go.WideShapes Go.ChangeAt Go.RowKit Go.Proofs.Tryz
open Go.ChangeMaps (open_string shut_string)
namespace LrobustSorts
theorem lifted (os:Os) (G:os.Started) (H:Type) (enc:TypeId×Value->H) :
  ReturnsInHanded {} Tryz.checked os 10 .any (fun w args=>(Rows.robustSortsSpec.pre enc prog Tryz.f10 [] false w args/\laidMetH prog laidK w)/\sizedMet enc prog Tryz.f10 (OpenSpec.ofChange Rows.robustSortsSpec) false w args)
   (Rows.robustSortsSpec.post enc prog Tryz.f10 false true false false):=by
 refine returnsInHanded_of_change_and (C:=Tryz.checked) (X:=fun w _=>laidMetH prog laidK w) (fun _ _ _ hh h=>h.of_heap hh) Tryz.own G (by kernel_rfl) func10
  (ChangeSpec.witness_shaped (enc:=enc) (C:=Tryz.checked) (os:=os) (X:=fun w _=>laidMetH prog laidK w) false (World.laidAll prog os laidK) #[.slice none 0 0,.int .u8 0,.int .u8 0] 8 (World.laidAll_os _ _ _) (World.shaped_of_ZipB (by kernel_rfl) (by kernel_rfl)) (by kernel_rfl) (by kernel_rfl) (by kernel_rfl) (by rw [MakeChecks.laidMetH_plain _ _ _ (by kernel_rfl)];exact laidMet_laidAll _ (by kernel_rfl) (by kernel_rfl))) ?_
 intro W base args ds gs O F hW _ ah hL _;have E:∀(j:Nat) t v,Tryz.f10.params[j]? = some t->args[j]? = some v->Value.okWide prog W .any base t v:=F;have J:=hW;obtain⟨p,q,I,hV,rfl,aj,ak⟩:=hW;have hA:DataW.TrodAll enc prog W 0 (fun _=>true) true Tryz.f10.params.toList args.toList ds p:=I;rw [Tryz.params10] at hA E;obtain⟨v0,v1,v2,d0,d1,d2,p0,p1,p2,rfl,rfl,rfl,h0,h1,h2⟩:=trodAll_three hA;obtain⟨rfl,rfl⟩:=trodVars_none hV;have k0:=h0;have ai:∀x∈p0,x.block<W.heap.size:=by obtain⟨m,hm⟩:=k0;exact DataW.trod_lt m _ _ _ hm
 obtain⟨U,V,ae,Y,D0,rfl,aa,Z,af⟩:=open_ds (E 0 23 v0 rfl rfl) h0;obtain⟨z1,rfl,rfl,rfl,w1⟩:=open_int underlying5 (E 1 5 v1 rfl rfl) h1;obtain⟨t,rfl,kt⟩:=wf_u8 w1;obtain⟨z2,rfl,rfl,rfl,w2⟩:=open_int underlying5 (E 2 5 v2 rfl rfl) h2;obtain⟨s,rfl,ks⟩:=wf_u8 w2;clear I F ah;simp only [qbw] at J;refine (qgU U V ae Y t s D0 W aa Z kt ks af (of_laid hL)).mono fun e W' ⟨he,hb⟩=>?_
 subst he;exact⟨_,rfl,qh6 (pa:=p0) (pv:=[]) J (fun _ _ _=>trodAll_mk1 (shut_bool underlying4 _)) (fun sp ag=>(by have h:=trodAll_mk3 (show DataW.Trod enc prog _ 0 sp true 23 _ d0 p0 from (WideElems.Trod_stays Tryz.laidOut (by kernel_rfl) (of_decide_eq_true (by kernel_rfl)) k0 (fun x hx=>hb.same (ai x hx)) (fun x hx=>ag x (by simp [hx])))) (shut_int underlying5 w1) (shut_int underlying5 w2);simp only [qbw] at h;exact h)) (fun _ _=>rfl) (by simp) hb (ok_one (by kernel_rfl) rfl (okWide_bool_mk underlying4 _))⟩
theorem j1:(Rows.robustSortsRow.inPlace == Tryz.prog.inPlace 10)=true:=by kernel_rfl
theorem j2:(Rows.robustSortsRow.unfollowed == Tryz.prog.unfollowed 10)=true:=by kernel_rfl
theorem j3:(Rows.robustSortsRow.recurses == Tryz.prog.recurses 10)=true:=by kernel_rfl
theorem j4:(Rows.robustSortsRow.named == Tryz.prog.varsNamed 10)=true:=by kernel_rfl
theorem j5:Rows.robustSortsRow.wf (OpenSpec.ofChange Rows.robustSortsSpec)=true:=by kernel_rfl
theorem j6:(Rows.robustSortsRow.lifted == Tryz.prog.liftsFinal)=true:=jf6
theorem j7:(Tryz.prog.make == some Rows.robustSortsRow.make)=true:=jf7
theorem facts:joinedFacts prog 10 Tryz.f10 Rows.robustSortsSpec Rows.robustSortsRow=true:=by
 simp only [joinedFacts,jf1,jf2,jf3,jf4,jf5,j1,j2,j3,j4,j5,j6,j7,Bool.and_true,Bool.true_and]
 kernel_rfl
theorem holds:Rows.RobustSortsSaid :=
 OpenClaim.holds_of_wide 10 Tryz.f10 rfl rfl rfl rfl rfl rfl rfl ⟨rfl,rfl,rfl,rfl,rfl⟩ rfl rfl rfl rfl rfl (by kernel_rfl) func10 facts
  (of_decide_eq_true (by kernel_rfl)) (by unfold Func.isWrapper;first | (rw [if_pos (by decide +kernel)];kernel_rfl) | (rw [if_neg (by decide +kernel)];exact⟨rfl,rfl⟩))
  (fun os E H enc _=>lifted os E H enc)
end LrobustSorts
theorem robustSorts_card:Rows.RobustSortsCardSaid :=
 Claim7.holds_tied_plain_at .later [] [.data,.data,.data] true (true, "252e0a21811d6cb709456a3fcf7983f263497123ef99f17ea89c4d3ca69a01d1") true
  LrobustSorts.holds (fun _ h=>by cases h) (by as_aux_lemma=>kernel_rfl) (fun _ h=>by cases h) robustSorts_row_tie rfl ⟨rfl,rfl⟩ (by as_aux_lemma=>kernel_rfl) rfl
  (fun f H I F=>by
   obtain rfl:f=10:=qag ((show Tryz.prog.funcNamed "verdigris/verdigrislaw33.RobustSorts" = some 10 by as_aux_lemma=>kernel_rfl).symm.trans I) |>.symm
   obtain rfl:H=Tryz.f10:=(qag (Tryz.func10.symm.trans F)).symm;exact⟨by as_aux_lemma=>kernel_rfl,fun j t G=>by
    rw [Tryz.params10] at G;have J:t∈([23,5,5]:List Nat):=by simpa using Array.mem_of_getElem? G
    have E:(([23,5,5]:List Nat).all fun u=>!Tryz.prog.wantsStandIn u)=true:=by as_aux_lemma=>kernel_rfl
    exact (show Tryz.prog.wantsStandIn t=false by simpa using qaA.1 E t J)⟩)
  (by as_aux_lemma=>kernel_rfl)
#print axioms robustSorts_card
