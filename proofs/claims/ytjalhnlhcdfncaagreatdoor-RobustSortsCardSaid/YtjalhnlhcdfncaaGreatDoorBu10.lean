import Derived.Test.YtjalhnlhcdfncaaGreatDoorBu4
import Derived.Test.YtjalhnlhcdfncaaGreatDoorBu5
import Derived.Test.YtjalhnlhcdfncaaGreatDoorBu9
set_option maxRecDepth 100000
set_option maxHeartbeats 0
namespace Go.Proofs.YtjalhnlhcdfncaaGreatDoor
open Go.RowKit Go.Proofs.Tryz
theorem qdE (Z:Pk) (x K:Nat) (hK:K<=274877906944) (vm:Value) (w:World) (hm:MagAt w vm x) (hx:Fit x K) (hT:HasT w) :
  Calls prog (Pk.of Z 166 221) #[vm] w fun e w'=>e=.returned (.int .i64 ((num x).size:Int))/\Below w.heap.size w w':=by
 have I:=(qcK Z) x vm w hm
 by_cases V:x=0
 ·subst V;rw [qV rfl] at I;have hn:(num 0).size=1:=by rw [qdG,qb7 (by decide)];rfl
  rw [hn];have U:=qH I;obtain⟨am,bm,om,cm,n,M,rfl,E,aa⟩:=hm;clear I hn E aa;cases Z <;> dsimp only [Pk.of] at * <;> (
  first | go_enter func166,ntmps166 | go_enter func221,ntmps221
  go_wp2_with fail;refine U.o.mono ?_;rintro e w1 ⟨rfl,rfl⟩;go_wp2;go_ret;exact⟨rfl,Below.refl _ _⟩)
 ·rw [qU V] at I;have U:=qH I;obtain⟨am,bm,om,cm,n,M,rfl,E,rfl⟩:=hm;have ai:n≠0:=fun e=>V (E.nrm.zero.2 (by rw [E.len];exact e))
  obtain⟨l,rfl⟩:∃l,n=l+1:=⟨n-1,by omega⟩;have hl:l<=274877906944:=by have:=hx.len E;omega
  have ht:=E.nrm.resolve_left (by rw [E.len];omega);rw [E.len,Nat.add_sub_cancel] at ht;have G:=top_num E.dig E.len ht;have ae:=E.addr (by omega);subst ae;have af:=E.cell l (by omega);obtain⟨d,Y⟩:=qX (dg M l);have ag:d<1000000000:=by rw [<-Y];exact E.dig l
  rw [Y] at af;rw [show M.getD l 0=d from Y] at G;have J:=qkr d (by omega) w hT;have F:(num d).size=(Lib.decDigits d).length:=rfl;have aj:(Lib.decDigits d).length<=9:=qcw 9 d (by decide) (by rw [ten9];exact ag);obtain⟨k,hk⟩:=qX ((Lib.decDigits d).length);rw [hk] at aj F G;obtain⟨r,hr⟩:=qX (l*9+k);rw [qdG,G,hr];obtain⟨l9,ah⟩:=qX (l*9);obtain⟨l1,O⟩:=qX (l+1);have i1:(l1:Int)-1=l:=by omega
  have i2:(l:Int)*9=l9:=by omega
  have i3:(l9:Int)+k=r:=by omega
  have i4:(l:Int)<l1:=by omega
  have ak:l1<=274877906945:=by omega
  have H:l9<=2473901162496:=by omega
  rw [O] at U ⊢;have HI:=qH J;have HS:=qH F;clear I E V ai ht G Y J hk hr ah O hx F;cases Z <;> dsimp only [Pk.of] at * <;> (
  first | go_enter func166,ntmps166 | go_enter func221,ntmps221
  go_wp2_with fail;refine U.o.mono ?_;rintro e w1 ⟨rfl,rfl⟩;go_wp2_with fail;refine HI.o.mono ?_;rintro e w2 ⟨rfl,H⟩;have HB:=qH H;have F:=HS.o;clear H;generalize num d=nd at *;go_wp2;go_ret;exact⟨rfl,HB.o⟩)
theorem qhy (pk:Pk) (B b:Nat) (l:List UInt8) (d wd:Nat) (hd:d<1000000000) (ai:wd<=9) (w:World) (Z:IsBd B b (Lib.byteCells l) w) (hl:l.length<=4398046511104) (aa:B<=w.heap.size) (hT:HasT w) :
  Calls prog (Pk.of pk 228 250) #[.int .u32 (d:Int),.int .i64 (wd:Int),.pointer (some ⟨b,0,none⟩)] w fun e w'=>e=.returned (.tuple #[])/\IsBd B b (Lib.byteCells (l++(List.replicate (wd-(Lib.decDigits d).length) 48++Lib.decDigits d))) w'/\Below B w w':=by
 have O:=qkr d (by omega) w hT;have ah:(Lib.decDigits d).length<=9:=qcw 9 d (by decide) (by rw [ten9];exact hd);have ae:(num d).size=(Lib.decDigits d).length:=rfl;have H:(num d).data.toList=Lib.decDigits d:=rfl;obtain⟨k,hk⟩:=qX ((Lib.decDigits d).length);rw [hk] at ah ae;obtain⟨t,ht⟩:=qX (num d);rw [ht] at O ae H;obtain⟨D,hD⟩:=qX (Lib.decDigits d);rw [hD] at H hk ⊢;rw [hk];have HI:=qH O;have HN:=qH (qA H hk);have G:=qH (qA Z (qA hl aa));clear O H hk ht hD Z hT hl aa;cases pk <;> dsimp only [Pk.of] at * <;> (
 first | go_enter func228,ntmps228 | go_enter func250,ntmps250
 go_wp2_with fail;refine HI.o.mono ?_;rintro e w1 ⟨rfl,J⟩;have V:Hu (IsBd B b (Lib.byteCells l) w1/\Below B w w1):=qH ⟨qlb G.o.1 J,J.mono G.o.2.2⟩;clear J;go_wp2_with fail
 go_loopw [13] (fun x13 W=>∃j:Nat,x13=.int .i64 j/\j<=wd-k/\Hu (IsBd B b (Lib.byteCells (l++List.replicate j 48)) W)/\Hu (Below B w W)) (fun x13 _=>wd-k-(intOf x13).toNat)
 case atStart=>exact⟨0,rfl,qaj _,qH (by simpa using V.o.1),qH V.o.2⟩
 case round =>
  obtain⟨j,rfl,hj,hI,hB⟩:=hrel;have Y:Hu (B<=wr.heap.size):=qH (qal G.o.2.2 hB.o.size);have I:Hu ((Lib.byteCells (l++List.replicate j 48)).length<=4398046511204):=qH (by rw [Lib.byteCells_length,qaf,qaS];have:=G.o.2.1;omega)
  by_cases ag:j<wd-k
  ·have af:(j:Int)<(wd:Int)-k:=by omega
   go_wp2_with fail;refine (qig B b _ 48 _ hI.o (by have:=I.o;omega) Y.o).mono ?_;rintro e w2 ⟨rfl,F,E⟩;have U:Hu (IsBd B b (Lib.byteCells (l++List.replicate (j+1) 48)) w2/\Below B w w2):=qH ⟨.inr (by
    have e1:Lib.byteCells (l++List.replicate (j+1) 48)=Lib.byteCells (l++List.replicate j 48)++[.int .u8 48]:=by
     rw [List.replicate_succ',<-qaE];unfold Lib.byteCells;rw [qbn];rfl
    rw [e1];exact F),hB.o.trans E⟩
   clear F E;go_wp2;go_roundw
   case rel=>exact⟨j+1,by go_num,ag,qH U.o.1,qH U.o.2⟩
   case measure=>simp [intOf];omega
  ·obtain rfl:j=wd-k:=by omega
   have af:¬((wd-k:Nat):Int)<(wd:Int)-k:=by omega
   go_wp2_with fail;refine (qhd B b _ t _ hI.o (by have:=I.o;omega) Y.o).mono ?_;rintro e w2 ⟨rfl,F,E⟩;have U:Hu (IsBd B b (Lib.byteCells (l++(List.replicate (wd-k) 48++D))) w2/\Below B w w2):=qH ⟨.inr (by
    have e1:Lib.byteCells (l++(List.replicate (wd-k) 48++D))=Lib.byteCells (l++List.replicate (wd-k) 48)++Lib.strCells t:=by
     rw [Lib.strCells_eq,HN.o.1,<-qaE];unfold Lib.byteCells;rw [qbn]
    rw [e1];exact F),hB.o.trans E⟩
   clear F E;go_wp2_with fail
   go_end0
   exact⟨rfl,U.o.1,U.o.2⟩)
theorem qej (pk:Pk) (x K:Nat) (hK:K<=274877906944) (vm:Value) (w:World) (hm:MagAt w vm x) (hx:Fit x K) (hT:HasT w) :
  Calls prog (Pk.of pk 168 223) #[vm] w fun e w'=>e=.returned (.string (num x))/\Below w.heap.size w w':=by
 have Y:=(qcK pk) x vm w hm
 by_cases h0:x=0
 ·subst h0;rw [qV rfl] at Y;have hn:num 0=⟨#[48]⟩:=by unfold num;rw [qb7 (by decide)];rfl
  rw [hn];have HZ:=qH Y;obtain⟨am,bm,om,cm,n,M,rfl,E,ax⟩:=hm;clear Y hn E ax hT;cases pk <;> dsimp only [Pk.of] at * <;> (
  first | go_enter func168,ntmps168 | go_enter func223,ntmps223
  go_wp2_with fail;refine HZ.o.mono ?_;rintro e O ⟨rfl,rfl⟩;go_wp2;go_ret;exact⟨rfl,Below.refl _ _⟩)
 ·rw [qU h0] at Y;have HZ:=qH Y;obtain⟨am,bm,om,cm,n,M,rfl,E,rfl⟩:=hm;have aA:n≠0:=fun e=>h0 (E.nrm.zero.2 (by rw [E.len];exact e))
  obtain⟨l,rfl⟩:∃l,n=l+1:=⟨n-1,by omega⟩;have hl:l<=274877906944:=by have:=hx.len E;omega
  have ht:=E.nrm.resolve_left (by rw [E.len];omega);rw [E.len,Nat.add_sub_cancel] at ht;have ay:=E.addr (by omega);subst ay;have av:Hu (∀W,Below w.heap.size w W->HasT W):=qH fun W h=>hT.below h
  obtain⟨l1,af⟩:=qX (l+1);have i1:(l1:Int)-1=l:=by omega
  have i4:(l:Int)<l1:=by omega
  have aC:l1<=274877906945:=by omega
  have U:=qH E;have Hl:=qH (qA af ht);rw [af] at HZ ⊢;obtain⟨W1,H⟩:=qY (w.alloc (.cells #[.pointer none,.slice none 0 0] 301));have F:Below w.heap.size w W1:=H▸qB.alloc qN _;have ah:IsBd w.heap.size w.heap.size (Lib.byteCells []) W1:=by rw [H];exact Lib.fresh_isBuilder 301 5 w
  have I:=(E.below F).cell l (by omega);obtain⟨d,hd⟩:=qX (dg M l);have az:d<1000000000:=by rw [<-hd];exact E.dig l
  rw [hd] at I;have hp:=(qhy pk) w.heap.size w.heap.size [] d 0 az (by omega) W1 ah (by simp) F.size (hT.below F);rw [Nat.zero_sub] at hp;have HP:=qH hp;have J:mval (M.drop l)=d:=by
   rw [qcV M l,show M.getD l 0=d from hd,qaT (by rw [E.len];omega)];rfl
  have HD:=qH (qA J hd);have au:=qH F;clear Y E h0 aA ht af hx hT ah hp J hd F;have z_put_any:=qH (@qhy pk);cases pk <;> dsimp only [Pk.of] at * <;> (
  first | go_enter func168,ntmps168 | go_enter func223,ntmps223
  go_wp2_with fail;refine HZ.o.mono ?_;rintro e O ⟨rfl,rfl⟩;rw [H] at I;go_wp2_with fail;rw [<-H];refine HP.o.mono ?_;rintro e w2 ⟨rfl,ai,ag⟩;have H2:Hu (IsBd O.heap.size O.heap.size (Lib.byteCells (Lib.decDigits (mval (M.drop l)))) w2/\Below O.heap.size O w2):=qH ⟨by rw [HD.o.1];simpa using ai,au.o.trans ag⟩;clear ai ag H I HP;have U:=qH (U.o);go_wp2_with fail
  go_loopw [6] (fun x6 W=>∃(k:Nat) (z:Int),k<=l/\x6=.int .i64 z/\Hu (z+1=k)/\Hu (IsBd O.heap.size O.heap.size (Lib.byteCells (Lib.decDigits (mval (M.drop k)))) W)/\Hu (Below O.heap.size O W)) (fun x6 _=>(intOf x6+1).toNat)
  case atStart=>exact⟨l,_,qae _,rfl,qH (by omega),qH H2.o.1,qH H2.o.2⟩
  case round =>
   obtain⟨k,z,hk,rfl,Y,hI,hB⟩:=hrel
   by_cases aF:0<k
   ·obtain⟨j,rfl⟩:∃j,k=j+1:=⟨k-1,by omega⟩;obtain rfl:z=(j:Int):=by have:=Y.o;omega
    have aD:(j:Int)<l1:=by omega
    have I:=(U.o.below hB.o).cell j (by have:=Hl.o.1;omega);obtain⟨d2,V⟩:=qX (dg M j);have ak:d2<1000000000:=by rw [<-V];exact U.o.dig j
    rw [V] at I;have aa:0<mval (M.drop (j+1)):=by
     have aB:Nrm (M.drop (j+1)):=qam (by
      rw [qbi,U.o.len,qaa,List.getElem?_drop,<-qaa];rw [show j+1+(l+1-(j+1)-1)=l by omega];exact Hl.o.2)
     rcases qaU (mval (M.drop (j+1))) with h | h
     ·have:=aB.zero.1 h;rw [qbi,U.o.len] at this;omega
     ·exact h
    have ae:=drop_num (L:=M) (j:=j) U.o.dig aa;rw [show M.getD j 0=d2 from V] at ae;have Z:(Lib.decDigits (mval (M.drop (j+1)))).length<=4398046511104:=by
     have h1:=(U.o.dig.drop (j+1)).lt;rw [qbi,U.o.len,pow9] at h1;have h2:=qcw (9*(l+1-(j+1))) _ (by omega) h1;omega
    have hp:=z_put_any.o O.heap.size O.heap.size _ d2 9 ak qN wr hI.o Z hB.o.size (av.o _ hB.o);rw [<-ae] at hp;have HP:=qH hp;clear hp ae Z aa V;go_wp2_with fail;refine HP.o.mono ?_;rintro e w3 ⟨rfl,aj,G⟩;have H3:=qH (qA aj (hB.o.trans G));clear aj G;go_wp2;go_roundw
    case rel=>exact⟨j,_,by omega,rfl,qH (by omega),qH H3.o.1,qH H3.o.2⟩
    case measure=>simp [intOf]
   ·obtain rfl:k=0:=by omega
    obtain rfl:z = -1:=by have:=Y.o;omega
    have hs:=Tryz.Builder_String_any _ _ _ _ hI.o hB.o.size;rw [List.drop_zero] at hs;have HS:=qH hs;clear hs;go_wp2_with fail;refine HS.o.mono ?_;rintro e w3 ⟨rfl,G⟩;have H3:=qH G;clear G;go_wp2;go_ret;exact⟨rfl,hB.o.trans H3.o⟩)
theorem qcf (H:Pk) (x:Nat) (neg:Bool) (V:Value) (w:World) (O:MagAt w V x) :
  Calls prog (Pk.of H 123 161) #[V,.bool neg] w fun e Z=>∃v,e=.returned v/\Below w.heap.size w Z/\IntAt Z v (if neg=true then -(x:Int) else x):=by
 have U:=fun (W:World) (h:Below w.heap.size w W)=>(qcK H) x V W (O.below h)
 obtain⟨b0,F⟩:=qX (decide (x=0));have J:=fun (W:World) (h:Below w.heap.size w W)=>qlE (neg:=neg) (O.below h)
 rw [F] at U J;obtain⟨am,bm,om,cm,n,M,rfl,Im,I⟩:=O;have HZ:=qH U;have Y:=qH J;have G:∀cs,Below w.heap.size w (w.alloc (.cells cs (Pk.of H 125 217))):=fun cs=>qB.alloc qN _
 have E:=qH G;generalize (if neg=true then -(x:Int) else x)=z at *;clear U Im I F G J;cases neg with
 | false =>
  cases H <;> dsimp only [Pk.of] at * <;> (
  first | go_enter func123,ntmps123 | go_enter func161,ntmps161
  go_wp2_with fail;refine qR (v:=.agg #[.slice am n cm,.bool false]) (qcX rfl _ _ w.heap.size _ _ _ rfl (qM _ _ _ rfl) (by first | exact underlying125 | exact underlying217) rfl 2 (by kernel_rfl) rfl) rfl ⟨_,rfl,E.o _,Y.o _ (E.o _)⟩)
 | true =>
  cases H <;> dsimp only [Pk.of] at * <;> (
  first | go_enter func123,ntmps123 | go_enter func161,ntmps161
  go_wp2_with fail;refine (HZ.o _ (E.o _)).mono ?_;rintro e w1 ⟨rfl,rfl⟩;go_wp2_with fail;refine qR (v:=.agg #[.slice am n cm,.bool (!b0)]) (qcX rfl _ _ w.heap.size _ _ _ rfl (qM _ _ _ rfl) (by first | exact underlying125 | exact underlying217) rfl 2 (by kernel_rfl) rfl) rfl ⟨_,rfl,E.o _,Y.o _ (E.o _)⟩)
theorem qcl (pk:Pk) (s:ByteArray) (O:Valid s.data.toList) (w:World) :
  Calls prog (Pk.of pk 120 148) #[.string s] w fun e w'=>∃v,e=.returned v/\Below w.heap.size w w'/\IntAt w' v (ival s.data.toList):=by
 have hc:=fun W=>Tryz.strings_CutPrefix s ⟨#[45]⟩ W
 obtain⟨t,ht⟩:=qX ((⟨(Lib.trimPrefix s.data.toList (ByteArray.mk #[45]).data.toList).toArray⟩:ByteArray):ByteArray);have G:t.data.toList=body s.data.toList:=by rw [<-ht];rfl
 have J:t.size=(body s.data.toList).length:=by rw [<-G];rfl
 obtain⟨b,hb⟩:=qX (Lib.hasPrefix s.data.toList (ByteArray.mk #[45]).data.toList);have U:signd s.data.toList=b:=hb;rw [ht,hb] at hc;have hg:=fun W=>(qhZ pk) t (by rw [G];exact O.nums) (by rw [J];exact O.pos) (by rw [J];have:=O.le;omega) W
 have hn:=O.natAbs;have E:=O.neg;rw [G,<-hn] at hg;rw [U] at E;have HC:=qH hc;have HG:=qH hg;have HN:=qH E;generalize ival s.data.toList=z at *;clear hc hg hn E U hb J G ht O;cases pk <;> dsimp only [Pk.of] at * <;> (
 first | go_enter func120,ntmps120 | go_enter func148,ntmps148
 go_wp2_with fail;refine (HC.o _).mono ?_;rintro e w1 ⟨rfl,rfl⟩;go_wp2_with fail;refine (HG.o _).mono ?_;rintro e w2 ⟨v,rfl,H,hv⟩;have F:w2.heap[w.heap.size]? = some (.cells #[.slice none 0 0,.bool false] _ (0,0)):=(H.block _ (by simp)).trans (qM _ _ _ rfl);have I:Below w.heap.size w w2:=(qB.alloc qN _).trans (H.mono (by simp));have V:=qcY (cs':=#[v,.bool b]) hv F qfa;have Y:=qH (qA F (qA I (qS I qN #[v,.bool b])));have HV:=qH V;obtain⟨am,bm,om,cm,n,M,rfl,Im,Z⟩:=hv;clear F I V H Im Z
 go_wp2_with ((with_reducible refine wpList_store_row rfl _ _ _ rfl w.heap.size #[.slice am n cm,.bool b] ?_ ?_ _ _ Y.o.1 2 ?_ ?_ ?_ ?_ ?_);(next=>rfl);(next=>rfl);(next=>kernel_rfl);(next=>rfl);(next=>rfl);(next=>rfl))
 refine qR (v:=.agg #[.slice am n cm,.bool b]) (qcX rfl _ _ w.heap.size _ _ _ rfl (qT _ _ _ _ _ _ Y.o.1) (by first | exact underlying125 | exact underlying217) rfl 2 (by kernel_rfl) rfl) rfl ⟨_,rfl,Y.o.2.2,_,by rw [HN.o],HV.o⟩)
