import Derived.Test.YtjalhnlhcdfncaaGreatDoorBo4
import Derived.Test.YtjalhnlhcdfncaaGreatDoorBo5
import Derived.Test.YtjalhnlhcdfncaaGreatDoorBo9
set_option maxRecDepth 100000
set_option maxHeartbeats 0
namespace Go.Proofs.YtjalhnlhcdfncaaGreatDoor
open Go.RowKit Go.Proofs.Tryz
theorem qdX (pk:Pk) (x K:Nat) (hK:K<=274877906944) (vm:Value) (w:World) (hm:MagAt w vm x) (hx:Fit x K) (hT:HasT w) :
  Calls prog (Pk.of pk 166 221) #[vm] w fun e w'=>e=.returned (.int .i64 ((num x).size:Int))/\Below w.heap.size w w':=by
 have J:=(qcV pk) x vm w hm
 by_cases Y:x=0
 ·subst Y;rw [qV rfl] at J;have hn:(num 0).size=1:=by rw [qdZ,qcg (by decide)];rfl
  rw [hn];have V:=qH J;obtain⟨am,bm,om,cm,n,M,rfl,E,aa⟩:=hm;clear J hn E aa;cases pk <;> dsimp only [Pk.of] at * <;> (
  first | go_enter func166,ntmps166 | go_enter func221,ntmps221
  go_wp2_with fail;refine V.o.mono ?_;rintro e w1 ⟨rfl,rfl⟩;go_wp2;go_ret;exact⟨rfl,Below.refl _ _⟩)
 ·rw [qU Y] at J;have V:=qH J;obtain⟨am,bm,om,cm,n,M,rfl,E,rfl⟩:=hm;have ai:n≠0:=fun e=>Y (E.nrm.zero.2 (by rw [E.len];exact e))
  obtain⟨l,rfl⟩:∃l,n=l+1:=⟨n-1,by omega⟩;have hl:l<=274877906944:=by have:=hx.len E;omega
  have ht:=E.nrm.resolve_left (by rw [E.len];omega);rw [E.len,qbR] at ht;have H:=top_num E.dig E.len ht;have ae:=E.addr (by omega);subst ae;have af:=E.cell l (by omega);obtain⟨d,Z⟩:=qX (dg M l);have ag:d<1000000000:=by rw [<-Z];exact E.dig l
  rw [Z] at af;rw [show M.getD l 0=d from Z] at H;have O:=qlo d (by omega) w hT;have F:(num d).size=(Lib.decDigits d).length:=rfl;have aj:(Lib.decDigits d).length<=9:=qcL 9 d (by decide) (by rw [ten9];exact ag);obtain⟨k,hk⟩:=qX ((Lib.decDigits d).length);rw [hk] at aj F H;obtain⟨r,hr⟩:=qX (l*9+k);rw [qdZ,H,hr];obtain⟨l9,ah⟩:=qX (l*9);obtain⟨l1,U⟩:=qX (l+1);have i1:(l1:Int)-1=l:=by omega
  have i2:(l:Int)*9=l9:=by omega
  have i3:(l9:Int)+k=r:=by omega
  have i4:(l:Int)<l1:=by omega
  have ak:l1<=274877906945:=by omega
  have I:l9<=2473901162496:=by omega
  rw [U] at V ⊢;have HI:=qH O;have HS:=qH F;clear J E Y ai ht H Z O hk hr ah U hx F;cases pk <;> dsimp only [Pk.of] at * <;> (
  first | go_enter func166,ntmps166 | go_enter func221,ntmps221
  go_wp2_with fail;refine V.o.mono ?_;rintro e w1 ⟨rfl,rfl⟩;go_wp2_with fail;refine HI.o.mono ?_;rintro e w2 ⟨rfl,I⟩;have HB:=qH I;have F:=HS.o;clear I;generalize num d=nd at *;go_wp2;go_ret;exact⟨rfl,HB.o⟩)
theorem qii (pk:Pk) (B b:Nat) (l:List UInt8) (d wd:Nat) (hd:d<1000000000) (aj:wd<=9) (w:World) (aa:IsBd B b (Lib.byteCells l) w) (hl:l.length<=4398046511104) (ae:B<=w.heap.size) (hT:HasT w) :
  Calls prog (Pk.of pk 228 250) #[.int .u32 (d:Int),.int .i64 (wd:Int),.pointer (some ⟨b,0,none⟩)] w fun e w'=>e=.returned (.tuple #[])/\IsBd B b (Lib.byteCells (l++(List.replicate (wd-(Lib.decDigits d).length) 48++Lib.decDigits d))) w'/\Below B w w':=by
 have U:=qlo d (by omega) w hT;have ai:(Lib.decDigits d).length<=9:=qcL 9 d (by decide) (by rw [ten9];exact hd);have af:(num d).size=(Lib.decDigits d).length:=rfl;have I:(num d).data.toList=Lib.decDigits d:=rfl;obtain⟨k,hk⟩:=qX ((Lib.decDigits d).length);rw [hk] at ai af;obtain⟨t,ht⟩:=qX (num d);rw [ht] at U af I;obtain⟨D,hD⟩:=qX (Lib.decDigits d);rw [hD] at I hk ⊢;rw [hk];have HI:=qH U;have HN:=qH (qA I hk);have H:=qH (qA aa (qA hl ae));clear U I hk ht hD aa hT hl ae;cases pk <;> dsimp only [Pk.of] at * <;> (
 first | go_enter func228,ntmps228 | go_enter func250,ntmps250
 go_wp2_with fail;refine HI.o.mono ?_;rintro e w1 ⟨rfl,O⟩;have Y:Hu (IsBd B b (Lib.byteCells l) w1/\Below B w w1):=qH ⟨qmd H.o.1 O,O.mono H.o.2.2⟩;clear O;go_wp2_with fail
 go_loopw [13] (fun x13 W=>∃j:Nat,x13=.int .i64 j/\j<=wd-k/\Hu (IsBd B b (Lib.byteCells (l++List.replicate j 48)) W)/\Hu (Below B w W)) (fun x13 _=>wd-k-(intOf x13).toNat)
 case atStart=>exact⟨0,rfl,qaj _,qH (by simpa using Y.o.1),qH Y.o.2⟩
 case round =>
  obtain⟨j,rfl,hj,hI,hB⟩:=hrel;have Z:Hu (B<=wr.heap.size):=qH (qak H.o.2.2 hB.o.size);have J:Hu ((Lib.byteCells (l++List.replicate j 48)).length<=4398046511204):=qH (by rw [Lib.byteCells_length,qaf,qaZ];have:=H.o.2.1;omega)
  by_cases ah:j<wd-k
  ·have ag:(j:Int)<(wd:Int)-k:=by omega
   go_wp2_with fail;refine (qi2 B b _ 48 _ hI.o (by have:=J.o;omega) Z.o).mono ?_;rintro e w2 ⟨rfl,F,E⟩;have V:Hu (IsBd B b (Lib.byteCells (l++List.replicate (j+1) 48)) w2/\Below B w w2):=qH ⟨.inr (by
    have e1:Lib.byteCells (l++List.replicate (j+1) 48)=Lib.byteCells (l++List.replicate j 48)++[.int .u8 48]:=by
     rw [List.replicate_succ',<-qaG];unfold Lib.byteCells;rw [qbh];rfl
    rw [e1];exact F),hB.o.trans E⟩
   clear F E;go_wp2;go_roundw
   case rel=>exact⟨j+1,by go_num,ah,qH V.o.1,qH V.o.2⟩
   case measure=>simp [intOf];omega
  ·obtain rfl:j=wd-k:=by omega
   have ag:¬((wd-k:Nat):Int)<(wd:Int)-k:=by omega
   go_wp2_with fail;refine (qhV B b _ t _ hI.o (by have:=J.o;omega) Z.o).mono ?_;rintro e w2 ⟨rfl,F,E⟩;have V:Hu (IsBd B b (Lib.byteCells (l++(List.replicate (wd-k) 48++D))) w2/\Below B w w2):=qH ⟨.inr (by
    have e1:Lib.byteCells (l++(List.replicate (wd-k) 48++D))=Lib.byteCells (l++List.replicate (wd-k) 48)++Lib.strCells t:=by
     rw [Lib.strCells_eq,HN.o.1,<-qaG];unfold Lib.byteCells;rw [qbh]
    rw [e1];exact F),hB.o.trans E⟩
   clear F E;go_wp2_with fail
   go_end0
   exact⟨rfl,V.o.1,V.o.2⟩)
theorem qeF (pk:Pk) (x K:Nat) (hK:K<=274877906944) (vm:Value) (w:World) (hm:MagAt w vm x) (hx:Fit x K) (hT:HasT w) :
  Calls prog (Pk.of pk 168 223) #[vm] w fun e w'=>e=.returned (.string (num x))/\Below w.heap.size w w':=by
 have Z:=(qcV pk) x vm w hm
 by_cases h0:x=0
 ·subst h0;rw [qV rfl] at Z;have hn:num 0=⟨#[48]⟩:=by unfold num;rw [qcg (by decide)];rfl
  rw [hn];have HZ:=qH Z;obtain⟨am,bm,om,cm,n,M,rfl,E,ay⟩:=hm;clear Z hn E ay hT;cases pk <;> dsimp only [Pk.of] at * <;> (
  first | go_enter func168,ntmps168 | go_enter func223,ntmps223
  go_wp2_with fail;refine HZ.o.mono ?_;rintro e U ⟨rfl,rfl⟩;go_wp2;go_ret;exact⟨rfl,Below.refl _ _⟩)
 ·rw [qU h0] at Z;have HZ:=qH Z;obtain⟨am,bm,om,cm,n,M,rfl,E,rfl⟩:=hm;have aB:n≠0:=fun e=>h0 (E.nrm.zero.2 (by rw [E.len];exact e))
  obtain⟨l,rfl⟩:∃l,n=l+1:=⟨n-1,by omega⟩;have hl:l<=274877906944:=by have:=hx.len E;omega
  have ht:=E.nrm.resolve_left (by rw [E.len];omega);rw [E.len,qbR] at ht;have az:=E.addr (by omega);subst az;have ax:Hu (∀W,Below w.heap.size w W->HasT W):=qH fun W h=>hT.below h
  obtain⟨l1,ag⟩:=qX (l+1);have i1:(l1:Int)-1=l:=by omega
  have i4:(l:Int)<l1:=by omega
  have aD:l1<=274877906945:=by omega
  have V:=qH E;have Hl:=qH (qA ag ht);rw [ag] at HZ ⊢;obtain⟨W1,I⟩:=qY (w.alloc (.cells #[.pointer none,.slice none 0 0] 301));have F:Below w.heap.size w W1:=I▸qB.alloc qN _;have ai:IsBd w.heap.size w.heap.size (Lib.byteCells []) W1:=by rw [I];exact Lib.fresh_isBuilder 301 5 w
  have J:=(E.below F).cell l (by omega);obtain⟨d,hd⟩:=qX (dg M l);have aA:d<1000000000:=by rw [<-hd];exact E.dig l
  rw [hd] at J;have hp:=(qii pk) w.heap.size w.heap.size [] d 0 aA (by omega) W1 ai (by simp) F.size (hT.below F);rw [Nat.zero_sub] at hp;have HP:=qH hp;have O:mval (M.drop l)=d:=by
   rw [qcS M l,show M.getD l 0=d from hd,qaM (by rw [E.len];omega)];rfl
  have HD:=qH (qA O hd);have av:=qH F;clear Z E h0 aB ht ag hx hT ai hp O hd F;have z_put_any:=qH (@qii pk);cases pk <;> dsimp only [Pk.of] at * <;> (
  first | go_enter func168,ntmps168 | go_enter func223,ntmps223
  go_wp2_with fail;refine HZ.o.mono ?_;rintro e U ⟨rfl,rfl⟩;rw [I] at J;go_wp2_with fail;rw [<-I];refine HP.o.mono ?_;rintro e w2 ⟨rfl,aj,ah⟩;have H2:Hu (IsBd U.heap.size U.heap.size (Lib.byteCells (Lib.decDigits (mval (M.drop l)))) w2/\Below U.heap.size U w2):=qH ⟨by rw [HD.o.1];simpa using aj,av.o.trans ah⟩;clear aj ah I J HP;have V:=qH (V.o);go_wp2_with fail
  go_loopw [6] (fun x6 W=>∃(k:Nat) (z:Int),k<=l/\x6=.int .i64 z/\Hu (z+1=k)/\Hu (IsBd U.heap.size U.heap.size (Lib.byteCells (Lib.decDigits (mval (M.drop k)))) W)/\Hu (Below U.heap.size U W)) (fun x6 _=>(intOf x6+1).toNat)
  case atStart=>exact⟨l,_,qad _,rfl,qH (by omega),qH H2.o.1,qH H2.o.2⟩
  case round =>
   obtain⟨k,z,hk,rfl,Z,hI,hB⟩:=hrel
   by_cases aG:0<k
   ·obtain⟨j,rfl⟩:∃j,k=j+1:=⟨k-1,by omega⟩;obtain rfl:z=(j:Int):=by have:=Z.o;omega
    have aF:(j:Int)<l1:=by omega
    have J:=(V.o.below hB.o).cell j (by have:=Hl.o.1;omega);obtain⟨d2,Y⟩:=qX (dg M j);have au:d2<1000000000:=by rw [<-Y];exact V.o.dig j
    rw [Y] at J;have ae:0<mval (M.drop (j+1)):=by
     have aC:Nrm (M.drop (j+1)):=qam (by
      rw [qaY,V.o.len,qaa,List.getElem?_drop,<-qaa];rw [show j+1+(l+1-(j+1)-1)=l by omega];exact Hl.o.2)
     rcases qaN (mval (M.drop (j+1))) with h | h
     ·have:=aC.zero.1 h;rw [qaY,V.o.len] at this;omega
     ·exact h
    have af:=drop_num (L:=M) (j:=j) V.o.dig ae;rw [show M.getD j 0=d2 from Y] at af;have aa:(Lib.decDigits (mval (M.drop (j+1)))).length<=4398046511104:=by
     have h1:=(V.o.dig.drop (j+1)).lt;rw [qaY,V.o.len,pow9] at h1;have h2:=qcL (9*(l+1-(j+1))) _ (by omega) h1;omega
    have hp:=z_put_any.o U.heap.size U.heap.size _ d2 9 au qN wr hI.o aa hB.o.size (ax.o _ hB.o);rw [<-af] at hp;have HP:=qH hp;clear hp af aa ae Y;go_wp2_with fail;refine HP.o.mono ?_;rintro e w3 ⟨rfl,ak,H⟩;have H3:=qH (qA ak (hB.o.trans H));clear ak H;go_wp2;go_roundw
    case rel=>exact⟨j,_,by omega,rfl,qH (by omega),qH H3.o.1,qH H3.o.2⟩
    case measure=>simp [intOf]
   ·obtain rfl:k=0:=by omega
    obtain rfl:z = -1:=by have:=Z.o;omega
    have hs:=Tryz.Builder_String_any _ _ _ _ hI.o hB.o.size;rw [List.drop_zero] at hs;have HS:=qH hs;clear hs;go_wp2_with fail;refine HS.o.mono ?_;rintro e w3 ⟨rfl,H⟩;have H3:=qH H;clear H;go_wp2;go_ret;exact⟨rfl,hB.o.trans H3.o⟩)
theorem qcq (I:Pk) (x:Nat) (neg:Bool) (Y:Value) (w:World) (U:MagAt w Y x) :
  Calls prog (Pk.of I 123 161) #[Y,.bool neg] w fun e w'=>∃v,e=.returned v/\Below w.heap.size w w'/\IntAt w' v (if neg=true then -(x:Int) else x):=by
 have V:=fun (W:World) (h:Below w.heap.size w W)=>(qcV I) x Y W (U.below h)
 obtain⟨b0,F⟩:=qX (decide (x=0));have O:=fun (W:World) (h:Below w.heap.size w W)=>qmO (neg:=neg) (U.below h)
 rw [F] at V O;obtain⟨am,bm,om,cm,n,M,rfl,Im,J⟩:=U;have HZ:=qH V;have Z:=qH O;have H:∀cs,Below w.heap.size w (w.alloc (.cells cs (Pk.of I 125 217))):=fun cs=>qB.alloc qN _
 have E:=qH H;generalize (if neg=true then -(x:Int) else x)=z at *;clear V Im J F H O;cases neg with
 | false =>
  cases I <;> dsimp only [Pk.of] at * <;> (
  first | go_enter func123,ntmps123 | go_enter func161,ntmps161
  go_wp2_with fail;refine qR (v:=.agg #[.slice am n cm,.bool false]) (qc9 rfl _ _ w.heap.size _ _ _ rfl (qM _ _ _ rfl) (by first | exact underlying125 | exact underlying217) rfl 2 (by kernel_rfl) rfl) rfl ⟨_,rfl,E.o _,Z.o _ (E.o _)⟩)
 | true =>
  cases I <;> dsimp only [Pk.of] at * <;> (
  first | go_enter func123,ntmps123 | go_enter func161,ntmps161
  go_wp2_with fail;refine (HZ.o _ (E.o _)).mono ?_;rintro e w1 ⟨rfl,rfl⟩;go_wp2_with fail;refine qR (v:=.agg #[.slice am n cm,.bool (!b0)]) (qc9 rfl _ _ w.heap.size _ _ _ rfl (qM _ _ _ rfl) (by first | exact underlying125 | exact underlying217) rfl 2 (by kernel_rfl) rfl) rfl ⟨_,rfl,E.o _,Z.o _ (E.o _)⟩)
theorem qcx (pk:Pk) (s:ByteArray) (U:Valid s.data.toList) (w:World) :
  Calls prog (Pk.of pk 120 148) #[.string s] w fun e w'=>∃v,e=.returned v/\Below w.heap.size w w'/\IntAt w' v (ival s.data.toList):=by
 have hc:=fun W=>Tryz.strings_CutPrefix s ⟨#[45]⟩ W
 obtain⟨t,ht⟩:=qX ((⟨(Lib.trimPrefix s.data.toList (ByteArray.mk #[45]).data.toList).toArray⟩:ByteArray):ByteArray);have H:t.data.toList=body s.data.toList:=by rw [<-ht];rfl
 have O:t.size=(body s.data.toList).length:=by rw [<-H];rfl
 obtain⟨b,hb⟩:=qX (Lib.hasPrefix s.data.toList (ByteArray.mk #[45]).data.toList);have V:signd s.data.toList=b:=hb;rw [ht,hb] at hc;have hg:=fun W=>(qiI pk) t (by rw [H];exact U.nums) (by rw [O];exact U.pos) (by rw [O];have:=U.le;omega) W
 have hn:=U.natAbs;have E:=U.neg;rw [H,<-hn] at hg;rw [V] at E;have HC:=qH hc;have HG:=qH hg;have HN:=qH E;generalize ival s.data.toList=z at *;clear hc hg hn E V hb O H ht U;cases pk <;> dsimp only [Pk.of] at * <;> (
 first | go_enter func120,ntmps120 | go_enter func148,ntmps148
 go_wp2_with fail;refine (HC.o _).mono ?_;rintro e w1 ⟨rfl,rfl⟩;go_wp2_with fail;refine (HG.o _).mono ?_;rintro e w2 ⟨v,rfl,I,hv⟩;have F:w2.heap[w.heap.size]? = some (.cells #[.slice none 0 0,.bool false] _ (0,0)):=(I.block _ (by simp)).trans (qM _ _ _ rfl);have J:Below w.heap.size w w2:=(qB.alloc qN _).trans (I.mono (by simp));have Y:=qda (cs':=#[v,.bool b]) hv F qfG;have Z:=qH (qA F (qA J (qS J qN #[v,.bool b])));have HV:=qH Y;obtain⟨am,bm,om,cm,n,M,rfl,Im,aa⟩:=hv;clear F J Y I Im aa
 go_wp2_with ((with_reducible refine wpList_store_row rfl _ _ _ rfl w.heap.size #[.slice am n cm,.bool b] ?_ ?_ _ _ Z.o.1 2 ?_ ?_ ?_ ?_ ?_);(next=>rfl);(next=>rfl);(next=>kernel_rfl);(next=>rfl);(next=>rfl);(next=>rfl))
 refine qR (v:=.agg #[.slice am n cm,.bool b]) (qc9 rfl _ _ w.heap.size _ _ _ rfl (qT _ _ _ _ _ _ Z.o.1) (by first | exact underlying125 | exact underlying217) rfl 2 (by kernel_rfl) rfl) rfl ⟨_,rfl,Z.o.2.2,_,by rw [HN.o],HV.o⟩)
