/- Ad, part 37: L0 -/
import Derived.Below
import Derived.ChangeSame
import Derived.LaidMore
import Derived.Lay
import Derived.Lib.LaidTab
import Derived.Lib.SmallJoins
import Derived.OpenShut
import Derived.ProofKit
import Derived.SevenTiedAt
import Derived.Stop.Joined
import Derived.Test.YtfminfgabiipjaaGreatDoorAd0
import Derived.Test.YtfminfgabiipjaaGreatDoorAd36
import Derived.Test.YtfminfgabiipjaaGreatDoorCards
import Derived.Test.YtfminfgabiipjaaGreatDoorRows
import Derived.Test.YtfminfgabiipjaaGreatDoorTie
set_option maxRecDepth 100000
set_option maxHeartbeats 16000000
namespace Go.Proofs.YtfminfgabiipjaaGreatDoor
open Go.ChangeShapes Go.WideShapes Go.ChangeAt Go.RowKit
abbrev laidK:List (String×DataW Unit):=[("math/bits.deBruijn32tab", Rows.laid_math_bits_deBruijn32tab),("math/bits.deBruijn64tab", Rows.laid_math_bits_deBruijn64tab),("internal/strconv.uint64pow10", Rows.laid_internal_strconv_uint64pow10)]
theorem Tryz.own:ownKnob Tryz.prog.godebug=none:=by kernel_rfl
theorem datK:(Rows.laid_internal_strconv_uint64pow10:DataW Unit)=Lib.tabData .u64 Lib.pow10Tab:=by kernel_rfl
theorem gK:Tryz.prog.globalNamed "internal/strconv.uint64pow10" = some 1:=by kernel_rfl
theorem tK:(Tryz.prog.globals[1]?).map (·.type)=some 254:=by kernel_rfl
theorem qlJ {W:World} (h:laidMetH Tryz.prog laidK W):HasT W:=by
 rw [MakeChecks.laidMetH_plain _ _ _ (by kernel_rfl)] at h
 obtain⟨ps,⟨_,_,_,_,_,_,_,_,_,_,⟨_,_,_,_,_,_,_,_,_,_,⟨g2,t2,cs2,f2,p2,q2,hg2,ht2,hv2,hd2,_,_⟩,_⟩,_⟩,_⟩:=h
 obtain rfl:=qah (gK.symm.trans hg2)
 obtain rfl:=qah (tK.symm.trans ht2)
 rw [datK] at hd2
 unfold HasT Lib.TabIs
 rw [hv2,←Lib.cells_of_tab Tryz.underlying254 Tryz.underlying174 (by kernel_rfl) (by kernel_rfl) hd2]
section
variable {H:Type} {enc:TypeId×Value→H} {P:Program}
theorem qfm {f:Func} {s:ChangeSpec} {apart fresh handsOn again:Bool} {W W':World} {args:Array Value} {v:Value} {ds gs:List (DataW H)} {before pa pv:List MemPlace}
  (hW:DataW.Whole enc P f.params.toList s.vars apart W args.toList ds gs before)
  (hres:∀(b:Nat) (sp:Nat→Bool) (hd:Bool),DataW.TrodAll enc P W' b sp hd f.resultTypes.toList (v.resultList f.resultTypes.size) (s.fn H (ds++gs)).results [])
  (hargs:∀sp:Nat→Bool,(∀p∈before,sp p.block=true)→DataW.TrodAll enc P W' 0 sp true f.params.toList args.toList (s.fn H (ds++gs)).args pa)
  (hvars:∀sp:Nat→Bool,(∀p∈before,sp p.block=true)→DataW.TrodVars enc P W' sp s.vars (s.fn H (ds++gs)).vars pv)
  (hps:before=pa++pv) (hb:Below W.heap.size W W')
  (hok:∀(j:Nat) (t:TypeId) (r:Value),f.resultTypes[j]? = some t→(v.resultList f.resultTypes.size)[j]? = some r→Value.okWide P W' .any 0 t r) :
  s.post enc P f apart fresh handsOn again W args v W':=by
 have hlt:∀p∈before,p.block<W.heap.size:=fun p hp=>hW.lt p hp
 have hold:∀p∈before,(fun b=>decide (b<W.heap.size)) p.block=true:=fun p hp=>by simpa using hlt p hp
 refine⟨ds,gs,before,[],pa,pv,hW,hres _ _ _,hargs _ hold,hvars _ hold,World.keptBut_mono (fun p hp=>⟨hp,?_⟩) (hb.frame (·∈before)),fun _=>?_⟩
 ·rw [hps,qa8] at hp
  exact qaq hp
 ·obtain⟨_,_,_,_,_,hz,hn⟩:=hW
  refine⟨hok,_,_,([]++pa)++pv,⟨[]++pa,pv,trodAll_append (hargs _ (fun _ _=>rfl)) (hres _ _ _),hvars _ (fun _ _=>rfl),rfl,?_,?_⟩,?_⟩
  ·intro b off hp
   have hin:MemPlace.cell b off∈before:=by rw [hps];simpa using hp
   rw [hb.frozen (hlt _ hin)]
   exact hz b off hin
  ·intro ha
   have:=hn ha
   rw [hps] at this
   simpa using this
  ·intro p hp _
   rw [hps]
   simpa using hp
theorem wf_u8 {n:Int} (h:(Lit.int .u8 n).wf=true):∃k:Nat,n=k∧k<256:=by
 simp only [Lit.wf,qaU,decide_eq_true_eq] at h
 have h1:(0:Int)≤n:=h.1
 have h2:n≤255:=h.2
 exact⟨n.toNat,by omega,by omega⟩
theorem wf_i8 {n:Int} (h:(Lit.int .i8 n).wf=true):-128≤n∧n≤127:=by
 simp only [Lit.wf,qaU,decide_eq_true_eq] at h
 have h1:(-128:Int)≤n:=h.1
 have h2:n≤127:=h.2
 exact⟨h1,h2⟩
theorem Tryz.laidOut:laidOutB Tryz.prog=true:=by kernel_rfl
theorem qgJ {w:World} {sp:Nat→Bool} {held:Bool} {t e:TypeId} {k:IntKind} {fuel:Nat} {v:Value} {x:DataW H×List MemPlace} (ht:P.underlying t=some (.slice e)) (he:P.underlying e=some (.int k)) (hc:P.cellsOf e=1) (h:DataW.trod enc P w 0 sp held fuel t [v]=some x) :
  ∃(a:Option Addr) (b off len cap:Nat) (L:List Int),v=.slice a len cap∧L.length=len∧len≤cap∧cap≤maxLen∧KCells w k a b off L∧∀z∈L,(Lit.int k z).wf=true:=by
 rcases open_ints ht he hc h with ⟨hcs,_⟩ | ⟨ad,le,c,zs,hcs,_,hl,hm,hz,_,hcell,hwz⟩
 ·have e1:v=.slice none 0 0:=by injection hcs
  exact⟨none,0,0,0,0,[],e1,rfl,qae _,qam _,⟨fun h=>absurd h (by simp),fun k hk=>absurd hk (by simp)⟩,fun z hz=>by simp at hz⟩
 ·have e1:v=.slice (some ad) le c:=by injection hcs
  have hzl:le≤zs.length:=by rw [hz];split <;> omega
  obtain⟨b,off,spot⟩:=ad
  have hLl:(zs.take le).length=le:=by rw [qao];omega
  refine⟨some ⟨b,off,spot⟩,b,off,le,c,zs.take le,e1,hLl,hl,hm,⟨fun h0=>?_,fun k hk=>?_⟩,fun z hz=>hwz z (qbn hz)⟩
  ·have hc0:=hcell 0 (by omega)
   have hspot:spot=none:=by simpa [Addr.add] using World.cell?_spot hc0
   rw [hspot]
  ·have hc0:=hcell k (by omega)
   have hspot:spot=none:=by simpa [Addr.add] using World.cell?_spot (hcell 0 (by omega))
   subst hspot
   rw [Addr.add_mid] at hc0
   rw [hc0,qaa,qaa,qaV (by omega)]
theorem qhi {w:World} {r:Reach} {b0:Nat} {sp:Nat→Bool} {held:Bool} {v:Value} {d:DataW H} {p:List MemPlace} (hv:Value.okWide Tryz.prog w r b0 29 v) (h:DataW.Trod enc Tryz.prog w 0 sp held 29 v d p) :
  ∃(x y:Nat) (N:List Int) (D:List Nat),qc2 w v x y N D:=by
 obtain⟨v0,v1,v2,v3,y0,y1,y2,y3,n,rfl,rfl,rfl,h0,h1,h2,h3⟩:=Joins.open_agg4 Tryz.underlying29 (by kernel_rfl) (by kernel_rfl) hv h
 obtain⟨z0,e0,_,w0⟩:=DataW.trod_int Tryz.underlying5 h0
 obtain⟨z1,e1,_,w1⟩:=DataW.trod_int Tryz.underlying5 h1
 simp only [qaI,and_true] at e0 e1
 subst e0 e1
 obtain⟨x,rfl,hx⟩:=wf_u8 w0
 obtain⟨y,rfl,hy⟩:=wf_u8 w1
 obtain⟨a,b,off,len,cap,N,rfl,hN,hlc,hcm,CN,WN⟩:=qgJ Tryz.underlying26 Tryz.underlying188 (by kernel_rfl) h2
 obtain⟨a',b',off',len',cap',D,rfl,hD,hlc',hcm',CD,WD⟩:=qgJ Tryz.underlying27 Tryz.underlying5 (by kernel_rfl) h3
 have hDi:ints (D.map Int.toNat)=D:=by
  unfold ints
  rw [List.map_map]
  conv=>rhs;rw [←List.map_id D]
  refine List.map_congr_left fun z hz=>?_
  obtain⟨k,rfl,_⟩:=wf_u8 (WD z hz)
  simp
 refine⟨x,y,N,D.map Int.toNat,a,b,off,len,cap,a',b',off',len',cap',rfl,hx,hy,hN,hlc,?_,by rw [qaD];exact hD,hlc',?_,CN,by rw [hDi];exact CD,fun k=>?_,fun k=>?_⟩
 ·unfold maxLen at hcm;omega
 ·unfold maxLen at hcm';omega
 ·rw [qaa]
  cases e:N[k]? with
  | none=>exact⟨by decide,by decide⟩
  | some z=>exact wf_i8 (WN z (qbe e))
 ·rw [qaa]
  cases e:(D.map Int.toNat)[k]? with
  | none=>exact (by decide:0<256)
  | some z =>
   obtain⟨z',hz',rfl⟩:=List.mem_map.1 (qbe e)
   obtain⟨k',rfl,hk'⟩:=wf_u8 (WD z' hz')
   simpa using hk'
end
end Go.Proofs.YtfminfgabiipjaaGreatDoor
