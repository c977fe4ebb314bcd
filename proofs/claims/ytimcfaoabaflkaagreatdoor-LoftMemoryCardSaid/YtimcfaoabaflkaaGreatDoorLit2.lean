/- RX: states between the pieces of lent, printed by a program. -/
import Derived.Test.YtimcfaoabaflkaaGreatDoorRun0
namespace Go.Proofs.YtimcfaoabaflkaaGreatDoor
section
namespace RX
noncomputable section
def k6_1:Blk:= .ro 32 32 aL0 .nil
def k6_2:Blk:= .ro 1 1 [.unk] .nil
def k6_5:Blk:= .ro 20 20 aL1 .nil
def k6_6:Blk:= .ro 32 32 aL2 .nil
def k6_7:Blk:= .ro 64 64 aL3 .nil
def T5:Blk:= .cells 256000 false 212 64 aL4 aT82
def k6_9:Blk:=T5
def k6_10:Blk:= .cells 6 false 129 6 aL5 aT83
def k6_11:Blk:= .map [] 0
def k6_12:Blk:= .map [] 0
def za7:Blk:= .cells 34 false 155 34 aL6 aT84
def k6_15:Blk:= .cells 33 false 142 33 aL7 (.node (some (.int .i64 3)) aT71 aT85)
def k6_54:Blk:=Al
def k6_55:Blk:=Al
def k6_56:Blk:= .cells 6 false 129 6 aL8 zb7
def k6_57:Blk:= .map [] 0
def k6_58:Blk:= .map [] 0
def k6_60:Blk:=Ri
def k6_61:Blk:=k5_61
def k6_419:Blk:=mp
def k6_555:Blk:=mp
def k6_701:Blk:= .map [] 0
def k6_731:Blk:=Dq
def k6_767:Blk:=Dp
def k6_770:Blk:=Do
def k6_824:Blk:= .cells 4 true 180 4 X9 aT75
def k6_826:Blk:= .cells 4 true 80 4 X6 .nil
def k6_830:Blk:= .cells 4 true 80 4 X6 .nil
def k6_1134:Blk:= .cells 8 true 36 4 Mp aT86
def h6:T Blk:=(.node none (.node (some k6_1) (.node none (.node (some k6_7) (.node (some k6_15) (.node none (.node none (.node none (.node none .nil (.node (some k6_767) .nil .nil)) .nil) .nil) .nil) .nil) (.node none .nil (.node (some k6_55) .nil .nil))) (.node (some k6_11) (.node none (.node none .nil (.node none (.node none .nil (.node (some k6_419) .nil .nil)) .nil)) .nil) (.node none (.node none .nil (.node none (.node none (.node none (.node (some k6_555) .nil .nil) .nil) .nil) .nil)) (.node none (.node none .nil (.node none .nil (.node none (.node (some k6_731) .nil .nil) .nil))) .nil)))) (.node (some k6_5) (.node (some k6_9) .nil (.node none .nil (.node (some k6_57) .nil .nil))) (.node none .nil (.node none .nil (.node (some k6_61) .nil (.node none (.node none .nil (.node none (.node (some k6_701) .nil .nil) .nil)) .nil)))))) (.node (some k6_2) (.node none (.node (some T5) .nil (.node none .nil (.node (some k6_56) .nil (.node none (.node none (.node none .nil (.node (some k6_824) .nil .nil)) .nil) .nil)))) (.node (some k6_12) .nil (.node none .nil (.node (some k6_60) .nil .nil)))) (.node (some k6_6) (.node (some k6_10) (.node none (.node none (.node none (.node none (.node none .nil (.node (some k6_770) .nil .nil)) .nil) .nil) .nil) .nil) (.node none .nil (.node (some k6_58) .nil (.node none (.node none (.node none .nil (.node (some k6_826) .nil .nil)) .nil) .nil)))) (.node (some za7) (.node none .nil (.node (some k6_54) .nil .nil)) (.node none (.node none .nil (.node none .nil (.node none (.node none (.node none (.node (some k6_1134) .nil .nil) .nil) .nil) .nil))) (.node none .nil (.node none (.node none (.node none .nil (.node (some k6_830) .nil .nil)) .nil) .nil)))))))
def s6:St:=⟨h6,1135,175015376742098362936184343371008302392241127266995988879687975814831553564325345752689299822541493471712568119842060456296359597159702046416772475823995951567554245833883826809085607581347528092866206650324997333288866356123685711712820144804651212041547946062471158193959299998753376922480821444850018371876750254582634338002069442673901216,59016646045181600256831337231698696985923396555415025854741318288328768354912427622746634676403257933913226344804042438441022869947519008628389655343849514693383848139219125407324080550749989398052781606722552881020407300775622052747724625963312889472315302873018517781942295501164580794371363405623274116871521251251810855909314806870951680⟩
def f6:Fr:=⟨300,(.node (some (.bool false)) (.node none (.node none (.node (some (.ptr 15 0)) .nil (.node (some (.slu 830 0 1 4)) .nil .nil)) .nil) (.node none (.node none .nil (.node (some (.int .i64 0)) .nil .nil)) (.node none (.node (some (.str [])) .nil .nil) .nil))) (.node none (.node none (.node (some (.ptr 61 0)) .nil (.node (some (.int .i64 2)) .nil .nil)) (.node none (.node (some (.int .i64 0)) .nil .nil) .nil)) (.node none .nil (.node none (.node (some (.int .i64 0)) .nil .nil) .nil)))),[]⟩
def keep6:List Nat:=[0,1,2,3,4,5,6,7,8,9,10,11,12,14,15,54,55,56,57,58,60,61,419,555,701,731,767,770,824,826,830,1134]
def tm6:List Nat:=[20,22,25,21,24,23,7,8,0]
def k7_1:Blk:= .ro 32 32 aL0 .nil
def k7_2:Blk:= .ro 1 1 [.unk] .nil
def k7_5:Blk:= .ro 20 20 aL1 .nil
def k7_6:Blk:= .ro 32 32 aL2 .nil
def k7_7:Blk:= .ro 64 64 aL3 .nil
def k7_8:Blk:=T5
def k7_9:Blk:=T5
def k7_10:Blk:= .cells 6 false 129 6 aL5 aT83
def k7_11:Blk:= .map [] 0
def k7_12:Blk:= .map [] 0
def k7_14:Blk:=za7
def k7_15:Blk:= .cells 33 false 142 33 aL7 aT87
def k7_54:Blk:=Al
def k7_55:Blk:=Al
def k7_56:Blk:= .cells 6 false 129 6 aL8 zb7
def k7_57:Blk:= .map [] 0
def k7_58:Blk:= .map [] 0
def k7_60:Blk:=Ri
def k7_61:Blk:= .cells 33 false 142 33 aL10 (.node (some (.int .i64 3)) (.node (some (.int .i64 1)) (.node (some (.val (.slice none 0 0))) (.node (some (.int .i64 0)) (.node (some (.int .i64 0)) (.node (some (.map 1209)) .nil .nil) .nil) uq) l6) aT52) (.node (some (.val (.slice none 0 0))) aT58 (.node (some (.int .i64 2)) l6 l6)))
def k7_419:Blk:=mp
def k7_555:Blk:=mp
def k7_731:Blk:=Dq
def k7_770:Blk:=Do
def k7_824:Blk:= .cells 4 true 180 4 X9 aT75
def k7_826:Blk:= .cells 4 true 80 4 X6 .nil
def k7_1134:Blk:= .cells 8 true 36 4 Mp aT86
def k7_1209:Blk:= .map [] 0
def k7_1303:Blk:=Dp
def h7:T Blk:=(.node none (.node (some k7_1) (.node none (.node (some k7_7) (.node (some k7_15) .nil .nil) (.node none .nil (.node (some k7_55) (.node none (.node none (.node none .nil (.node none (.node (some k7_1303) .nil .nil) .nil)) .nil) .nil) .nil))) (.node (some k7_11) (.node none (.node none .nil (.node none (.node none .nil (.node (some k7_419) .nil .nil)) .nil)) .nil) (.node none (.node none .nil (.node none (.node none (.node none (.node (some k7_555) .nil .nil) .nil) .nil) .nil)) (.node none (.node none .nil (.node none .nil (.node none (.node (some k7_731) .nil .nil) .nil))) .nil)))) (.node (some k7_5) (.node (some k7_9) .nil (.node none .nil (.node (some k7_57) .nil (.node none (.node none .nil (.node none (.node none (.node (some k7_1209) .nil .nil) .nil) .nil)) .nil)))) (.node none .nil (.node none .nil (.node (some k7_61) .nil .nil))))) (.node (some k7_2) (.node none (.node (some k7_8) .nil (.node none .nil (.node (some k7_56) .nil (.node none (.node none (.node none .nil (.node (some k7_824) .nil .nil)) .nil) .nil)))) (.node (some k7_12) .nil (.node none .nil (.node (some k7_60) .nil .nil)))) (.node (some k7_6) (.node (some k7_10) (.node none (.node none (.node none (.node none (.node none .nil (.node (some k7_770) .nil .nil)) .nil) .nil) .nil) .nil) (.node none .nil (.node (some k7_58) .nil (.node none (.node none (.node none .nil (.node (some k7_826) .nil .nil)) .nil) .nil)))) (.node (some k7_14) (.node none .nil (.node (some k7_54) .nil .nil)) (.node none (.node none .nil (.node none .nil (.node none (.node none (.node none (.node (some k7_1134) .nil .nil) .nil) .nil) .nil))) .nil)))))
def s7:St:=⟨h7,1315,692680503454211761224299935475092290714609282774291765835842301148035851843566427641571003444425163808326117208922828888267976097828650124635714924451771029866929790005876628861734890439897431682562966916753579981565934364530300718864696483475637596005697437750630240956712920936115653428811155483238841032989613018380654191857921885544479339938343353536693196924180276714271626926723356476440224,678732812766508109755791715495815060195239714783070672860139005604220923815737184854979080963519273948678295027523876761186537413873677150676229632553837879286099058703197850195069060664725162544865634838618463075891561953408564504858862572142746620495984274798495227654916276076048829894950692585252551111914701761369692569843135524901639070536217593283605014520645764176693692627907461245290240⟩
def f7:Fr:=⟨300,(.node (some (.bool false)) (.node none (.node none (.node (some (.ptr 15 0)) .nil .nil) (.node none .nil (.node (some (.int .i64 0)) .nil .nil))) (.node none .nil (.node none .nil (.node (some (.int .i64 0)) .nil .nil)))) (.node none (.node none (.node (some (.ptr 61 0)) .nil .nil) (.node none .nil (.node (some (.str [112,111,115,116,32,50,10,48,32,49,32,49,32,110,101,119,32,49,48,48,32,49,10,48,32,50,32,52,32,107,101,101,112,32,56,32,49,10])) .nil .nil))) (.node none (.node none .nil (.node (some (.str [104,97,118,101,32,48,32,48,32,48,10])) .nil .nil)) .nil))),[]⟩
def keep7:List Nat:=[0,1,2,3,4,5,6,7,8,9,10,11,12,14,15,54,55,56,57,58,60,61,419,555,731,770,824,826,1134,1209,1303]
def tm7:List Nat:=[8,28,7,26,27,29,0]
def k8_1:Blk:= .ro 32 32 aL0 .nil
def k8_2:Blk:= .ro 1 1 [.unk] .nil
def k8_5:Blk:= .ro 20 20 aL1 .nil
def k8_6:Blk:= .ro 32 32 aL2 .nil
def k8_7:Blk:= .ro 64 64 aL3 .nil
def k8_8:Blk:=T5
def k8_9:Blk:=T5
def k8_10:Blk:= .cells 6 false 129 6 aL5 aT83
def k8_11:Blk:= .map [] 0
def k8_12:Blk:= .map [] 0
def k8_14:Blk:=za7
def k8_15:Blk:=k7_15
def k8_419:Blk:=mp
def k8_731:Blk:=Dq
def k8_770:Blk:=Do
def k8_824:Blk:= .cells 4 true 180 4 X9 aT75
def k8_826:Blk:= .cells 4 true 80 4 X6 .nil
def k8_1134:Blk:= .cells 8 true 36 4 Mp aT86
def k8_1303:Blk:=Dp
def h8:T Blk:=(.node none (.node (some k8_1) (.node none (.node (some k8_7) (.node (some k8_15) .nil .nil) (.node none .nil (.node none (.node none (.node none (.node none .nil (.node none (.node (some k8_1303) .nil .nil) .nil)) .nil) .nil) .nil))) (.node (some k8_11) (.node none (.node none .nil (.node none (.node none .nil (.node (some k8_419) .nil .nil)) .nil)) .nil) (.node none .nil (.node none (.node none .nil (.node none .nil (.node none (.node (some k8_731) .nil .nil) .nil))) .nil)))) (.node (some k8_5) (.node (some k8_9) .nil .nil) .nil)) (.node (some k8_2) (.node none (.node (some k8_8) .nil (.node none .nil (.node none .nil (.node none (.node none (.node none .nil (.node (some k8_824) .nil .nil)) .nil) .nil)))) (.node (some k8_12) .nil .nil)) (.node (some k8_6) (.node (some k8_10) (.node none (.node none (.node none (.node none (.node none .nil (.node (some k8_770) .nil .nil)) .nil) .nil) .nil) .nil) (.node none .nil (.node none .nil (.node none (.node none (.node none .nil (.node (some k8_826) .nil .nil)) .nil) .nil)))) (.node (some k8_14) .nil (.node none (.node none .nil (.node none .nil (.node none (.node none (.node none (.node (some k8_1134) .nil .nil) .nil) .nil) .nil))) .nil)))))
def s8:St:=⟨h8,1610,17073546211739402437802796852150826313834516045834190270622187695629640539868081790814488943644187223262051881289662206753565682777206354274411602161608127575509047268218411058727919883360844846585502064005175811669439124114520264395433577696072816197177826623291761403924745738801083501039106396387531065388225246713170427745969226159761720523227918759421739223050549141949086054475155126822035179500225658298205115167663791397096747852887804550028769039195313616247189906399457836704,5741736760341297311779044979124016531341939431660409267759012295788573096572548189895830010464151618200858800128281723255227200768119096336988125116131114932072451281801592953190896868674226254388626221744830474555691663391179151302267141789158336389933977377573765675600220829682061687626947248365301018270541871864177799123824447824310142363472224473947735048630913172241991889478337548318681715152203767358830748058982351051547301687153207362112296408248199097706569209202155702016⟩
def f8:Fr:=⟨300,(.node (some (.bool false)) (.node none (.node none (.node (some (.ptr 15 0)) .nil .nil) (.node none .nil (.node (some (.int .i64 0)) .nil .nil))) (.node none .nil (.node none .nil (.node (some (.int .i64 0)) .nil .nil)))) (.node none (.node none .nil (.node none .nil (.node (some (.str [112,111,115,116,32,50,10,48,32,49,32,49,32,110,101,119,32,49,48,48,32,49,10,48,32,50,32,52,32,107,101,101,112,32,56,32,49,10])) .nil .nil))) (.node none (.node none .nil (.node (some (.str [104,97,118,101,32,50,32,48,32,48,10])) .nil .nil)) (.node none .nil (.node (some (.int .i64 0)) .nil .nil))))),[]⟩
def keep8:List Nat:=[0,1,2,3,4,5,6,7,8,9,10,11,12,14,15,419,731,770,824,826,1134,1303]
def tm8:List Nat:=[7,26,27,29,30,28,0]
def k9_1:Blk:= .ro 32 32 aL0 .nil
def k9_2:Blk:= .ro 1 1 [.unk] .nil
def k9_5:Blk:= .ro 20 20 aL1 .nil
def k9_6:Blk:= .ro 32 32 aL2 .nil
def k9_7:Blk:= .ro 64 64 aL3 .nil
def k9_8:Blk:= .cells 256000 false 212 64 aL4 aT90
def k9_9:Blk:=k9_8
def k9_10:Blk:= .cells 6 false 129 6 aL5 (.node none (.node none .nil (.node (some (.int .i64 (-10))) .nil .nil)) Mo)
def k9_11:Blk:= .map [] 0
def k9_12:Blk:= .map [] 0
def k9_14:Blk:= .cells 34 false 155 34 aL6 (.node none (.node (some (.int .i64 5)) E8 E8) zb6)
def k9_15:Blk:= .cells 33 false 142 33 aL7 (.node (some (.int .i64 3)) (.node (some (.int .i64 0)) (.node (some (.slu 1741 0 1 4)) (.node (some (.int .i64 0)) (.node (some (.int .i64 0)) (.node (some (.map 1653)) .nil .nil) .nil) uq) (.node (some (.int .i64 2)) uq uq)) (.node (some (.slu 1739 0 1 4)) l6 l6)) (.node (some (.slu 1134 0 2 4)) (.node (some (.map 1745)) l6 l6) aT54))
def k9_731:Blk:=Dq
def k9_770:Blk:=Do
def k9_1134:Blk:= .cells 8 true 36 4 Mp aT86
def k9_1653:Blk:=Dp
def k9_1739:Blk:= .cells 4 true 80 4 X6 (.node none .nil (.node (some (.int .i64 7)) .nil .nil))
def k9_1741:Blk:= .cells 4 true 180 4 [(.int .i64 8),(.int .i64 9),(.bool false),(.bool false)] (.node none (.node none (.node (some (.bool true)) .nil .nil) .nil) aT74)
def k9_1745:Blk:= .map [⟨(.int .i64 8),(.agg [(.int .i64 8),(.int .i64 0),(.int .i64 1),(.int .i64 7)]),0⟩] 1
def h9:T Blk:=(.node none (.node (some k9_1) (.node none (.node (some k9_7) (.node (some k9_15) .nil .nil) .nil) (.node (some k9_11) .nil (.node none (.node none (.node none .nil (.node none .nil (.node none (.node none .nil (.node (some k9_1739) .nil .nil)) .nil))) .nil) (.node none (.node none .nil (.node none .nil (.node none (.node (some k9_731) .nil .nil) .nil))) .nil)))) (.node (some k9_5) (.node (some k9_9) (.node none .nil (.node none (.node none .nil (.node none .nil (.node none (.node none .nil (.node (some k9_1745) .nil .nil)) .nil))) .nil)) .nil) (.node none (.node none .nil (.node none .nil (.node none .nil (.node none (.node none (.node none .nil (.node (some k9_1653) .nil .nil)) .nil) .nil)))) (.node none (.node none (.node none .nil (.node none .nil (.node none (.node none .nil (.node (some k9_1741) .nil .nil)) .nil))) .nil) .nil)))) (.node (some k9_2) (.node none (.node (some k9_8) .nil .nil) (.node (some k9_12) .nil .nil)) (.node (some k9_6) (.node (some k9_10) (.node none (.node none (.node none (.node none (.node none .nil (.node (some k9_770) .nil .nil)) .nil) .nil) .nil) .nil) .nil) (.node (some k9_14) .nil (.node none (.node none .nil (.node none .nil (.node none (.node none (.node none (.node (some k9_1134) .nil .nil) .nil) .nil) .nil))) .nil)))))
def s9:St:=⟨h9,1758,16243490528292784232783454163874927957190174523117752273330174898276315709535419277176352411354612354271476623693092826618732984335743150442193556552380041573583271605678957667022134306695354124420395298537191224453744699838035772395426813552720978550565330281142647897363986129441966095016649788801174380752949980595697127997998289399979315432449248531244051832873035761921585199078725595834161077196538669900708126735671747595816594658605894101240333460783825584134863541658586832893331123890739901451314665894604439081629646496,34618678355738021020631220775905147207801908093146424775543391913348684607019902759223001419744772721479870593306741219685646751077168190455147961364193928620065111841633212532101697112999934159071163455528329637004060958851337754942621581385127582046115555096143946281243421485823414151263951445270717752631064394379447180157489992990133517377290759130843945777723131444637034237423699094411200403275204813771822611706946105479987749265799802047492224658563107360770360683477191279424522436818256365052404022340388500227475200⟩
def f9:Fr:=⟨300,(.node (some (.bool false)) (.node none (.node none (.node (some (.ptr 15 0)) .nil .nil) .nil) .nil) .nil),[]⟩
def keep9:List Nat:=[0,1,2,3,4,5,6,7,8,9,10,11,12,14,15,731,770,1134,1653,1739,1741,1745]
def tm9:List Nat:=[7,0]
def k10_1:Blk:= .ro 32 32 aL0 .nil
def k10_2:Blk:= .ro 1 1 [.unk] .nil
def k10_5:Blk:= .ro 20 20 aL1 .nil
def k10_6:Blk:= .ro 32 32 aL2 .nil
def k10_7:Blk:= .ro 64 64 aL3 .nil
def zbd:Blk:= .cells 13 true 47 13 [(.int .i64 8),(.int .i64 100),(.int .i64 0),(.int .u64 1),(.int .u64 0),(.int .u64 0),(.int .u64 0),(.int .u64 0),(.int .u64 0),(.int .u64 0),(.int .u64 0),(.val (.slice none 0 0)),(.val (.slice none 0 0))] (.node none (.node none (.node none .nil (.node (some (.slu 1936 0 1 8)) .nil .nil)) .nil) .nil)
def zbc:Blk:= .cells 8 true 39 8 [(.int .u64 1),(.int .u64 0),(.int .u64 0),(.int .u64 0),(.int .u64 0),(.int .u64 0),(.int .u64 0),(.int .u64 0)] .nil
def zbb:Blk:= .cells 2 true 29 1 [(.int .i64 0)] (.node none uq .nil)
def zba:Blk:= .cells 1 false 27 1 [(.slu 1817 0 1 13)] .nil
def h10:T Blk:=(.node none (.node (some k10_1) (.node none (.node (some k10_7) .nil .nil) (.node none (.node none .nil (.node none (.node none (.node none .nil (.node none .nil (.node none .nil (.node (some zba) .nil .nil)))) .nil) .nil)) .nil)) (.node (some k10_5) (.node none .nil (.node none .nil (.node none (.node none (.node none (.node none .nil (.node none .nil (.node (some zbd) .nil .nil))) .nil) .nil) .nil))) .nil)) (.node (some k10_2) (.node none (.node none (.node none .nil (.node none (.node none (.node none .nil (.node none .nil (.node none .nil (.node (some zbc) .nil .nil)))) .nil) .nil)) .nil) .nil) (.node (some k10_6) (.node none (.node none .nil (.node none (.node none (.node none .nil (.node none .nil (.node none .nil (.node (some zbb) .nil .nil)))) .nil) .nil)) .nil) .nil)))
def s10:St:=⟨h10,1940,18665140454111549959314314451136904672580321115335305296206295093365819018594539722324979908755098593672755037906353057818424249889326012276001461432548171586170208266732979230226733931821984520741493952814742148156359915654516252235015265713095834301781604387590883642754015335237026273796057602250877392852616028835366689592569359244840754467109399039387223579290256741012664646025285273801239940738828824646536641360564209721484777857665710396734621632093613760785853538086545721106281473883312913386639375665882482126001991696054195740790639138405793791229311519364206414054424224,50104822503262255257038285035589287804895854691878706162173622604409678442007371142894866256754977974524964979760179369893922257184645004929578007709058120582286394191151837373404933029795598704364822702035526479342882949784923493622230117485778076184229272960626765526858761603847511987585405217755767283278933748091381273799795969447748301006438250634914988608987649069487693489696039428006862313321680762235884732514517692085805269476981776708032171259530282799084591717829019210078690920994558792929589535594997842045292141495158483240442311237848754273931595087227011037879846656⟩
def f10:Fr:=⟨300,(.node (some (.bool false)) (.node none .nil (.node none (.node none (.node none (.node (some (.slu 1938 0 2 1)) .nil .nil) .nil) .nil) .nil)) (.node none (.node none (.node none (.node none (.node (some (.ptr 1939 0)) .nil .nil) .nil) .nil) .nil) (.node none (.node none (.node none (.node (some (.int .i64 0)) .nil .nil) .nil) .nil) .nil))),[]⟩
def keep10:List Nat:=[0,1,2,3,4,5,6,7,1817,1936,1938,1939]
def tm10:List Nat:=[34,33,32,0]
end
end RX
end
section
namespace RX
noncomputable section
noncomputable def d0:Code:=body8
noncomputable def d1:Code:=ik 5 d0
noncomputable def d2:Code:=ik 1 d1
noncomputable def d3:Code:=ik 2 d2
noncomputable def d4:Code:=ik 2 d3
noncomputable def d5:Code:=ik 3 d4
noncomputable def d6:Code:=ik 2 d5
noncomputable def d7:Code:=ik 3 d6
noncomputable def d8:Code:=ik 1 d7
noncomputable def d9:Code:=ik 3 d8
noncomputable def d10:Code:=ik 1 d9
end
end RX
end
end Go.Proofs.YtimcfaoabaflkaaGreatDoor
